/- What a machine on values does is what the program does. -/
import Derived.Test.YtpdlhcgmejadnaaGreatVm2
open Option.some renaming inj->za,injEq->zm
open Bool renaming and_eq_true->zb,or_eq_true->zf,false_eq_true->zi,not_eq_true'->zn,false_or->zO,or_eq_false_iff->zQ,not_or->yc,or_false->yg
open Nat renaming eq_of_beq_eq_true->zc,blt->ze,le_of_ble_eq_true->zk,beq_refl->zl,beq->zs,ble_eq_true_of_le->zu,lt_or_ge->zv,le_refl->zz,decEq->zH,lt_irrefl->zP,strongRecOn->zR,zero_add->zS,lt_trichotomy->zW,decLe->z4,lt_succ_of_lt->z8,lt_succ_self->ya
open Array renaming getD_eq_getD_getElem?->zd,getElem?_eq_some_iff->zg,getElem?_toList->zh,getElem?_eq_none->zt,mem_of_getElem?->zw,all_eq_true_iff_forall_mem->zM,getElem?_setIfInBounds->zU
open List renaming mem_cons->zj,getElem?_eq_getElem->zo,mem_singleton->zq,mem_map->zx,getElem?_cons_zero->zy,mem_filter->zA,mem_iff_getElem?->zB,getElem?_eq_none->zC,eq_nil_iff_forall_not_mem->zD,getElem?_map->zE,getElem?_cons_succ->zF,mem_append->zG,range->zJ,map_cons->zN,map_congr_left->zT,countP_eq_zero->zV,getLast?_cons_cons->zX,drop_of_length_le->zZ,mem_of_getElem?->z0,mem_append_left->z1,map_eq_nil_iff->z2,mem_filterMap->z3,getElem?_set->z6,ext_getElem?->z7,filter_cons->z9,countP_cons->yb,length_set->yd,mem_range->yf
open Option renaming getD_some->zp,map_some->zr,bind_some->zK,map_none->zL,bind_assoc->z5,none_or->ye
open Prod.mk renaming injEq->zI
open List.cons renaming injEq->zY
set_option linter.unusedSimpArgs false
set_option linter.unusedVariables false
section
namespace Go.Vm
theorem b0E {r:Nat} {σ:St}:∀ (xs:List Operand),TV.usesL r (xs.map (a0x σ))=true->∃ x∈xs,(a0x σ x).uses r=true:=by
 intro xs;induction xs with
 | nil=>intro h;simp[TV.usesL]at h
 | cons x xs ih =>
   intro h;simp only[zN,TV.usesL,zf]at h;rcases h with h|h
   . exact⟨x,by simp,h⟩
   . obtain⟨y,hy,h⟩:=ih h;exact⟨y,by simp[hy],h⟩
theorem b3p {r:Nat}:∀ (ts ts':List TV),TV.usesL r (ts++ts')=true->TV.usesL r ts=true∨TV.usesL r ts'=true:=by
 intro ts;induction ts with
 | nil=>intro ts' h;exact .inr h
 | cons t ts ih =>
   intro ts' h;simp only[List.cons_append,TV.usesL,zf]at h ⊢;rcases h with h|h
   . exact .inl (.inl h)
   . exact(ih ts' h).imp .inr id
theorem b3r {r:Nat}:∀ (ts:List TV) (i:Nat),(nth ts i .dead).uses r=true->TV.usesL r ts=true:=by
 intro ts;induction ts with
 | nil=>intro i h;simp[nth,TV.uses]at h
 | cons t ts ih =>
   intro i h;cases i with
   | zero=>simp only[TV.usesL,zf];exact .inl h
   | succ i=>simp only[TV.usesL,zf];exact .inr (ih i h)
theorem a9L {R:Type} {c:Ctx} {asg:Bool} {o:Oper} {x:Operand} (hx:a3B x=true) (σ:St) (k:St->Option R):a5m c asg o x σ k=(match o.dst with
   | none=>none
   | some d=>match c.tab o.type with
     | some ⟨false,.sl t,_,_⟩=>k ((σ.new (4*d) ⟨false,[⟨.sl t,.deep,[]⟩]⟩).put (some d) (.view (4*d) (.root 0) 1 false))
     | _=>none):=by
 unfold a3B at hx;split at hx
 . rfl
 . cases hx
theorem a7a {R:Type} {c:Ctx} {asg:Bool} {o:Oper} {x:Operand} (hx:a3B x=false) {σ:St} (hp:asg=true->b0o (a0x σ x)=true) (k:St->Option R):a5m c asg o x σ k=(match o.dst with
   | none=>none
   | some d=>k (σ.put (some d) (a0x σ x))):=by
 unfold a5m;cases hd:o.dst with
 | none=>rfl
 | some d =>
   simp only[];split
   . cases hx
   . cases asg with
     | false=>rfl
     | true =>
       have:=hp rfl;generalize a0x σ x=t at *;cases t<;>first
         | rfl
         | cases this
theorem a7V {c:Ctx} {asg:Bool} {o:Oper} {x:Operand} {σ σ1:St} (ho:o.op = .move x/\asg=false∨o.op = .assign x/\asg=!a4A c o) (hn:o.op = .assign x->a3B x=false) (hp:asg=true->b0o (a0x σ x)=true)
   (h:a5m c asg o x σ some=some σ1):∃ N t,Local c o σ N t:=by
 have hops:∀ y,y∈o.op.operands↔y=x:=by
   intro y;rcases ho with⟨ho,_⟩|⟨ho,_⟩<;>simp[ho,Op.operands]
 have hstep:∀ (σ':St) {R:Type} (k:St->Option R),a0C c o σ' k=a5m c asg o x σ' k:=by
   intro σ' R k;rcases ho with⟨ho,rfl⟩|⟨ho,rfl⟩<;>simp[a0C,ho]
 cases hx:a3B x with
 | true =>
   rw[a9L hx]at h;cases hd:o.dst with
   | none=>rw[hd]at h;cases h
   | some d =>
     rw[hd]at h;simp only[]at h;split at h
     . rename_i t e fs hT;refine⟨[(4*d,⟨false,[⟨.sl t,.deep,[]⟩]⟩)],.view (4*d) (.root 0) 1 false,fun σ' _ R k=>?_,fun r hr => .inr ?_,fun p hp=>?_,by simp⟩
       . rw[hstep,a9L hx,hd];simp only[hT,a2w]
       . simp only[TV.uses]at hr;simp[(zc hr).symm]
       . simp only[zq]at hp;subst hp;refine⟨?_,d,hd,zz _,by simp only[];omega⟩;rcases ho with⟨ho,_⟩|⟨ho,ha⟩
         . simp[adds,ho,hx]
         . have:=hn ho;rw[hx]at this;cases this
     . cases h
 | false =>
   rw[a7a hx hp]at h;cases hd:o.dst with
   | none=>rw[hd]at h;cases h
   | some d =>
     refine⟨[],a0x σ x,.quiet (fun σ' ha R k=>?_) fun r hr=>⟨x,(hops x).2 rfl,hr⟩⟩;have he:=ha.tv x ((hops x).2 rfl);rw[hstep,a7a hx (fun e=>by rw[he];exact hp e),hd,he]
theorem a2G {c:Ctx} {o:Oper} {σ:St} {t:TV} (f:∀ {R:Type},St->(TV->Option R)->Option R) (hstep:∀ (σ':St) {R:Type} (k:St->Option R),a0C c o σ' k=f σ' fun t=>k (σ'.put o.dst t))
   (hf:∀ σ',Agree o σ σ'->∀ {R:Type} (k:TV->Option R),f σ' k=k t) (hu:∀ r,t.uses r=true->∃ x∈o.op.operands,(a0x σ x).uses r=true):Local c o σ [] t :=
 .quiet (fun σ' ha R k=>by rw[hstep,hf σ' ha]) hu
theorem b3C {c:Ctx} {o:Oper} {op:BinOp} {T T':TypeId} {x y:Operand} {σ σ1:St} (ho:o.op = .binOp op T x y T') (h:a0C c o σ some=some σ1):∃ N t,Local c o σ N t:=by
 have hx:x∈o.op.operands:=by simp[ho,Op.operands]
 have hy:y∈o.op.operands:=by simp[ho,Op.operands]
 have hstep:∀ (σ':St) {R:Type} (k:St->Option R),a0C c o σ' k=binC c op T (a0x σ' x) (a0x σ' y) fun t=>k (σ'.put o.dst t):=by intro σ' R k;simp[a0C,ho]
 rw [hstep] at h;have key:∃ t,(∀ {R:Type} (k:TV->Option R),binC c op T (a0x σ x) (a0x σ y) k=k t)/\∀ r,t.uses r=false:=by
   unfold binC at h ⊢;split at h
   . unfold b0A at h ⊢;split at h
     case h_2=>cases h
     rename_i kx av ky bv hax hay;split at h
     . cases h
     rename_i hb;simp only[if_neg hb];split at h
     . exact⟨_,fun k=>rfl,fun r=>rfl⟩
     . exact⟨_,fun k=>rfl,fun r=>rfl⟩
     . cases h
   split at h
   case h_2 =>
     unfold eqK at h ⊢;split at h
     . cases h
     split at h
     . split at h
       . unfold eqB at h ⊢;split at h
         . exact⟨_,fun k=>rfl,fun r=>rfl⟩
         . exact⟨_,fun k=>rfl,fun r=>rfl⟩
         . cases h
       . cases h
     . split at h
       . split at h
         . split at h
           . unfold eqB at h ⊢;split at h
             . exact⟨_,fun k=>rfl,fun r=>rfl⟩
             . exact⟨_,fun k=>rfl,fun r=>rfl⟩
             . cases h
           . cases h
         . cases h
       . cases h
   unfold binK at h ⊢;split at h
   . rename_i kx a ky b h1 h2
     try simp only[h1,h2]
     split at h
     . cases h
     . rename_i hk _
       try simp only[*]
       split at h<;>(try simp only[])<;>first
         | exact⟨_,fun k=>rfl,fun r=>rfl⟩
         | (split at h
            . cases h
            . rename_i hb;exact⟨_,fun k=>by rw[if_neg hb],fun r=>rfl⟩)
         | cases h
   . cases h
 obtain⟨t,h1,h2⟩:=key;refine⟨[],t,a2G (fun σ' k=>binC c op T (a0x σ' x) (a0x σ' y) k) hstep (fun σ' ha R k=>?_) fun r hr=>by rw[h2]at hr;cases hr⟩
 try simp only[]
 rw[ha.tv x hx,ha.tv y hy];exact h1 k
theorem b4M {c:Ctx} {o:Oper} {op:UnOp} {T:TypeId} {x:Operand} {σ σ1:St} (ho:o.op = .unOp op T x) (h:a0C c o σ some=some σ1):∃ N t,Local c o σ N t:=by
 have hx:x∈o.op.operands:=by simp[ho,Op.operands]
 have hstep:∀ (σ':St) {R:Type} (k:St->Option R),a0C c o σ' k=unK op (a0x σ' x) fun t=>k (σ'.put o.dst t):=by intro σ' R k;simp[a0C,ho]
 rw[hstep]at h;have key:∃ t,(∀ {R:Type} (k:TV->Option R),unK op (a0x σ x) k=k t)/\∀ r,t.uses r=false:=by
   unfold unK at h ⊢;split at h
   . split at h
     . rename_i kx a h1
       try simp only[h1]
       exact⟨_,fun k=>rfl,fun r=>rfl⟩
     . cases h
   . split at h
     . rename_i b h1
       try simp only[h1]
       exact⟨_,fun k=>rfl,fun r=>rfl⟩
     . cases h
   . cases h
 obtain⟨t,h1,h2⟩:=key;refine⟨[],t,a2G (fun σ' k=>unK op (a0x σ' x) k) hstep (fun σ' ha R k=>?_) fun r hr=>by rw[h2]at hr;cases hr⟩
 try simp only[]
 rw[ha.tv x hx];exact h1 k
theorem b2B {c:Ctx} {o:Oper} {T:TypeId} {x:Operand} {σ σ1:St} (ho:o.op = .load T x) (h:a0C c o σ some=some σ1):∃ N t,Local c o σ N t:=by
 have hx:x∈o.op.operands:=by simp[ho,Op.operands]
 have hstep:∀ (σ':St) {R:Type} (k:St->Option R),a0C c o σ' k=a6S c T (a0x σ' x) σ' fun t=>k (σ'.put o.dst t):=by intro σ' R k;simp[a0C,ho]
 rw[hstep]at h;have key:∃ t,(∀ σ',a3J σ σ' (a0x σ x)->∀ {R:Type} (k:TV->Option R),a6S c T (a0x σ x) σ' k=k t)/\∀ r,t.uses r=true->(a0x σ x).uses r=true:=by
   unfold a6S at h ⊢;split at h
   . cases h
   . rename_i i hi
     try simp only[hi]
     split at h
     . rename_i cs he;rw[he];split at h
       . rename_i hle _;exact⟨.val i.agg (cs.take i.t.sz),fun σ' _ R k=>rfl,fun r hr=>by cases hr⟩
       . cases h
     . rename_i q p he;rw[he];split at h
       . rename_i t ht;refine⟨t,fun σ' ha R k=>?_,fun r hr=>?_⟩
         . have:a4T σ' q p i.t.sz i.agg=a4T σ q p i.t.sz i.agg:=by unfold a4T;rw[ha q (a8t q p)]
           simp only[this,ht]
         . unfold a4T at ht;split at ht
           . split at ht
             . obtain rfl:=za ht;cases hr
             . obtain rfl:=za ht;exact hr
             . cases ht
           . cases ht
       . cases h
     . rename_i t he;rw[he];split at h
       . exact⟨t,fun σ' _ R k=>by simp only[*],fun r hr=>by simpa[TV.uses]using hr⟩
       . cases h
     . cases h
 obtain⟨t,h1,h2⟩:=key;refine⟨[],t,a2G (fun σ' k=>a6S c T (a0x σ' x) σ' k) hstep (fun σ' ha R k=>?_) fun r hr=>⟨x,hx,h2 r hr⟩⟩
 try simp only[]
 rw[ha.tv x hx];exact h1 σ' (ha.rs x hx) k
theorem a6T {c:Ctx} {o:Oper} {T:TypeId} {x:Operand} {f:Nat} {σ σ1:St} (ho:o.op = .fieldAddr T x f) (h:a0C c o σ some=some σ1):∃ N t,Local c o σ N t:=by
 have hx:x∈o.op.operands:=by simp[ho,Op.operands]
 have hstep:∀ (σ':St) {R:Type} (k:St->Option R),a0C c o σ' k=a1Z c σ' T (a0x σ' x) f fun t=>k (σ'.put o.dst t):=by intro σ' R k;simp[a0C,ho]
 rw[hstep]at h;have key:∃ t,(∀ σ',a3J σ σ' (a0x σ x)->∀ {R:Type} (k:TV->Option R),a1Z c σ' T (a0x σ x) f k=k t)/\∀ r,t.uses r=true->(a0x σ x).uses r=true:=by
   unfold a1Z at h ⊢;split at h
   . cases h
   . rename_i i hi
     try simp only[hi]
     split at h
     . cases h
     . rename_i off sz ag hfs
       try simp only[hfs]
       split at h
       . rename_i sb cs he;rw[he];split at h
         . rename_i hle _;exact⟨.rptr sb (cs.drop off),fun σ' _ R k=>by simp only[*],fun r hr=>by cases hr⟩
         . cases h
       . rename_i q p he;rw[he];split at h
         . rename_i root hroot;split at h
           . rename_i hle hle2;exact⟨.ref q (p.addJ off),fun σ' ha R k=>by simp only[ha q (a8t q p),hroot,hle2],fun r hr=>hr⟩
           . cases h
         . cases h
       . cases h
 obtain⟨t,h1,h2⟩:=key;refine⟨[],t,a2G (fun σ' k=>a1Z c σ' T (a0x σ' x) f k) hstep (fun σ' ha R k=>?_) fun r hr=>⟨x,hx,h2 r hr⟩⟩
 try simp only[]
 rw[ha.tv x hx];exact h1 σ' (ha.rs x hx) k
theorem a6U {c:Ctx} {o:Oper} {T:TypeId} {x y:Operand} {σ σ1:St} (ho:o.op = .indexAddr T x y) (h:a0C c o σ some=some σ1):∃ N t,Local c o σ N t:=by
 have hx:x∈o.op.operands:=by simp[ho,Op.operands]
 have hy:y∈o.op.operands:=by simp[ho,Op.operands]
 have hstep:∀ (σ':St) {R:Type} (k:St->Option R),a0C c o σ' k=a0p c σ' T (a0x σ' x) (a0x σ' y) fun t=>k (σ'.put o.dst t):=by intro σ' R k;simp[a0C,ho]
 rw[hstep]at h;have key:∃ t,(∀ σ',a3J σ σ' (a0x σ x)->∀ {R:Type} (k:TV->Option R),a0p c σ' T (a0x σ x) (a0x σ y) k=k t)/\∀ r,t.uses r=true->(a0x σ x).uses r=true:=by
   unfold a0p at h ⊢;cases hi:asInt (a0x σ y)with
   | none=>rw[hi]at h;cases h
   | some kn =>
     obtain⟨kk,n⟩:=kn;rw[hi]at h;simp only[]at h ⊢;split at h
     case h_2=>cases h
     rename_i tt e fs hT
     try simp only[hT]
     split at h
     . rename_i t' xs he;rw[he];split at h
       case isFalse=>cases h
       rename_i hb;split at h
       case isFalse=>cases h
       rename_i htt;exact⟨.rptr true (enc .sh t' (xs.getD n.toNat t'.dflt)),fun σ' _ R k=>by simp only[if_pos hb,if_pos htt],fun r hr=>by cases hr⟩
     . rename_i q p he;rw[he];cases hq:rget σ.rs q with
       | none=>rw[hq]at h;cases h
       | some root =>
         rw[hq]at h;simp only[]at h;split at h
         case h_2=>cases h
         rename_i t' m xs rest hg;split at h
         case isFalse=>cases h
         rename_i htt;split at h
         . split at h
           case isFalse=>cases h
           rename_i hb;refine⟨.rptr true (enc .sh t' (xs.getD n.toNat t'.dflt)),fun σ' ha R k=>?_,fun r hr=>by cases hr⟩;have:=ha q (a2r q p 1 false);rw[hq]at this;simp only[this,hg,if_pos hb,if_pos htt]
         . split at h
           case isFalse=>cases h
           rename_i hm hb;refine⟨.ref q (.hop p n.toNat t'.sz 0),fun σ' ha R k=>?_,fun r hr=>hr⟩;have:=ha q (a2r q p 1 false);rw[hq]at this;cases m with
           | sh=>exact absurd rfl hm
           | deep=>simp only[this,hg,if_pos hb,if_pos htt]
           | shal=>simp only[this,hg,if_pos hb,if_pos htt]
     . cases h
 obtain⟨t,h1,h2⟩:=key;refine⟨[],t,a2G (fun σ' k=>a0p c σ' T (a0x σ' x) (a0x σ' y) k) hstep (fun σ' ha R k=>?_) fun r hr=>⟨x,hx,h2 r hr⟩⟩
 try simp only[]
 rw[ha.tv x hx,ha.tv y hy];exact h1 σ' (ha.rs x hx) k
theorem b2C {c:Ctx} {o:Oper} {x y z:Operand} {σ σ1:St} (ho:o.op = .pick x y z) (h:a0C c o σ some=some σ1):∃ N t,Local c o σ N t:=by
 have hx:x∈o.op.operands:=by simp[ho,Op.operands]
 have hy:y∈o.op.operands:=by simp[ho,Op.operands]
 have hz:z∈o.op.operands:=by simp[ho,Op.operands]
 have hstep:∀ (σ':St) {R:Type} (k:St->Option R),a0C c o σ' k=a7E o x y z σ' k:=by intro σ' R k;simp[a0C,ho]
 rw[hstep]at h;unfold a7E at h;split at h
 case h_2=>cases h
 rename_i b hb;cases b with
 | true=>exact⟨[],a0x σ y,.quiet (fun σ' ha R k=>by rw[hstep,a7E,ha.tv x hx,ha.tv y hy,hb];simp) fun r hr=>⟨y,hy,hr⟩⟩
 | false=>exact⟨[],a0x σ z,.quiet (fun σ' ha R k=>by rw[hstep,a7E,ha.tv x hx,ha.tv z hz,hb];simp) fun r hr=>⟨z,hz,hr⟩⟩
theorem a7B {c:Ctx} {o:Oper} {x:Operand} {σ σ1:St} (ho:o.op = .nilCheck x) (h:a0C c o σ some=some σ1):∃ N t,Local c o σ N t:=by
 have hx:x∈o.op.operands:=by simp[ho,Op.operands]
 have hstep:∀ (σ':St) {R:Type} (k:St->Option R),a0C c o σ' k=a2I o x σ' k:=by intro σ' R k;simp[a0C,ho]
 rw[hstep]at h;unfold a2I at h;split at h
 case h_5=>cases h
 all_goals (rename_i he;exact⟨[],a0x σ x,.quiet (fun σ' ha R k=>by rw[hstep,a2I,ha.tv x hx,he]) fun r hr=>⟨x,hx,hr⟩⟩)
theorem a8R {c:Ctx} {o:Oper} {x:Operand} {i:Nat} {σ σ1:St} (ho:o.op = .extract x i) (h:a0C c o σ some=some σ1):∃ N t,Local c o σ N t:=by
 have hx:x∈o.op.operands:=by simp[ho,Op.operands]
 have hstep:∀ (σ':St) {R:Type} (k:St->Option R),a0C c o σ' k=a3y o x i σ' k:=by intro σ' R k;simp[a0C,ho]
 rw[hstep]at h;unfold a3y at h;split at h
 case h_2=>cases h
 rename_i ts he;split at h
 case isFalse=>cases h
 rename_i hlt;exact⟨[],nth ts i .dead,.quiet (fun σ' ha R k=>by rw[hstep,a3y,ha.tv x hx,he];simp only[if_pos hlt]) fun r hr=>⟨x,hx,by rw[he];exact b3r ts i hr⟩⟩
theorem b0c {c:Ctx} {o:Oper} {T:TypeId} {σ σ1:St} (ho:o.op = .alloc T) (h:a0C c o σ some=some σ1):∃ N t,Local c o σ N t:=by
 have hstep:∀ (σ':St) {R:Type} (k:St->Option R),a0C c o σ' k=a6k c o T σ' k:=by intro σ' R k;simp[a0C,ho]
 rw[hstep]at h;unfold a6k at h;split at h
 case h_2=>cases h
 rename_i d i hd hi;refine⟨[(4*d,⟨true,enc .deep i.t i.t.dflt⟩)],.ref (4*d) (.root 0),fun σ' _ R k=>?_,fun r hr => .inr ?_,fun p hp=>?_,by simp⟩
 . rw[hstep,a6k,hd,hi];rfl
 . simp only[TV.uses]at hr;simp[(zc hr).symm]
 . simp only[zq]at hp;subst hp;exact⟨by simp[adds,ho],d,hd,zz _,by simp only[];omega⟩
theorem a6V {c:Ctx} {o:Oper} {T:TypeId} {x y:Operand} {σ σ1:St} (ho:o.op = .makeSlice T x y) (h:a0C c o σ some=some σ1):∃ N t,Local c o σ N t:=by
 have hx:x∈o.op.operands:=by simp[ho,Op.operands]
 have hy:y∈o.op.operands:=by simp[ho,Op.operands]
 have hstep:∀ (σ':St) {R:Type} (k:St->Option R),a0C c o σ' k=a1l c o T (b1Y x y) (a0x σ' x) σ' k:=by intro σ' R k;simp[a0C,ho]
 rw[hstep]at h;unfold a1l at h;split at h
 case h_2=>cases h
 rename_i d t e fs k1 n hsame hd hT hl;split at h
 case isFalse=>cases h
 rename_i hb;refine⟨[(4*d,⟨false,[⟨.sl t,.deep,List.replicate n.toNat t.dflt⟩]⟩)],.view (4*d) (.root 0) 1 false,fun σ' ha R k=>?_,fun r hr => .inr ?_,fun p hp=>?_,by simp⟩
 . rw[hstep];unfold a1l;rw[ha.tv x hx];simp only[hsame,hd,hT,hl,if_pos hb,a2w]
 . simp only[TV.uses]at hr;simp[(zc hr).symm]
 . simp only[zq]at hp;subst hp;exact⟨by simp[adds,ho],d,hd,zz _,by simp only[];omega⟩
theorem a1J {σ σ':St} {c:Ctx} {T:TypeId} {x:Operand} {ag:Bool} {cs:List Cell} (h:a1C c σ T x=some (.sh ag cs)) (he:a0x σ' x=a0x σ x):a1C c σ' T x=some (.sh ag cs):=by
 unfold a1C at h ⊢;split at h
 . exact h
 . rw[he];split at h
   . exact h
   . split at h
     . split at h<;>cases h
     . cases h
   . cases h
theorem b3D {c:Ctx} {o:Oper} {T:TypeId} {x:Operand} {σ σ1:St} {ag:Bool} {cs:List Cell} (ho:o.op = .box T x) (hs:a1C c σ T x=some (.sh ag cs)) (h:a0C c o σ some=some σ1):∃ N t,Local c o σ N t:=by
 have hx:x∈o.op.operands:=by simp[ho,Op.operands]
 have hstep:∀ (σ':St) {R:Type} (k:St->Option R),a0C c o σ' k=boxK c o T x σ' k:=by intro σ' R k;simp[a0C,ho]
 rw[hstep]at h;unfold boxK at h;split at h
 . cases h
 rename_i d hd;refine⟨[(4*d,⟨true,cs⟩)],.ref (4*d) (.root 0),fun σ' ha R k=>?_,fun r hr => .inr ?_,fun p hp=>?_,by simp⟩
 . rw[hstep,boxK,hd];simp only[a1J hs (ha.tv x hx),a2w]
 . simp only[TV.uses]at hr;simp[(zc hr).symm]
 . simp only[zq]at hp;subst hp;exact⟨by simp[adds,ho],d,hd,zz _,by simp only[];omega⟩
theorem b3E {c:Ctx} {o:Oper} {cl:Call} {σ σ1:St} (ho:o.op = .call cl) (hcl:cl.callee = .builtin .len) (h:a0C c o σ some=some σ1):∃ N t,Local c o σ N t:=by
 unfold a0C at h;rw[ho]at h;simp only[hcl]at h;split at h
 case h_2=>cases h
 rename_i x T hargs hat;split at h
 case h_2=>cases h
 rename_i t e fs hT;have hx:x∈o.op.operands:=by
   have:x∈cl.args:=by
     have:x∈cl.args.toList:=by rw[hargs];simp
     simpa using this
   simp[ho,Op.operands,Call.operands,hcl,this]
 have hstep:∀ (σ':St) {R:Type} (k:St->Option R),a0C c o σ' k=lenK o x σ' k:=by
   intro σ' R k;unfold a0C;rw[ho];simp only[hcl,hargs,hat,hT]
 unfold lenK at h;split at h
 case h_2=>cases h
 rename_i n hn;refine⟨[],vI (n:Int),.quiet (fun σ' ha R k=>?_) fun r hr=>by cases hr⟩;have:lenOf σ' (a0x σ' x)=some n:=by
   rw[ha.tv x hx];have hrs:=ha.rs x hx;generalize a0x σ x=tv at *;unfold lenOf at hn ⊢;split at hn
   . exact hn
   . rename_i q p;have:=hrs q (a2r q p 1 false);simp only[this];exact hn
   . cases hn
 rw[hstep,lenK,this]
theorem b3R {c:Ctx} {e:TypeId} {t:Ty} {σ:St}:∀ (l:List Operand),a4S c e σ l=true->∃ r:Option (List t.den),∀ σ',(∀ x∈l,a0x σ' x=a0x σ x)->a3M c e t l σ'=r.map fun ys=>(ys,σ'):=by
 intro l;induction l with
 | nil=>intro _;exact⟨some [],fun σ' _=>rfl⟩
 | cons x l ih =>
   intro h;simp only[a4S,zb]at h;obtain⟨h1,h2⟩:=h;split at h1
   case h_2=>cases h1
   rename_i ag cs hs;obtain⟨r,hr⟩:=ih h2;cases hd:a0u .deep t cs with
   | none =>
     refine⟨none,fun σ' he=>?_⟩;simp only[a3M,a1J hs (he x (by simp)),hd,zL]
   | some y =>
     refine⟨r.map fun ys=>y::ys,fun σ' he=>?_⟩;simp only[a3M,a1J hs (he x (by simp)),hd,hr σ' fun z hz=>he z (by simp[hz])];cases r<;>rfl
theorem a9X {c:Ctx} {e:TypeId} {t:Ty} {σ:St}:∀ (l:List Operand),a4S c e σ l=true->∃ r:Option (List t.den),∀ σ',(∀ x∈l,a0x σ' x=a0x σ x)->a4G c e t l σ'=r.map fun ys=>(ys,σ'):=by
 intro l;induction l with
 | nil=>intro _;exact⟨some [],fun σ' _=>rfl⟩
 | cons x l ih =>
   intro h;simp only[a4S,zb]at h;obtain⟨h1,h2⟩:=h;split at h1
   case h_2=>cases h1
   rename_i ag cs hs;obtain⟨r,hr⟩:=ih h2;cases hd:a0u .sh t (cs.map Cell.sh)with
   | none =>
     refine⟨none,fun σ' he=>?_⟩;simp only[a4G,a1J hs (he x (by simp)),hd,zL]
   | some y =>
     refine⟨r.map fun ys=>y::ys,fun σ' he=>?_⟩;simp only[a4G,a1J hs (he x (by simp)),hd,hr σ' fun z hz=>he z (by simp[hz])];cases r<;>rfl
theorem a6c:∀ (l:List (Nat×Operand)) (i:Nat) (xs:List Operand),a3W i l=some xs->∀ x∈xs,∃ j,(j,x)∈l:=by
 intro l i xs h x hx;have:=a7h l i xs h;obtain⟨j,hj⟩:=zB.1 hx;refine⟨i+j,?_⟩;rw[this,zx];exact⟨(x,i+j),by rw[zB];exact⟨j,by simp[List.getElem?_zipIdx,hj]⟩,rfl⟩
theorem a5l {c:Ctx} {o:Oper} {T:TypeId} {len:Nat} {parts:Array (Nat×Operand)} {σ σ1:St} (ho:o.op = .buildSlice T len parts) (hreg:a4U c o σ=true) (h:a0C c o σ some=some σ1):∃ N t,Local c o σ N t:=by
 cases hlit:a4A c o with
 | true =>
   have hstep:∀ (σ':St) {R:Type} (k:St->Option R),a0C c o σ' k=litK c o T len parts.toList σ' k:=by intro σ' R k;simp[a0C,ho,hlit]
   rw[hstep]at h;unfold litK at h;split at h
   case h_2=>cases h
   rename_i t e fs hT hpl;exact⟨[],.val false [⟨.sl t,.deep,[]⟩],.quiet (fun σ' ha R k=>by rw[hstep];unfold litK;simp only[hT,hpl]) fun r hr=>by simp[TV.uses]at hr⟩
 | false =>
 have hstep:∀ (σ':St) {R:Type} (k:St->Option R),a0C c o σ' k=a1x c o T len parts.toList σ' k:=by intro σ' R k;simp[a0C,ho,hlit]
 rw[hstep]at h;unfold a1x at h;split at h
 case h_2=>cases h
 rename_i d t e fs hd hT;split at h
 . cases h
 rename_i xs hxs;split at h
 . cases h
 rename_i hb;simp only[a4U,ho,hT,hxs,hlit]at hreg;obtain⟨r1,hr1⟩:=b3R (t:=t) xs hreg;obtain⟨r2,hr2⟩:=a9X (t:=t) xs hreg;have hmem:∀ x∈xs,x∈o.op.operands:=by
   intro x hx;obtain⟨j,hj⟩:=a6c _ _ _ hxs x hx;have hj':(j,x)∈parts:=by simpa using hj
   simp only[ho,Op.operands];simp;exact⟨j,hj'⟩
 have fin:∀ (m:Mode) (ys:List t.den),(∀ σ',Agree o σ σ'->∀ {R:Type} (k:St->Option R),a1x c o T len parts.toList σ' k=k (a5B σ' d t m ys))->∃ N t,Local c o σ N t:=by
   intro m ys hk;refine⟨[(4*d,⟨false,[⟨.sl t,m,ys⟩]⟩)],.view (4*d) (.root 0) 1 false,fun σ' ha R k=>?_,fun r hr => .inr ?_,fun p hp=>?_,by simp⟩
   . rw[hstep,hk σ' ha,a5B,hd];rfl
   . simp only[TV.uses]at hr;simp[(zc hr).symm]
   . simp only[zq]at hp;subst hp;exact⟨by simp[adds,ho],d,hd,zz _,by simp only[];omega⟩
 cases r1 with
 | some ys =>
   refine fin .deep ys fun σ' ha R k=>?_;unfold a1x;simp only[hd,hT,hxs,hb,hr1 σ' fun x hx=>ha.tv x (hmem x hx),zr]
 | none =>
   cases r2 with
   | some ys =>
     refine fin .shal ys fun σ' ha R k=>?_;unfold a1x;simp only[hd,hT,hxs,hb,hr1 σ' fun x hx=>ha.tv x (hmem x hx),hr2 σ' fun x hx=>ha.tv x (hmem x hx),zr,zL]
   | none =>
     simp only[hr1 σ fun x hx=>rfl,hr2 σ fun x hx=>rfl,zL]at h;cases h
theorem b1K {c:Ctx} {o:Oper} {cl:Call} {σ σ1:St} {mx:Bool} (ho:o.op = .call cl) (hcl:cl.callee = .builtin (if mx=true then .max else .min)) (h:a0C c o σ some=some σ1):∃ N t,Local c o σ N t:=by
 obtain⟨x,y,hargs⟩:∃ x y,cl.args.toList=[x,y]:=by
   unfold a0C at h;rw[ho]at h;cases mx<;>simp only[hcl,if_true,zi,if_false]at h<;>(split at h;case h_2=>cases h)<;>exact⟨_,_,by assumption⟩
 have hstep:∀ (σ':St) {R:Type} (k:St->Option R),a0C c o σ' k=mmK mx (a0x σ' x) (a0x σ' y) fun t=>k (σ'.put o.dst t):=by
   intro σ' R k;unfold a0C;rw[ho];cases mx<;>simp only[hcl,hargs,if_true,zi,if_false]
 have hmem:∀ z,z=x∨z=y->z∈o.op.operands:=by
   intro z hz;have:z∈cl.args:=by
     have:z∈cl.args.toList:=by rw[hargs];rcases hz with rfl|rfl<;>simp
     simpa using this
   simp[ho,Op.operands,Call.operands,hcl,this]
 rw[hstep]at h;unfold mmK at h;split at h
 case h_2=>cases h
 rename_i kx p ky q hx hy;have key:∀ (t:TV),(∀ σ',Agree o σ σ'->∀ {R:Type} (k:St->Option R),a0C c o σ' k=k (σ'.put o.dst t))->(∀ r,t.uses r=false)->∃ N t,Local c o σ N t:=fun t h1 h2=>⟨[],t,.quiet h1 fun r hr=>by rw[h2 r]at hr;cases hr⟩;cases mx with
 | true=>exact key _ (fun σ' ha R k=>by rw[hstep,mmK,ha.tv x (hmem x (.inl rfl)),ha.tv y (hmem y (.inr rfl)),hx,hy]) fun r=>rfl
 | false=>exact key _ (fun σ' ha R k=>by rw[hstep,mmK,ha.tv x (hmem x (.inl rfl)),ha.tv y (hmem y (.inr rfl)),hx,hy]) fun r=>rfl
theorem b2E {r:Nat} {ts:List TV} (h:(a5n ts).uses r=true):TV.usesL r ts=true:=by
 match ts,h with
 | [],h=>simpa[a5n,TV.uses]using h
 | [t],h=>simp only[TV.usesL,yg];exact h
 | t::t'::ts,h=>simpa[a5n,TV.uses]using h
theorem a7O {id:Nat} {s:Sig} {ld:Lend} {rr:Outs s.outs×Muts s.ps} {o:Oper} {σ:St} {q:St×List TV} (hl:a6X s ld=true) (h:a1w id s ld rr σ=some q) :
   ∀ σ' {R:Type} (k:St->Option R),a7N o k (a1w id s ld rr σ')=k ((a2w (a1i id s.outs rr.1).1 σ').put o.dst (a5n (a1i id s.outs rr.1).2)):=by
 intro σ' R k;rw[a6q hl]at h ⊢;rcases a9q s.ps rr.2 with hb|hb
 . rw[hb];rfl
 . rw[hb]at h;cases h
theorem a7c {s:Sig} {l:Lend} (h:a6X s l=true):s.outs.length≤4:=by
 unfold a6X at h;simp only[zb]at h;have h1:=h.1;split at h1
 . exact zk h1
 . cases h1
theorem a9A {c:Ctx} {o:Oper} {g:FuncId} {az:List TV} {σ:St}:∀ (l:List Callee) (σ1:St),a6h c g az σ l=true->a3K c o g az σ some l=some σ1 →
   ∃ (outs:List (OutK×Ty×Mode)) (d:Outs outs),outs.length≤4/\∀ σ',a2b σ σ' az->∀ {R:Type} (k:St->Option R),a3K c o g az σ' k l=k ((a2w (a1i (a3L o) outs d).1 σ').put o.dst (a5n (a1i (a3L o) outs d).2)):=by
 intro l;induction l with
 | nil=>intro σ1 h;cases h
 | cons e l ih =>
   intro σ1 hreg h;simp only[a6h]at hreg;simp only[a3K]at h ⊢;split at h
   . rename_i he heq;simp only[heq]at hreg;split at h
     . rename_i d ld hargs;rw[hargs]at hreg;simp only[]at hreg;split at h
       case h_2=>cases h
       rename_i hlend;cases hF:e.F d with
       | none=>rw[hF]at h;cases h
       | some rr =>
         rw[hF]at h;obtain⟨q,hq,-⟩:=a2o (show a7N o some (a1w (a3L o) e.s ld rr σ)=some σ1 from h);refine⟨e.s.outs,rr.1,a7c hreg,fun σ' ha R k=>?_⟩;rw[a4H _ _ ha,hargs];simp only[hlend,hF,zK];exact a7O hreg hq σ' k
     . rename_i hargs;rw[hargs]at hreg;obtain⟨outs,d,hlen,hh⟩:=ih σ1 hreg h;refine⟨outs,d,hlen,fun σ' ha R k=>?_⟩;rw[a4H _ _ ha,hargs];exact hh σ' ha k
   . rename_i he heq;simp only[heq]at hreg;obtain⟨outs,d,hlen,hh⟩:=ih σ1 hreg h;exact⟨outs,d,hlen,fun σ' ha R k=>hh σ' ha k⟩
theorem a7W {c:Ctx} {o:Oper} {cl:Call} {f:Operand} {σ:St} (ho:o.op = .call cl) (hcl:cl.callee = .value f) (hd:∃ d,o.dst=some d) {outs:List (OutK×Ty×Mode)} {d:Outs outs} (hlen:outs.length≤4)
   (h:∀ σ',Agree o σ σ'->∀ {R:Type} (k:St->Option R),a0C c o σ' k=k ((a2w (a1i (a3L o) outs d).1 σ').put o.dst (a5n (a1i (a3L o) outs d).2))):∃ N t,Local c o σ N t:=by
 obtain⟨h1,h2,h3⟩:=b3P outs (a3L o) d;obtain⟨dd,hd⟩:=hd;refine⟨_,_,h,fun r hr => .inr (h3 r (b2E hr)),fun p hp=>⟨by simp[adds,ho,hcl],dd,hd,?_⟩,h2⟩;have:=h1 p hp;simp only[a3L,hd]at this;exact⟨this.1,Nat.lt_of_lt_of_le this.2 (by omega)⟩
theorem b2A {c:Ctx} {o:Oper} {cl:Call} {f:Operand} {σ σ1:St} (ho:o.op = .call cl) (hcl:cl.callee = .value f) (hd:∃ d,o.dst=some d) (hreg:a4U c o σ=true) (h:a0C c o σ some=some σ1):∃ N t,Local c o σ N t:=by
 have hf:f∈o.op.operands:=by simp[ho,Op.operands,Call.operands,hcl]
 have hargs:∀ x∈cl.args.toList,x∈o.op.operands:=by
   intro x hx;have:x∈cl.args:=by simpa using hx
   simp[ho,Op.operands,Call.operands,hcl,this]
 have hev:∀ σ',Agree o σ σ'->cl.args.toList.map (a0x σ')=cl.args.toList.map (a0x σ):=fun σ' ha=>zT fun x hx=>ha.tv x (hargs x hx);have hag:∀ σ',Agree o σ σ'->a2b σ σ' (cl.args.toList.map (a0x σ)):=by
   intro σ' ha r hr;obtain⟨x,hx,hu⟩:=b0E _ hr;exact ha.rs x (hargs x hx) r hu
 simp only[a4U,ho,hcl]at hreg;simp only[a0C,ho,hcl]at h;cases hev0:a0x σ f with
 | fn g caps =>
   rw[hev0]at hreg h;cases hgt:b2v c.grows g with
   | some t=>simp only[hgt]at hreg;cases hreg
   | none =>
   simp only[hgt,zb]at hreg h;have hpre:∀ az,a7i g az c.callees=[]:=fun az=>b2N c.callees az hreg.1;simp only[b1p,hpre]at h;obtain⟨outs,d,hlen,hh⟩:=a9A (a1r c o) σ1 hreg.2 h;refine a7W ho hcl hd hlen (fun σ' ha R k=>?_) (outs:=outs) (d:=d);simp only[a0C,ho,hcl,ha.tv f hf,hev0,hev σ' ha,hgt,b1p,hpre];refine hh σ' (fun r hr=>?_) k;rcases b3p _ _ hr with hr|hr
   . exact hag σ' ha r hr
   . exact ha.rs f hf r (by rw[hev0];exact hr)
 | fnx s g =>
   rw[hev0]at hreg h;simp only[a8C]at h;simp only[]at hreg;split at h
   case h_2=>cases h
   rename_i d l hvals;rw[hvals]at hreg;simp only[]at hreg;cases hg:g d with
   | none=>rw[hg]at h;cases h
   | some rr =>
     rw[hg]at h;obtain⟨q,hq,-⟩:=a2o (show a7N o some (a1w (a3L o) ⟨[],s.outs⟩ ⟨l.1,l.2,[],[]⟩ (rr,()) σ)=some σ1 from h);refine a7W ho hcl hd (a7c hreg) (fun σ' ha R k=>?_) (outs:=s.outs) (d:=rr);simp only[a0C,ho,hcl,ha.tv f hf,hev0,hev σ' ha,a8C,a7K _ _ (hag σ' ha),hvals,hg,zK];exact a7O hreg hq σ' k
 | _=>rw[hev0]at hreg;cases hreg
theorem b2c {r:Nat} {σ:St} (xs:Array Operand) (h:TV.usesL r (xs.toList.map (a0x σ))=true):∃ x∈xs,(a0x σ x).uses r=true:=by
 obtain⟨x,hx,h⟩:=b0E _ h;exact⟨x,by simpa using hx,h⟩
theorem a7A {c:Ctx} {o:Oper} {fn:Fn} {first caps:Array Operand} {σ σ1:St} (ho:o.op = .makeFunc fn first caps) (h:a0C c o σ some=some σ1):∃ N t,Local c o σ N t:=by
 have hstep:∀ (σ':St) {R:Type} (k:St->Option R),a0C c o σ' k=a2H o fn first.toList caps.toList σ' k:=by intro σ' R k;simp[a0C,ho]
 rw[hstep]at h;unfold a2H at h;split at h
 case h_2=>cases h
 rename_i f hfirst;have hmem:∀ x∈caps,x∈o.op.operands:=fun x hx=>by simp[ho,Op.operands,hx]
 refine⟨[],.fn f (caps.toList.map (a0x σ)),.quiet (fun σ' ha R k=>?_) fun r hr=>?_⟩
 . rw[hstep];unfold a2H;simp only[hfirst];rw[zT (g:=a0x σ) fun x hx=>ha.tv x (hmem x (by simpa using hx))]
 . obtain⟨x,hx,h2⟩:=b2c caps hr;exact⟨x,hmem x hx,h2⟩
theorem a9T {σ σ':St} {cs:List Cell} {x:Operand} (h:a0x σ' x=a0x σ x):a7g σ' cs x=a7g σ cs x:=by
 unfold a7g;rw[h]
theorem a7l {σ σ':St} {i:TInfo}:∀ (l:List (Nat×Operand)) (cs:List Cell),(∀ p∈l,a0x σ' p.2=a0x σ p.2)->putF i σ' l cs=putF i σ l cs:=by
 intro l;induction l with
 | nil=>intro cs _;rfl
 | cons p l ih =>
   intro cs h;obtain⟨f,x⟩:=p;simp only[putF,a9T (h (f,x) (by simp)),ih _ fun q hq=>h q (by simp[hq])]
theorem putO_sh {c:Ctx} {i:TInfo} {σ:St}:∀ (l:List (Nat×Operand)) (cs:List Cell),b3u c σ l=true->∃ r:Option (List Cell),∀ σ',(∀ p∈l,a0x σ' p.2=a0x σ p.2)->putO c i l cs σ'=r.map fun cs=>(cs,σ'):=by
 intro l;induction l with
 | nil=>intro cs _;exact⟨some cs,fun σ' _=>rfl⟩
 | cons p l ih =>
   intro cs h;obtain⟨f,x⟩:=p;simp only[b3u,zb]at h;obtain⟨h1,h2⟩:=h;have hpart:∃ q:Option (List Cell),∀ (ds:List Cell),ds=cs.drop (match nth (i.fs.map some) f none with|some p=>p.1|none=>0)->∀ σ',a0x σ' x=a0x σ x->a2J c σ' ds x=q.map fun pc=>(pc,σ'):=by
     cases hn:nilO x with
     | true =>
       generalize cs.drop (match nth (i.fs.map some) f none with|some p=>p.1|none=>0)=ds;cases ds with
       | nil=>exact⟨none,fun ds hds σ' _=>by subst hds;simp[a2J,hn]⟩
       | cons d ds =>
         obtain⟨dt,dm,dx⟩:=d;cases dt with
         | sl t=>exact⟨some [⟨.sl t,.deep,[]⟩],fun ds hds σ' _=>by subst hds;simp[a2J,hn]⟩
         | _=>exact⟨none,fun ds hds σ' _=>by subst hds;simp[a2J,hn]⟩
     | false =>
       rw[hn]at h1;simp only[zO]at h1;split at h1
       . rename_i ag pcs hs;exact⟨some pcs,fun ds _ σ' he=>by simp only[a2J,hn,a1J hs he,zr]⟩
       . cases h1
   obtain⟨q,hq⟩:=hpart;simp only[putO];cases hf:nth (i.fs.map some) f none with
   | none=>exact⟨none,fun σ' _=>rfl⟩
   | some tr =>
     obtain⟨off,sz,ag⟩:=tr;simp only[hf]at hq;cases q with
     | none=>exact⟨none,fun σ' he=>by simp only[hq _ rfl σ' (he (f,x) (by simp)),zL]⟩
     | some pcs =>
       by_cases hl:pcs.length=sz
       . by_cases hle:off+sz≤cs.length
         . obtain⟨r,hr⟩:=ih (cs.take off++(pcs++cs.drop (off+sz))) h2;refine⟨r,fun σ' he=>?_⟩;simp only[hq _ rfl σ' (he (f,x) (by simp)),zr];have e1:zH pcs.length sz = .isTrue hl:=by cases zH pcs.length sz with|isTrue _=>rfl|isFalse h=>exact absurd hl h
           have e2:z4 (off+sz) cs.length = .isTrue hle:=by cases z4 (off+sz) cs.length with|isTrue _=>rfl|isFalse h=>exact absurd hle h
           rw[e1,e2];exact hr σ' fun p hp=>he p (by simp[hp])
         . refine⟨none,fun σ' he=>?_⟩;simp only[hq _ rfl σ' (he (f,x) (by simp)),zr];have e2:z4 (off+sz) cs.length = .isFalse hle:=by cases z4 (off+sz) cs.length with|isTrue h=>exact absurd h hle|isFalse _=>rfl
           rw[e2];cases zH pcs.length sz<;>rfl
       . refine⟨none,fun σ' he=>?_⟩;simp only[hq _ rfl σ' (he (f,x) (by simp)),zr];have e1:zH pcs.length sz = .isFalse hl:=by cases zH pcs.length sz with|isTrue h=>exact absurd h hl|isFalse _=>rfl
         rw[e1];rfl
theorem b0m {σ σ':St} {cs:List Cell} {x:Operand} (h:a0x σ' x=a0x σ x):a9V σ' cs x=a9V σ cs x:=by
 unfold a9V;rw[h]
theorem b1f {σ σ':St} {i:TInfo} {cs:List Cell}:∀ (l:List (Nat×Operand)) (j:Nat),(∀ p∈l,a0x σ' p.2=a0x σ p.2)->aggT i σ' cs j l=aggT i σ cs j l:=by
 intro l;induction l with
 | nil=>intro j _;rfl
 | cons p l ih =>
   intro j h;obtain⟨f,x⟩:=p;simp only[aggT,b0m (h (f,x) (by simp)),ih _ fun q hq=>h q (by simp[hq])]
theorem b2I {σ:St} {cs:List Cell} {x:Operand} {q:TV×Nat} (h:a9V σ cs x=some q) {r:Nat} (hu:q.1.uses r=true):(a0x σ x).uses r=true:=by
 unfold a9V at h;split at h
 . split at h
   . obtain rfl:=za h;cases hu
   . cases h
 . split at h
   . obtain rfl:=za h;cases hu
   . rename_i he;obtain rfl:=za h;rw[he];exact hu
   . cases h
theorem b2h {σ:St} {i:TInfo} {cs:List Cell}:∀ (l:List (Nat×Operand)) (j:Nat) (ts:List TV),aggT i σ cs j l=some ts->∀ r,TV.usesL r ts=true->∃ p∈l,(a0x σ p.2).uses r=true:=by
 intro l;induction l with
 | nil =>
   intro j ts h r hr;simp only[aggT]at h;split at h
   . obtain rfl:=za h;cases hr
   . cases h
 | cons p l ih =>
   intro j ts h r hr;obtain⟨f,x⟩:=p;simp only[aggT]at h;split at h
   . cases h
   split at h
   . cases h
   rename_i q hq;split at h
   case h_2=>cases h
   split at h
   case h_2=>cases h
   rename_i ts' hts;obtain rfl:=za h;simp only[TV.usesL,zf]at hr;rcases hr with hr|hr
   . exact⟨_,List.mem_cons_self,b2I hq hr⟩
   . obtain⟨p,hp,h2⟩:=ih _ _ hts r hr;exact⟨p,List.mem_cons_of_mem _ hp,h2⟩
theorem b0d {c:Ctx} {o:Oper} {T:TypeId} {parts:Array (Nat×Operand)} {σ σ1:St} (ho:o.op = .build T parts) (hreg:a4U c o σ=true) (h:a0C c o σ some=some σ1):∃ N t,Local c o σ N t:=by
 have hmem:∀ p∈parts.toList,p.2∈o.op.operands:=fun p hp=>by simp only[ho,Op.operands];simp;exact⟨p.1,by simpa using hp⟩
 cases hlit:a4A c o with
 | true =>
   have hstep:∀ (σ':St) {R:Type} (k:St->Option R),a0C c o σ' k=a6F c o T parts.toList σ' k:=by intro σ' R k;simp[a0C,ho,hlit]
   rw[hstep]at h;unfold a6F at h;split at h
   case h_2=>cases h
   rename_i t e f fs hT;split at h
   case h_2=>cases h
   rename_i ts hts;refine⟨[],.tup .a ts,.quiet (fun σ' ha R k=>?_) fun r hr=>?_⟩
   . rw[hstep];unfold a6F;simp only[hT,b1f parts.toList _ fun p hp=>ha.tv p.2 (hmem p hp),hts]
   . obtain⟨p,hp,h2⟩:=b2h _ _ _ hts r (by simpa[TV.uses]using hr);exact⟨p.2,hmem p hp,h2⟩
 | false =>
 have hstep:∀ (σ':St) {R:Type} (k:St->Option R),a0C c o σ' k=a4g c o T parts.toList σ' k:=by intro σ' R k;simp[a0C,ho,hlit]
 rw[hstep]at h;unfold a4g at h;split at h
 case h_2=>cases h
 rename_i t e f fs hT;simp only[a4U,ho,hT,hlit,zf]at hreg;have hev:∀ σ',Agree o σ σ'->∀ p∈parts.toList,a0x σ' p.2=a0x σ p.2:=fun σ' ha p hp=>ha.tv p.2 (by simp only[ho,Op.operands];simp;exact⟨p.1,by simpa using hp⟩);have hsf:∀ σ',Agree o σ σ'->a2x ⟨true,t,e,f::fs⟩ σ' parts.toList=a2x ⟨true,t,e,f::fs⟩ σ parts.toList:=by
   intro σ' ha;unfold a2x;rw[a7l parts.toList _ (hev σ' ha)]
 cases hcs:a2x ⟨true,t,e,f::fs⟩ σ parts.toList with
 | none =>
   rw[hcs]at hreg h;simp only[Option.isSome_none,zi,false_or]at hreg;obtain⟨r,hr⟩:=putO_sh (i:=⟨true,t,e,f::fs⟩) parts.toList (enc .deep t t.dflt) hreg;rw[hr σ fun _ _=>rfl]at h;cases hd:o.dst with
   | none=>rw[hd]at h;simp at h
   | some d =>
     cases r with
     | none=>rw[hd]at h;simp at h
     | some cs =>
       refine⟨[(4*d,⟨false,cs⟩)],.view (4*d) (.root 0) cs.length true,fun σ' ha R k=>?_,fun r hr => .inr ?_,fun p hp=>?_,by simp⟩
       . rw[hstep];unfold a4g;simp only[hT,hsf σ' ha,hcs,hd,hr σ' (hev σ' ha),zr];rfl
       . simp only[TV.uses]at hr;simp[(zc hr).symm]
       . simp only[zq]at hp;subst hp;exact⟨by simp[adds,ho],d,hd,zz _,by simp only[];omega⟩
 | some cs =>
   refine⟨[],.val true cs,.quiet (fun σ' ha R k=>?_) fun r hr=>by simp[TV.uses]at hr⟩;rw[hstep];unfold a4g;simp only[hT,hsf σ' ha,hcs]
theorem a8Q {c:Ctx} {o:Oper} {S T:TypeId} {x:Operand} {σ σ1:St} (ho:o.op = .convert S T x) (h:a0C c o σ some=some σ1):∃ N t,Local c o σ N t:=by
 have hx:x∈o.op.operands:=by simp[ho,Op.operands]
 have hstep:∀ (σ':St) {R:Type} (k:St->Option R),a0C c o σ' k=a3z c S T (a0x σ' x) fun t=>k (σ'.put o.dst t):=by intro σ' R k;simp[a0C,ho]
 rw[hstep]at h;unfold a3z at h;split at h
 case h_2=>cases h
 rename_i k1 e1 f1 kd e2 f2 k3 n hS hT hax;refine⟨[],.val false [⟨.int kd,.sh,kd.wrap n⟩],.quiet (fun σ' ha R k=>?_) fun r hr=>by simp[TV.uses]at hr⟩;rw[hstep,ha.tv x hx,a3z,hS,hT,hax]
theorem a2P {σ σ':St} {x:Option Operand} {d:Int} (h:∀ y,x=some y->a0x σ' y=a0x σ y):a4D σ' x d=a4D σ x d:=by
 cases x with
 | none=>rfl
 | some y=>simp only[a4D,h y rfl]
theorem b3F {c:Ctx} {o:Oper} {T:TypeId} {x:Operand} {lo hi mx:Option Operand} {σ σ1:St} (ho:o.op = .slice T x lo hi mx) (hl:a4A c o=true) (h:a0C c o σ some=some σ1):∃ N t,Local c o σ N t:=by
 have hx:x∈o.op.operands:=by simp[ho,Op.operands]
 have hlo:∀ y,lo=some y->y∈o.op.operands:=fun y hy=>by simp[ho,Op.operands,hy]
 have hhi:∀ y,hi=some y->y∈o.op.operands:=fun y hy=>by simp[ho,Op.operands,hy]
 have hstep:∀ (σ':St) {R:Type} (k:St->Option R),a0C c o σ' k=subK c o T x lo hi mx σ' k:=by intro σ' R k;simp[a0C,ho,hl]
 rw[hstep]at h;unfold subK at h;split at h
 case h_2=>cases h
 rename_i t e fs r p n hT hev;split at h
 case h_2=>cases h
 rename_i xs l0 hrd;split at h
 case h_2=>cases h
 rename_i l hh hlb hhb;split at h
 case isFalse=>cases h
 rename_i hb;refine⟨[],.tup (.s t.sz) [.view r p n false,vI l,vI hh],.quiet (fun σ' ha R k=>?_) fun q hq=>⟨x,hx,?_⟩⟩
 . rw[hstep];unfold subK;have hv:=ha.tv x hx;have hc:=ha.rs x hx;rw[hev]at hv hc;simp only[hT,hv,a1f hc,hrd];rw[a2P (σ:=σ) fun y hy=>ha.tv y (hlo y hy),a2P (σ:=σ) fun y hy=>ha.tv y (hhi y hy),hlb,hhb];simp only[if_pos hb]
 . rw[hev];simpa[TV.uses,TV.usesL,vI]using hq
theorem b0e {c:Ctx} {o:Oper} {T:TypeId} {x:Operand} {lo hi mx:Option Operand} {σ σ1:St} (ho:o.op = .slice T x lo hi mx) (hreg:a4U c o σ=true) (h:a0C c o σ some=some σ1):∃ N t,Local c o σ N t:=by
 have hx:x∈o.op.operands:=by simp[ho,Op.operands]
 have hlo:∀ y,lo=some y->y∈o.op.operands:=fun y hy=>by simp[ho,Op.operands,hy]
 have hhi:∀ y,hi=some y->y∈o.op.operands:=fun y hy=>by simp[ho,Op.operands,hy]
 cases hl:a4A c o with
 | true=>exact b3F ho hl h
 | false =>
 simp only[a4U,ho,hl]at hreg;have hstep:∀ (σ':St) {R:Type} (k:St->Option R),a0C c o σ' k=a6s c o T x lo hi mx σ' k:=by intro σ' R k;simp[a0C,ho,hl]
 rw[hstep]at h;unfold a6s at h;split at h
 case h_2=>cases h
 rename_i t e fs hna hT;obtain⟨r1,hr1⟩:=a9X (t := .sl t) [x] hreg;rw[hr1 σ fun _ _=>rfl]at h;split at h
 case h_2=>cases h
 rename_i xs σ2 hps;split at h
 case h_2=>cases h
 rename_i l hh hl hhh;split at h
 case isFalse=>cases h
 rename_i hb;cases r1 with
 | none=>cases hps
 | some ys =>
   simp only[zr,zm,zI]at hps;obtain⟨rfl,rfl⟩:=hps;refine⟨[],.val false [⟨.sl t,.sh,cutL (α:=t.den) xs l hh⟩],.quiet (fun σ' ha R k=>?_) fun r hr=>by simp[TV.uses]at hr⟩;have hna':a9O σ' x=true:=by rw[<-hna];unfold a9O;rw[ha.tv x hx]
   rw[hstep];unfold a6s;simp only[hna',hT,hr1 σ' fun y hy=>by simp only[zq]at hy;rw[hy];exact ha.tv x hx,zr];rw[a2P (σ:=σ) fun y hy=>ha.tv y (hlo y hy),a2P (σ:=σ) fun y hy=>ha.tv y (hhi y hy),hl,hhh];simp only[if_pos hb]
theorem b1L {c:Ctx} {o:Oper} {σ σ1:St} (hd:∃ d,o.dst=some d) (hreg:a4U c o σ=true) (h:a0C c o σ some=some σ1):∃ N t,Local c o σ N t:=by
 cases ho:o.op with
 | move x=>exact a7V (.inl ⟨ho,rfl⟩) (by simp[ho]) (by simp) (by simpa[a0C,ho]using h)
 | assign x =>
   simp only[a4U,ho,zb,zn,zf]at hreg;exact a7V (.inr ⟨ho,rfl⟩) (fun _=>hreg.1) (fun ha=>hreg.2.resolve_left (by rw[zn]at ha;simp[ha])) (by simpa[a0C,ho]using h)
 | pick x y z=>exact b2C ho h
 | alloc T=>exact b0c ho h
 | box T x =>
   simp only[a4U,ho]at hreg;split at hreg
   . rename_i ag cs hs;exact b3D ho hs h
   . cases hreg
 | load T x=>exact b2B ho h
 | nilCheck x=>exact a7B ho h
 | binOp op T x y T'=>exact b3C ho h
 | unOp op T x=>exact b4M ho h
 | makeSlice T x y=>exact a6V ho h
 | buildSlice T len parts=>exact a5l ho hreg h
 | makeFunc fn first caps=>exact a7A ho h
 | build T parts=>exact b0d ho hreg h
 | convert S T x=>exact a8Q ho h
 | slice T x lo hi mx=>exact b0e ho hreg h
 | fieldAddr T x f=>exact a6T ho h
 | indexAddr T x y=>exact a6U ho h
 | extract x i=>exact a8R ho h
 | call cl =>
   have hreg':=hreg;simp only[a4U,ho]at hreg;split at hreg
   . rename_i hcl;exact b3E ho hcl h
   . rename_i hcl;exact b1K (mx:=false) ho hcl h
   . rename_i hcl;exact b1K (mx:=true) ho hcl h
   . rename_i f hcl;exact b2A ho hcl hd hreg' h
   . cases hreg
 | _=>simp[a4U,ho]at hreg
end Go.Vm
end
section
namespace Go.Vm
theorem b1P (r:Nat) (ts:List TV) (τ:Nat):nth (kill r ts) τ .dead=if (nth ts τ .dead).uses r=true then .dead else nth ts τ .dead:=by
 rw[a0m,a0m,kill,zE];cases h:ts[τ]? with
 | none=>simp[TV.uses]
 | some t =>
   simp only[zr,zp];cases hu:t.uses r<;>simp
theorem a9F {σ:St} {q:Nat} {x:Operand} (h:(a0x σ x).uses q=false):a0x (σ.del q) x=a0x σ x:=by
 cases x with
 | tmp τ =>
   show nth (kill q σ.ts) τ .dead=nth σ.ts τ .dead;have h:(nth σ.ts τ .dead).uses q=false:=h;rw[b1P,if_neg (by simp[h])]
 | _=>rfl
theorem hasN_iff {l:List Nat} {r:Nat}:hasN l r=true↔r∈l:=by
 constructor
 . exact a0Q
 . intro h;induction l with
   | nil=>cases h
   | cons x l ih =>
     simp only[zj]at h;simp only[hasN,zf];rcases h with rfl|h
     . exact .inl (zl _)
     . exact .inr (ih h)
theorem a6Y {q:Nat} {M:List Nat} (h:a1a (q::M)=true):q∉M/\a1a M=true:=by
 simp only[a1a,zb,zn]at h;refine⟨fun hm=>?_,h.2⟩;rw[hasN_iff.2 hm]at h;cases h.1
theorem a2Z {c:Ctx} {σ:St} {T:TypeId} {x:Operand} {s:Src} (h:a1C c σ T x=some s) :
   (∃ ag cs,s = .sh ag cs/\(∀ r,(a0x σ x).uses r=false)/\∀ σ',a0x σ' x=a0x σ x->a1C c σ' T x=some (.sh ag cs)) ∨
   (∃ q ag cs τ,s = .mv q ag cs/\x = .tmp τ/\(∀ r,(a0x σ x).uses r=true↔r=q)/\∀ σ',a0x σ' x=a0x σ x->rget σ'.rs q=rget σ.rs q->a1C c σ' T x=some (.mv q ag cs)):=by
 unfold a1C at h;split at h
 . split at h
   . rename_i hT;obtain rfl:=za h;refine .inl ⟨_,_,rfl,fun r=>rfl,fun σ' _=>?_⟩;unfold a1C;simp only[hT]
   . cases h
 . rename_i hx;split at h
   . rename_i ag cs he;obtain rfl:=za h;refine .inl ⟨_,_,rfl,fun r=>by rw[he];rfl,fun σ' he'=>a1J (σ:=σ) ?_ he'⟩;unfold a1C;split
     . exact absurd rfl hx
     . simp only[he]
   . rename_i q n ag he;split at h
     . rename_i mem cs hq;split at h
       . rename_i hn hdec;obtain rfl:=za h;have hxt:∃ τ,x = .tmp τ:=by
           cases x with
           | tmp τ=>exact⟨τ,rfl⟩
           | const v=>cases v<;>simp[a0x,b0i]at he
           | global g=>simp[a0x]at he
           | func f=>simp[a0x]at he
         obtain⟨τ,rfl⟩:=hxt;refine .inr ⟨q,ag,cs,τ,rfl,rfl,fun r=>?_,fun σ' he' hrs=>?_⟩
         . rw[he];show zs q r=true↔r=q;exact⟨fun h=>(zc h).symm,fun h=>by rw[h];exact zl _⟩
         . unfold a1C;simp only[he',he,hrs,hq,hdec]
       . cases h
     . cases h
   . cases h
theorem b2J {c:Ctx} {e:TypeId} {t:Ty} {σ:St}:∀ (l:List Operand) (ys:List t.den) (M:List Nat),a5N c e t l σ=some (ys,M) →
   (∀ x∈l,∀ r,(a0x σ x).uses r=true->r∈M)/\(∀ r∈M,∃ τ,.tmp τ∈l/\(a0x σ (.tmp τ)).uses r=true) ∧
   (a1a M=true->∀ σ',(∀ x∈l,a0x σ' x=a0x σ x)->(∀ q∈M,rget σ'.rs q=rget σ.rs q)->a3M c e t l σ'=some (ys,a0G M σ')):=by
 intro l;induction l with
 | nil =>
   intro ys M h;simp only[a5N,zm,zI]at h;obtain⟨rfl,rfl⟩:=h;exact⟨by simp,by simp,fun _ σ' _ _=>rfl⟩
 | cons x l ih =>
   intro ys M h;simp only[a5N]at h;split at h
   . rename_i ag cs hs;split at h
     . rename_i y q hy hq;simp only[zm,zI]at h;obtain⟨rfl,rfl⟩:=h;obtain⟨i1,i2,i3⟩:=ih q.1 q.2 hq;rcases a2Z hs with⟨_,_,hss,hu,hsrc⟩|⟨_,_,_,_,hss,_⟩
       . cases hss;refine⟨fun z hz r hr=>?_,fun r hr=>?_,fun hn σ' he hrs=>?_⟩
         . simp only[zj]at hz;rcases hz with rfl|hz
           . rw[hu r]at hr;cases hr
           . exact i1 z hz r hr
         . obtain⟨τ,h1,h2⟩:=i2 r hr;exact⟨τ,by simp[h1],h2⟩
         . simp only[a3M,hsrc σ' (he x (by simp)),hy,i3 hn σ' (fun z hz=>he z (by simp[hz])) hrs]
       . cases hss
     . cases h
   . rename_i r ag cs hs;split at h
     . rename_i y q hy hq;simp only[zm,zI]at h;obtain⟨rfl,rfl⟩:=h;obtain⟨i1,i2,i3⟩:=ih q.1 q.2 hq;rcases a2Z hs with⟨_,_,hss,_⟩|⟨q',_,_,τ,hss,hx,hu,hsrc⟩
       . cases hss
       . cases hss;refine⟨fun z hz r' hr=>?_,fun r' hr=>?_,fun hn σ' he hrs=>?_⟩
         . simp only[zj]at hz ⊢;rcases hz with rfl|hz
           . exact .inl ((hu r').1 hr)
           . exact .inr (i1 z hz r' hr)
         . simp only[zj]at hr;rcases hr with rfl|hr
           . exact⟨τ,by simp[hx],by rw[<-hx];exact(hu _).2 rfl⟩
           . obtain⟨τ',h1,h2⟩:=i2 r' hr;exact⟨τ',by simp[h1],h2⟩
         . obtain⟨hn1,hn2⟩:=a6Y hn;have hev:∀ z∈l,a0x (σ'.del r) z=a0x σ z:=fun z hz=>by
             rw[<-he z (by simp[hz])];refine a9F ?_;rw[he z (by simp[hz])];cases hzu:(a0x σ z).uses r with
             | false=>rfl
             | true=>exact absurd (i1 z hz r hzu) hn1
           simp only[a3M,hsrc σ' (he x (by simp)) (hrs r (by simp)),hy,i3 hn2 (σ'.del r) hev (fun q' hq'=>by
             simp only[St.del,a0D];rw[if_neg (fun e=>hn1 (by rw[<-e];exact hq'))];exact hrs q' (by simp[hq']))]
           rfl
     . cases h
   . cases h
theorem b2H {c:Ctx} {σ:St} {cs:List Cell} {x:Operand} {p:List Cell×List Nat} (h:b3Q c σ cs x=some p) :
   (∀ r,(a0x σ x).uses r=true->r∈p.2)/\(∀ r∈p.2,∃ τ,x = .tmp τ/\(a0x σ x).uses r=true)/\p.2.length≤1 ∧
   ∀ σ',a0x σ' x=a0x σ x->(∀ q∈p.2,rget σ'.rs q=rget σ.rs q)->a2J c σ' cs x=some (p.1,a0G p.2 σ'):=by
 unfold b3Q at h;cases hn:nilO x with
 | true =>
   rw[hn]at h;simp only[]at h;split at h
   . obtain rfl:=za h;have hx:∀ r,(a0x σ x).uses r=false:=by
       intro r;unfold nilO at hn;split at hn
       . rfl
       . cases hn
     refine⟨fun r hr=>(by rw[hx r]at hr;cases hr),by simp,by simp,fun σ' _ _=>?_⟩;simp only[a2J,hn];rfl
   . cases h
 | false =>
   rw[hn]at h;simp only[]at h;split at h
   . rename_i ag pcs hs;obtain rfl:=za h;rcases a2Z hs with⟨_,_,hss,hu,hsrc⟩|⟨_,_,_,_,hss,_⟩
     . cases hss;refine⟨fun r hr=>(by rw[hu r]at hr;cases hr),by simp,by simp,fun σ' he _=>?_⟩;simp only[a2J,hn,hsrc σ' he];rfl
     . cases hss
   . rename_i q ag pcs hs;obtain rfl:=za h;rcases a2Z hs with⟨_,_,hss,_⟩|⟨q',_,_,τ,hss,hx,hu,hsrc⟩
     . cases hss
     . cases hss;refine⟨fun r hr=>by simp[(hu r).1 hr],fun r hr=>⟨τ,hx,?_⟩,by simp,fun σ' he hrs=>?_⟩
       . simp only[zq]at hr;exact(hu r).2 hr
       . simp only[a2J,hn,hsrc σ' he (hrs q (by simp))];rfl
   . cases h
theorem a8H (l l':List Nat):∀ σ:St,a0G (l++l') σ=a0G l' (a0G l σ):=by
 induction l with
 | nil=>intro σ;rfl
 | cons r l ih=>intro σ;exact ih _
theorem a9N {l l':List Nat} (h:a1a (l++l')=true):a1a l'=true/\∀ r∈l,r∉l':=by
 induction l with
 | nil=>exact⟨h,by simp⟩
 | cons x l ih =>
   obtain⟨h1,h2⟩:=a6Y h;obtain⟨h3,h4⟩:=ih h2;refine⟨h3,fun r hr=>?_⟩;simp only[zj]at hr;rcases hr with rfl|hr
   . exact fun hm=>h1 (by simp[hm])
   . exact h4 r hr
theorem b4Y {c:Ctx} {i:TInfo} {σ:St}:∀ (l:List (Nat×Operand)) (cs:List Cell) (cs':List Cell) (M:List Nat),b3S c i l cs σ=some (cs',M) →
   (∀ x∈l,∀ r,(a0x σ x.2).uses r=true->r∈M)/\(∀ r∈M,∃ f τ,(f,.tmp τ)∈l/\(a0x σ (.tmp τ)).uses r=true) ∧
   (a1a M=true->∀ σ',(∀ x∈l,a0x σ' x.2=a0x σ x.2)->(∀ q∈M,rget σ'.rs q=rget σ.rs q)->putO c i l cs σ'=some (cs',a0G M σ')):=by
 intro l;induction l with
 | nil =>
   intro cs cs' M h;simp only[b3S,zm,zI]at h;obtain⟨rfl,rfl⟩:=h;exact⟨by simp,by simp,fun _ σ' _ _=>rfl⟩
 | cons p l ih =>
   intro cs cs' M h;obtain⟨f,x⟩:=p;simp only[b3S]at h;cases hfs:nth (i.fs.map some) f none with
   | none=>rw[hfs]at h;cases h
   | some q =>
   obtain⟨off,sz,ag⟩:=q;rw[hfs]at h;simp only[]at h;split at h
   . cases h
   rename_i q hp;split at h
   case h_2=>cases h
   rename_i hs hle hds hdl;split at h
   case h_2=>cases h
   rename_i q' hq';simp only[zm,zI]at h;obtain⟨rfl,rfl⟩:=h;obtain⟨i1,i2,i3⟩:=ih _ q'.1 q'.2 hq';obtain⟨j1,j2,j3,j4⟩:=b2H hp;refine⟨fun z hz r hr=>?_,fun r hr=>?_,fun hn σ' he hrs=>?_⟩
   . simp only[zj]at hz;simp only[zG];rcases hz with rfl|hz
     . exact .inl (j1 r hr)
     . exact .inr (i1 z hz r hr)
   . simp only[zG]at hr;rcases hr with hr|hr
     . obtain⟨τ,hx,hu⟩:=j2 r hr;exact⟨f,τ,by simp[hx],by rw[<-hx];exact hu⟩
     . obtain⟨f',τ,h1,h2⟩:=i2 r hr;exact⟨f',τ,by simp[h1],h2⟩
   . obtain⟨hn1,hn2⟩:=a9N hn;have h1:=j4 σ' (he (f,x) (by simp)) fun q hq=>hrs q (by simp[hq]);have hev:∀ z∈l,a0x (a0G q.2 σ') z.2=a0x σ z.2:=by
       intro z hz;rw[<-he z (by simp[hz])]
       match hq2:q.2,j3 with
       | [],_=>rfl
       | [r],_ =>
         refine a9F ?_;rw[he z (by simp[hz])];cases hzu:(a0x σ z.2).uses r with
         | false=>rfl
         | true=>exact absurd (i1 z hz r hzu) (hn2 r (by simp[hq2]))
       | a::b::m,h=>simp at h
     have hrs2:∀ q''∈q'.2,rget (a0G q.2 σ').rs q''=rget σ.rs q'':=by
       intro q'' hq''
       match hq2:q.2,j3 with
       | [],_=>exact hrs q'' (by simp[hq''])
       | [r],_ =>
         simp only[a0G,St.del,a0D];rw[if_neg (fun e=>hn2 r (by simp[hq2]) (by rw[<-e];exact hq''))];exact hrs q'' (by simp[hq''])
       | a::b::m,h=>simp at h
     simp only[putO,hfs,h1,hds,hdl,i3 hn1 _ hev hrs2,a8H]
theorem b4P {c:Ctx} {o:Oper} {σ:St} {q:List Nat×(Nat×Root)×TV} (h:mvOp c o σ=some q):LocM c o σ q.1 [q.2.1] q.2.2:=by
 unfold mvOp at h;split at h
 . cases h
 rename_i d hd;have one:∀ (M:List Nat) (x:Root) (n:Nat) (ag:Bool),hasN M (4*d)=false->adds o=true->(∀ r∈M,∃ τ,.tmp τ∈o.op.operands/\(a0x σ (.tmp τ)).uses r=true) →
     (∀ σ',Agree o σ σ'->∀ {R:Type} (k:St->Option R),a0C c o σ' k=k (((a0G M σ').new (4*d) x).put (some d) (.view (4*d) (.root 0) n ag)))->LocM c o σ M [(4*d,x)] (.view (4*d) (.root 0) n ag):=by
   intro M x n ag hM ha hmv hk;refine⟨fun σ' h R k=>?_,fun r hr => .inr ?_,fun p hp=>?_,by simp,fun r hr=>?_,hmv⟩
   . rw[hk σ' h,hd];rfl
   . simp only[TV.uses]at hr;simp[(zc hr).symm]
   . simp only[zq]at hp;subst hp;exact⟨ha,d,hd,zz _,by simp only[];omega⟩
   . have hne:r≠4*d:=fun e=>by
       subst e;rw[hasN_iff.2 hr]at hM;cases hM
     refine⟨?_,by simpa using hne⟩;show zs (4*d) r=false;cases hb:zs (4*d) r with
     | false=>rfl
     | true=>exact absurd (zc hb).symm hne
 split at h
 . rename_i T len parts ho;split at h
   case h_2=>cases h
   rename_i t e fs xs hlit hT hxs;split at h
   case h_2=>cases h
   rename_i r hlen hr;split at h
   case h_2=>cases h
   rename_i hc;obtain rfl:=za h;simp only[zb,zn]at hc;obtain⟨i1,i2,i3⟩:=b2J xs r.1 r.2 hr;have hmem:∀ x∈xs,x∈o.op.operands:=by
     intro x hx;obtain⟨j,hj⟩:=a6c _ _ _ hxs x hx;have hj':(j,x)∈parts:=by simpa using hj
     simp only[ho,Op.operands];simp;exact⟨j,hj'⟩
   refine one r.2 _ _ _ hc.2 (by simp[adds,ho]) (fun q hq=>?_) fun σ' ha R k=>?_
   . obtain⟨τ,h1,h2⟩:=i2 q hq;exact⟨τ,hmem _ h1,h2⟩
   . have hp:=i3 hc.1 σ' (fun x hx=>ha.tv x (hmem x hx)) fun q hq=>by
       obtain⟨τ,h1,h2⟩:=i2 q hq;exact ha.rs _ (hmem _ h1) q h2
     simp only[a0C,ho,hlit,a1x,hd,hT,hxs,hlen,hp,a5B]
 . rename_i T parts ho;split at h
   case h_2=>cases h
   rename_i t e f fs hlit hT;split at h
   . cases h
   rename_i hsh;split at h
   case h_2=>cases h
   rename_i r hr;split at h
   case h_2=>cases h
   rename_i hc;obtain rfl:=za h;simp only[zb,zn]at hc;obtain⟨i1,i2,i3⟩:=b4Y parts.toList _ r.1 r.2 hr;have hmem:∀ p∈parts.toList,p.2∈o.op.operands:=by
     intro p hp;have hp':p∈parts:=by simpa using hp
     simp only[ho,Op.operands];simp;exact⟨p.1,hp'⟩
   refine one r.2 _ _ _ hc.2 (by simp[adds,ho]) (fun q hq=>?_) fun σ' ha R k=>?_
   . obtain⟨f',τ,h1,h2⟩:=i2 q hq;exact⟨τ,hmem _ h1,h2⟩
   . have hp:=i3 hc.1 σ' (fun x hx=>ha.tv x.2 (hmem x hx)) fun q hq=>by
       obtain⟨f',τ,h1,h2⟩:=i2 q hq;exact ha.rs _ (hmem _ h1) q h2
     have hsh':a2x ⟨true,t,e,f::fs⟩ σ' parts.toList=none:=by
       have:a2x ⟨true,t,e,f::fs⟩ σ' parts.toList=a2x ⟨true,t,e,f::fs⟩ σ parts.toList:=by
         unfold a2x;rw[a7l _ _ fun p hp=>ha.tv p.2 (hmem p hp)]
       rw[this,hsh]
     simp only[a0C,ho,hlit,a4g,hT,hsh',hd,hp]
 . cases h
end Go.Vm
end
section
namespace Go.Vm
def a9z (T:List (List Nat)):List Edge->List Nat
 | []=>[]
 | e::es=>match Region.binds .any e with
   | true=>e.on::(nth T e.on []++a9z T es)
   | false=>a9z T es
def ancT:List Oper->List (List Nat)->List (List Nat)
 | [],T=>T
 | o::l,T=>ancT l (T++[a9z T o.after.toList])
def a0b (all:List Oper) (o:Oper):List Nat :=
 (o.op.operands.toList.filterMap fun | .tmp t=>some t|_=>none)++(match o.guard with
  | some (g,_)=>((nth (all.map some) g none).bind (·.dst)).toList
  | none=>[])
def hasO (l:List Nat):Option Nat->Bool
 | some d=>hasN l d
 | none=>false
def a5Q:Option Nat->Option Nat->Bool
 | some d,some e=>zs d e
 | _,_=>false
def allB {α:Type} (p:α->Bool):List α->Bool
 | []=>true
 | x::l=>match p x with
   | true=>allB p l
   | false=>false
def numb {α:Type}:Nat->List α->List (Nat×α)
 | _,[]=>[]
 | i,x::l=>(i,x)::numb (i+1) l
def a1G (all:List Oper) (m n:Nat):Bool :=
 let T:=ancT all [];let os:=numb 0 all
 allB (fun p:Nat×Oper =>
   let A:=nth T p.1 [];let L:=a0b all p.2
   allB (fun e=>match Region.binds .any e with
     | true=>ze e.on p.1
     | false=>true) p.2.after.toList &&
   (match ze p.1 m with
    | true=>(match p.2.dst with
       | some d=>ze d n
       | none=>false) &&
      allB (fun q:Nat×Oper=>match ze q.1 p.1 with
       | false=>true
       | true=>!a5Q q.2.dst p.2.dst&&(match hasO L q.2.dst||hasO (a0b all q.2) p.2.dst with
         | true=>hasN A q.1
         | false=>true)) os
    | false=>allB (fun q:Nat×Oper=>match ze q.1 p.1 with
       | false=>true
       | true=>hasN A q.1) os)) os
def a5v (all:List Oper) (m n:Nat):Bool :=
 let T:=ancT all [];let os:=numb 0 all
 allB (fun p:Nat×Oper =>
   let A:=nth T p.1 [];let L:=a0b all p.2
   allB (fun e=>match Region.binds .any e with
     | true=>ze e.on p.1
     | false=>true) p.2.after.toList &&
   (match ze p.1 m with
    | true=>(match p.2.dst with
       | some d=>ze d n
       | none=>false) &&
      allB (fun q:Nat×Oper=>match ze q.1 p.1 with
       | false=>true
       | true=>!a5Q q.2.dst p.2.dst&&(match hasO L q.2.dst||hasO (a0b all q.2) p.2.dst with
         | true=>hasN A q.1
         | false=>true)) os
    | false=>allB (fun q:Nat×Oper=>match ze q.1 m with
       | false=>true
       | true=>hasN A q.1) os)) os
def a5j (all:List Oper) (m n:Nat):Bool :=
 let T:=ancT all [];let os:=numb 0 all
 allB (fun p:Nat×Oper =>
   let A:=nth T p.1 [];let L:=a0b all p.2
   allB (fun e=>match Region.binds .any e with
     | true=>ze e.on p.1
     | false=>true) p.2.after.toList &&
   (match ze p.1 m with
    | true=>(match p.2.dst with
       | some d=>ze d n
       | none=>false) &&
      allB (fun q:Nat×Oper=>match ze q.1 p.1 with
       | false=>true
       | true=>!a5Q q.2.dst p.2.dst&&(match hasO L q.2.dst||hasO (a0b all q.2) p.2.dst with
         | true=>hasN A q.1
         | false=>true)) os
    | false=>zs p.1 m||allB (fun q:Nat×Oper=>match ze q.1 p.1 with
       | false=>true
       | true=>hasN A q.1) os)) os
inductive Anc (all:List Oper):Nat->Nat->Prop
 | edge {i:Nat} {o:Oper} {e:Edge} (ho:all[i]? = some o) (he:e∈o.after) (hb:Region.binds .any e=true):Anc all i e.on
 | trans {i j l:Nat} (h:Anc all i j) (k:Anc all j l):Anc all i l
theorem b1m {T:List (List Nat)}:∀ (es:List Edge) (a:Nat),a∈a9z T es->∃ e∈es,Region.binds .any e=true/\(a=e.on∨a∈nth T e.on []):=by
 intro es;induction es with
 | nil=>intro a h;cases h
 | cons e es ih =>
   intro a h;simp only[a9z]at h;cases hb:Region.binds .any e with
   | true =>
     rw[hb]at h;simp only[zj,zG]at h;rcases h with rfl|h|h
     . exact⟨e,by simp,hb,.inl rfl⟩
     . exact⟨e,by simp,hb,.inr h⟩
     . obtain⟨e',h1,h2⟩:=ih a h;exact⟨e',by simp[h1],h2⟩
   | false =>
     rw[hb]at h;obtain⟨e',h1,h2⟩:=ih a h;exact⟨e',by simp[h1],h2⟩
theorem a2v (all:List Oper):∀ (l:List Oper) (T:List (List Nat)),(∃ pre,all=pre++l/\T.length=pre.length)->(∀ i a,a∈nth T i []->Anc all i a)->∀ i a,a∈nth (ancT l T) i []->Anc all i a:=by
 intro l;induction l with
 | nil=>intro T _ h;exact h
 | cons o l ih =>
   rintro T ⟨pre,he,hl⟩ h;refine ih _ ⟨pre++[o],by simp[he],by simp[hl]⟩ fun i a ha=>?_;rw[a0m,List.getElem?_append]at ha;split at ha
   . exact h i a (by rw[a0m];exact ha)
   . rename_i hi;by_cases hii:i-T.length=0
     . rw[hii]at ha;have hie:i=pre.length:=by omega
       simp only[zy,zp]at ha;obtain⟨e,h1,h2,h3⟩:=b1m _ _ ha;have ho:all[i]? = some o:=by rw[he,hie];simp
       have h1':e∈o.after:=by simpa using h1
       rcases h3 with rfl|h3
       . exact .edge ho h1' h2
       . exact .trans (.edge ho h1' h2) (h _ _ h3)
     . rw[List.getElem?_cons]at ha;simp[hii]at ha
theorem a0H {α:Type} {p:α->Bool}:∀ {l:List α},allB p l=true->∀ x∈l,p x=true:=by
 intro l;induction l with
 | nil=>intro _ x hx;cases hx
 | cons y l ih =>
   intro h x hx;simp only[allB]at h;split at h
   . rename_i hy;simp only[zj]at hx;rcases hx with rfl|hx
     . exact hy
     . exact ih h x hx
   . cases h
theorem a0i {α:Type}:∀ (l:List α) (n i:Nat) (x:α),l[i]? = some x->(n+i,x)∈numb n l:=by
 intro l;induction l with
 | nil=>intro n i x h;simp at h
 | cons y l ih =>
   intro n i x h;cases i with
   | zero =>
     simp only[zy,zm]at h;subst h;simp[numb]
   | succ i =>
     simp only[zF]at h;have:=ih (n+1) i x h;simp only[numb,zj];right;rw[show n+(i+1)=n+1+i by omega];exact this
structure OrdOK (all:List Oper) (m n:Nat):Prop where
 early:∀ i o,all[i]? = some o->∀ e∈o.after,Region.binds .any e=true->e.on<i
 dst:∀ i o,all[i]? = some o->i<m->∃ d,o.dst=some d/\d<n
 diff:∀ i j oi oj d,all[i]? = some oi->all[j]? = some oj->j<i->i<m->oi.dst=some d->oj.dst=some d->False
 conf:∀ i j oi oj,all[i]? = some oi->all[j]? = some oj->j<i->i<m->(∃ d,oj.dst=some d/\d∈a0b all oi)∨(∃ d,oi.dst=some d/\d∈a0b all oj)->Anc all i j
theorem a3q {l:List Nat} {r:Nat} (h:r∈l):hasN l r=true:=by
 induction l with
 | nil=>cases h
 | cons x l ih =>
   simp only[zj]at h;simp only[hasN,zf];rcases h with rfl|h
   . exact .inl (zl _)
   . exact .inr (ih h)
theorem a1p {all:List Oper} {m n:Nat} (h:a1G all m n=true):∀ i j oi oj,all[i]? = some oi->all[j]? = some oj->j<i->m≤i->Anc all i j:=by
 have hanc:∀ i a,a∈nth (ancT all []) i []->Anc all i a:=a2v all all [] ⟨[],rfl,rfl⟩ (fun i a ha=>by simp[nth]at ha);have base:∀ i o,all[i]? = some o->_:=fun i o ho=>a0H h (i,o) (by simpa using a0i all 0 i o ho);simp only[zb]at base;have lt:∀ {a b:Nat},ze a b=true->a<b:=fun h=>zk h;have blt:∀ {a b:Nat},a<b->ze a b=true:=fun h=>zu h;intro i j oi oj hi hj hji him;have:=(base i oi hi).2;have hb:ze i m=false:=by
   cases hb:ze i m with
   | false=>rfl
   | true=>have:=lt hb;omega
 rw[hb]at this;have h2:=a0H this (j,oj) (by simpa using a0i all 0 j oj hj);simp only[blt hji]at h2;exact hanc i j (a0Q h2)
theorem a2T {all:List Oper} {m n:Nat} (h:a1G all m n=true):OrdOK all m n:=by
 have hanc:∀ i a,a∈nth (ancT all []) i []->Anc all i a:=a2v all all [] ⟨[],rfl,rfl⟩ (fun i a ha=>by simp[nth]at ha);have base:∀ i o,all[i]? = some o->_:=fun i o ho=>a0H h (i,o) (by simpa using a0i all 0 i o ho);simp only[zb]at base;have lt:∀ {a b:Nat},ze a b=true->a<b:=fun h=>zk h;have blt:∀ {a b:Nat},a<b->ze a b=true:=fun h=>zu h;refine⟨fun i o ho e he hb=>?_,fun i o ho hi=>?_,fun i j oi oj d hi hj hji him hdi hdj=>?_,fun i j oi oj hi hj hji him hc=>?_⟩
 . have:=a0H (base i o ho).1 e (by simpa using he);rw[hb]at this;exact lt this
 . have:=(base i o ho).2;rw[blt hi]at this;simp only[zb]at this;cases hd:o.dst with
   | none=>rw[hd]at this;simp at this
   | some d=>rw[hd]at this;exact⟨d,rfl,lt this.1⟩
 . have:=(base i oi hi).2;rw[blt him]at this;simp only[zb]at this;have h2:=a0H this.2 (j,oj) (by simpa using a0i all 0 j oj hj);simp only[blt hji,zb,hdi,hdj,a5Q]at h2;have:=h2.1;rw[zl]at this;cases this
 . have:=(base i oi hi).2;rw[blt him]at this;simp only[zb]at this;have h2:=a0H this.2 (j,oj) (by simpa using a0i all 0 j oj hj);simp only[blt hji,zb]at h2;have h3:=h2.2;have hcc:(hasO (a0b all oi) oj.dst||hasO (a0b all oj) oi.dst)=true:=by
     simp only[zf];rcases hc with⟨d,hd,hm⟩|⟨d,hd,hm⟩
     . left;rw[hd];exact a3q hm
     . right;rw[hd];exact a3q hm
   rw[hcc]at h3;exact hanc i j (a0Q h3)
theorem a8X {all:List Oper} {m n:Nat} (h:a5v all m n=true):OrdOK all m n:=by
 have hanc:∀ i a,a∈nth (ancT all []) i []->Anc all i a:=a2v all all [] ⟨[],rfl,rfl⟩ (fun i a ha=>by simp[nth]at ha);have base:∀ i o,all[i]? = some o->_:=fun i o ho=>a0H h (i,o) (by simpa using a0i all 0 i o ho);simp only[zb]at base;have lt:∀ {a b:Nat},ze a b=true->a<b:=fun h=>zk h;have blt:∀ {a b:Nat},a<b->ze a b=true:=fun h=>zu h;refine⟨fun i o ho e he hb=>?_,fun i o ho hi=>?_,fun i j oi oj d hi hj hji him hdi hdj=>?_,fun i j oi oj hi hj hji him hc=>?_⟩
 . have:=a0H (base i o ho).1 e (by simpa using he);rw[hb]at this;exact lt this
 . have:=(base i o ho).2;rw[blt hi]at this;simp only[zb]at this;cases hd:o.dst with
   | none=>rw[hd]at this;simp at this
   | some d=>rw[hd]at this;exact⟨d,rfl,lt this.1⟩
 . have:=(base i oi hi).2;rw[blt him]at this;simp only[zb]at this;have h2:=a0H this.2 (j,oj) (by simpa using a0i all 0 j oj hj);simp only[blt hji,zb,hdi,hdj,a5Q]at h2;have:=h2.1;rw[zl]at this;cases this
 . have:=(base i oi hi).2;rw[blt him]at this;simp only[zb]at this;have h2:=a0H this.2 (j,oj) (by simpa using a0i all 0 j oj hj);simp only[blt hji,zb]at h2;have h3:=h2.2;have hcc:(hasO (a0b all oi) oj.dst||hasO (a0b all oj) oi.dst)=true:=by
     simp only[zf];rcases hc with⟨d,hd,hm⟩|⟨d,hd,hm⟩
     . left;rw[hd];exact a3q hm
     . right;rw[hd];exact a3q hm
   rw[hcc]at h3;exact hanc i j (a0Q h3)
theorem a8Y {all:List Oper} {m n:Nat} (h:a5v all m n=true):∀ i j oi oj,all[i]? = some oi->all[j]? = some oj->j<m->m≤i->Anc all i j:=by
 have hanc:∀ i a,a∈nth (ancT all []) i []->Anc all i a:=a2v all all [] ⟨[],rfl,rfl⟩ (fun i a ha=>by simp[nth]at ha);have base:∀ i o,all[i]? = some o->_:=fun i o ho=>a0H h (i,o) (by simpa using a0i all 0 i o ho);simp only[zb]at base;have lt:∀ {a b:Nat},ze a b=true->a<b:=fun h=>zk h;have blt:∀ {a b:Nat},a<b->ze a b=true:=fun h=>zu h;intro i j oi oj hi hj hji him;have:=(base i oi hi).2;have hb:ze i m=false:=by
   cases hb:ze i m with
   | false=>rfl
   | true=>have:=lt hb;omega
 rw[hb]at this;have h2:=a0H this (j,oj) (by simpa using a0i all 0 j oj hj);simp only[blt hji]at h2;exact hanc i j (a0Q h2)
theorem a8Z {all:List Oper} {m n:Nat} (h:a5j all m n=true):OrdOK all m n:=by
 have hanc:∀ i a,a∈nth (ancT all []) i []->Anc all i a:=a2v all all [] ⟨[],rfl,rfl⟩ (fun i a ha=>by simp[nth]at ha);have base:∀ i o,all[i]? = some o->_:=fun i o ho=>a0H h (i,o) (by simpa using a0i all 0 i o ho);simp only[zb]at base;have lt:∀ {a b:Nat},ze a b=true->a<b:=fun h=>zk h;have blt:∀ {a b:Nat},a<b->ze a b=true:=fun h=>zu h;refine⟨fun i o ho e he hb=>?_,fun i o ho hi=>?_,fun i j oi oj d hi hj hji him hdi hdj=>?_,fun i j oi oj hi hj hji him hc=>?_⟩
 . have:=a0H (base i o ho).1 e (by simpa using he);rw[hb]at this;exact lt this
 . have:=(base i o ho).2;rw[blt hi]at this;simp only[zb]at this;cases hd:o.dst with
   | none=>rw[hd]at this;simp at this
   | some d=>rw[hd]at this;exact⟨d,rfl,lt this.1⟩
 . have:=(base i oi hi).2;rw[blt him]at this;simp only[zb]at this;have h2:=a0H this.2 (j,oj) (by simpa using a0i all 0 j oj hj);simp only[blt hji,zb,hdi,hdj,a5Q]at h2;have:=h2.1;rw[zl]at this;cases this
 . have:=(base i oi hi).2;rw[blt him]at this;simp only[zb]at this;have h2:=a0H this.2 (j,oj) (by simpa using a0i all 0 j oj hj);simp only[blt hji,zb]at h2;have h3:=h2.2;have hcc:(hasO (a0b all oi) oj.dst||hasO (a0b all oj) oi.dst)=true:=by
     simp only[zf];rcases hc with⟨d,hd,hm⟩|⟨d,hd,hm⟩
     . left;rw[hd];exact a3q hm
     . right;rw[hd];exact a3q hm
   rw[hcc]at h3;exact hanc i j (a0Q h3)
theorem a6b {all:List Oper} {m n:Nat} (h:a5j all m n=true):∀ i j oi oj,all[i]? = some oi->all[j]? = some oj->j<i->m<i->Anc all i j:=by
 have hanc:∀ i a,a∈nth (ancT all []) i []->Anc all i a:=a2v all all [] ⟨[],rfl,rfl⟩ (fun i a ha=>by simp[nth]at ha);have base:∀ i o,all[i]? = some o->_:=fun i o ho=>a0H h (i,o) (by simpa using a0i all 0 i o ho);simp only[zb]at base;have lt:∀ {a b:Nat},ze a b=true->a<b:=fun h=>zk h;have blt:∀ {a b:Nat},a<b->ze a b=true:=fun h=>zu h;intro i j oi oj hi hj hji him;have:=(base i oi hi).2;have hb:ze i m=false:=by
   cases hb:ze i m with
   | false=>rfl
   | true=>have:=lt hb;omega
 have hne:zs i m=false:=by
   cases hb:zs i m with
   | false=>rfl
   | true=>have:=zc hb;omega
 rw[hb]at this;simp only[hne,zO]at this;have h2:=a0H this (j,oj) (by simpa using a0i all 0 j oj hj);simp only[blt hji]at h2;exact hanc i j (a0Q h2)
def a1h:List Nat->TV->Bool
 | [],_=>false
 | r::l,t=>t.uses r||a1h l t
def freeO (all:List Oper) (mvd:List Nat) (σ:St) (o:Oper):Bool:=match mvd with
 | []=>true
 | q::l=>allB (fun τ=>!a1h (q::l) (nth σ.ts τ .dead)) (a0b all o)
def b5E (all:List Oper) (i r:Nat):Bool:=!allB (fun p:Nat×Oper=>!(ze p.1 i&&adds p.2&&a5Q p.2.dst (some (r/4)))) (numb 0 all)
def sepB (all:List Oper) (i:Nat) (M:List Nat) (σ:St):Bool :=
 let A:=nth (ancT all []) i []
 allB (fun r=>b5E all i r&&allB (fun p:Nat×Oper=>zs p.1 i||hasN A p.1||allB (fun τ=>!(nth σ.ts τ .dead).uses r) (a0b all p.2)) (numb 0 all)) M
theorem a8s {l:List Nat} {t:TV} (h:a1h l t=false):∀ r∈l,t.uses r=false:=by
 induction l with
 | nil=>simp
 | cons x l ih =>
   simp only[a1h,zQ]at h;intro r hr;simp only[zj]at hr;rcases hr with rfl|hr
   . exact h.1
   . exact ih h.2 r hr
theorem b2x {all:List Oper} {mvd:List Nat} {σ:St} {o:Oper} (h:freeO all mvd σ o=true):∀ τ∈a0b all o,∀ r∈mvd,(nth σ.ts τ .dead).uses r=false:=by
 intro τ hτ r hr;cases mvd with
 | nil=>cases hr
 | cons q l =>
   have:=a0H h τ hτ;simp only[zn]at this;exact a8s this r hr
theorem b1i {α:Type} {p:α->Bool}:∀ {l:List α},allB p l=false->∃ x∈l,p x=false:=by
 intro l;induction l with
 | nil=>intro h;cases h
 | cons y l ih =>
   intro h;simp only[allB]at h;cases hy:p y with
   | true=>rw[hy]at h;obtain⟨x,hx,h2⟩:=ih h;exact⟨x,by simp[hx],h2⟩
   | false=>exact⟨y,by simp,hy⟩
theorem b0h {α:Type}:∀ (l:List α) (n:Nat) (q:Nat×α),q∈numb n l->∃ i,q.1=n+i/\l[i]? = some q.2:=by
 intro l;induction l with
 | nil=>intro n q h;cases h
 | cons y l ih =>
   intro n q h;simp only[numb,zj]at h;rcases h with rfl|h
   . exact⟨0,rfl,rfl⟩
   . obtain⟨i,h1,h2⟩:=ih (n+1) q h;exact⟨i+1,by omega,by simpa using h2⟩
theorem b3c {all:List Oper} {i:Nat} {M:List Nat} {σ:St} (h:sepB all i M σ=true) {r:Nat} (hr:r∈M) :
   (∃ (j:Nat) (oj:Oper),j<i/\all[j]? = some oj/\adds oj=true/\oj.dst=some (r/4))/\∀ (j:Nat) (oj:Oper),all[j]? = some oj->j≠i->Anc all i j∨∀ τ∈a0b all oj,(nth σ.ts τ .dead).uses r=false:=by
 have hanc:∀ i a,a∈nth (ancT all []) i []->Anc all i a:=a2v all all [] ⟨[],rfl,rfl⟩ (fun i a ha=>by simp[nth]at ha);have h1:=a0H h r hr;simp only[zb]at h1;refine⟨?_,fun j oj hj hji=>?_⟩
 . have h2:=h1.1;simp only[b5E,zn]at h2;obtain⟨q,hq,h3⟩:=b1i h2;obtain⟨j,h4,h5⟩:=b0h all 0 q hq;simp only[Bool.not_eq_false',zb]at h3;obtain⟨⟨h6,h7⟩,h8⟩:=h3;refine⟨j,q.2,?_,h5,h7,?_⟩
   . have:q.1<i:=zk h6;omega
   . cases hd:q.2.dst with
     | none=>rw[hd]at h8;cases h8
     | some d=>rw[hd]at h8;rw[zc h8]
 . have h2:=a0H h1.2 (j,oj) (by simpa using a0i all 0 j oj hj);simp only[zf]at h2;rcases h2 with(h2|h2)|h2
   . exact absurd (zc h2) hji
   . exact .inl (hanc i j (a0Q h2))
   . right;intro τ hτ;have:=a0H h2 τ hτ;simpa using this
def b4p {α:Type} (p:α->Bool) (l:List α):Bool:=!allB (fun x=>!p x) l
def b1H (o:Oper):Bool:=match o.op with
 | .select _ _=>true
 | _=>false
def a1V (all:List Oper):Nat->List TV->List Nat
 | _,[]=>[]
 | i,t::l=>match (asInt t).isSome&&allB (fun o:Oper=>!a5Q o.dst (some i)) all with
   | true=>i::a1V all (i+1) l
   | false=>a1V all (i+1) l
def b3I (o:Oper):Option Nat:=match o.guard,o.op with
 | none,.move (.tmp τ)=>some τ
 | _,_=>none
def b1G (S:List Nat) (os:List (Nat×Oper)) (o:Oper) (z:Operand):Bool:=match z with
 | .tmp d=>b4p (fun p:Nat×Oper=>a5Q p.2.dst (some d)&&((match b3I p.2 with
     | some τ=>hasN S τ
     | none=>false)&&b4p (fun e:Edge=>Region.binds .any e&&zs e.on p.1) o.after.toList)) os
 | _=>false
def a4r (S:List Nat) (os:List (Nat×Oper)) (o:Oper):Bool:=match o.guard,o.dst,o.op with
 | none,some _,.move _=>true
 | none,some _,.extract _ _=>true
 | none,some _,.binOp .add _ x y _=>b1G S os o x&&b1G S os o y
 | _,_,_=>false
def a4P (S:List Nat) (os:List (Nat×Oper)) (A:List Nat) (i:Nat):List (Nat×Oper)->List Nat->List Nat
 | [],G=>G
 | p :: l,G=>match ze p.1 i&&(a4r S os p.2&&allB (fun e=>match Region.binds .any e with
     | true=>hasN G e.on||hasN A e.on
     | false=>true) p.2.after.toList)with
   | true=>a4P S os A i l (p.1::G)
   | false=>a4P S os A i l G
def b1C (S:List Nat) (all:List Oper) (t:Nat) (i:Nat) (o:Oper):List Nat:=match ze i t with
 | true=>[]
 | false=>a4P S (numb 0 all) (nth (ancT all []) i []) i (numb 0 all) []
def a5z (S:List Nat) (all:List Oper) (t:Nat) (p:Nat×Oper):Oper :=
 ⟨p.2.dst,p.2.op,p.2.type,p.2.pos,p.2.after++((b1C S all t p.1 p.2).map fun f=>(⟨f,.phase⟩:Edge)).toArray,p.2.guard⟩
def b4E (S:List Nat) (all:List Oper) (n:Nat):Bool :=
 let T:=ancT all [];let os:=numb 0 all
 allB (fun p:Nat×Oper=>!b1H p.2&&(allB (fun e=>match Region.binds .any e with
     | true=>ze e.on p.1
     | false=>true) p.2.after.toList &&
   (match a4r S os p.2 with
   | false=>true
   | true=>(match p.2.dst with
       | some d=>ze d n
       | none=>false)&&allB (fun q:Nat×Oper=>match zs q.1 p.1 with
     | true=>!hasO (a0b all p.2) p.2.dst
     | false=>!a5Q q.2.dst p.2.dst&&((!hasO (a0b all q.2) p.2.dst||hasN (nth T q.1 []) p.1)&&(!hasO (a0b all p.2) q.2.dst||(hasN (nth T p.1 []) q.1||hasN (nth T q.1 []) p.1)))) os))) os
def a1T (t:Nat) (all:List Oper) (ts:List TV):Option (List Oper):=match b4E (a1V all 0 ts) all ts.length with
 | true=>some ((numb 0 all).map (a5z (a1V all 0 ts) all t))
 | false=>none
def a1j (ops:List Oper) (m:Nat) (τ:Nat):Option Nat:=(zJ m).find? fun i=>match ops[i]? with
 | some o=>match o.dst with
   | some d=>zs d τ
   | none=>false
 | none=>false
def a2D:List Nat->List (List Nat)
 | []=>[[]]
 | x::l=>a2D l++(a2D l).map fun u=>x::u
theorem a3p (p:Nat->Bool):∀ l:List Nat,l.filter p∈a2D l
 | []=>by simp[a2D]
 | x::l=>by
   simp only[a2D,z9,zG,zx];cases p x with
   | true=>exact .inr ⟨_,a3p p l,rfl⟩
   | false=>exact .inl (a3p p l)
def a2e (all:List Oper) (m:Nat):List Nat:=(zJ m).filter fun j=>!hasN (nth (ancT all []) m []) j
def okU (all:List Oper) (m:Nat) (U:List Nat):Bool:=allB (fun i=>hasN U i||allB (fun a=>!hasN U a) (nth (ancT all []) i [])) (zJ m)
def a5Y (all:List Oper) (m:Nat) (U:List Nat) (τ:Nat):Bool:=match a1j all m τ with
 | some i=>hasN U i
 | none=>false
def a4t (all:List Oper) (m:Nat) (U:List Nat) (σ0:St):Nat->List TV->List TV
 | _,[]=>[]
 | τ,t::l=>(match a5Y all m U τ with
   | true=>nth σ0.ts τ .dead
   | false=>t)::a4t all m U σ0 (τ+1) l
def b1M (all:List Oper) (m:Nat) (U:List Nat) (σ0 σ:St):St:=⟨a4t all m U σ0 0 σ.ts,σ.rs.filter fun p=>!a5Y all m U (p.1/4)||(rget σ0.rs p.1).isSome⟩
end Go.Vm
end
section
namespace Go.Vm
mutual
def TV.within (l:List Nat):TV->Bool
 | .ref r _=>hasN l r
 | .view r _ _ _=>hasN l r
 | .fn _ caps=>TV.withinL l caps
 | .tup _ ts=>TV.withinL l ts
 | .pfn t=>TV.within l t
 | _=>true
def TV.withinL (l:List Nat):List TV->Bool
 | []=>true
 | t::ts=>TV.within l t&&TV.withinL l ts
end
def a5X (lt lr:List Nat):Nat->List TV->List TV
 | _,[]=>[]
 | i,t::ts=>(match hasN lt i&&t.within lr with
   | true=>t
   | false => .dead)::a5X lt lr (i+1) ts
def a5b (rs:List (Nat×Root)):List Nat->List (Nat×Root)
 | []=>[]
 | r::l=>match rget rs r with
   | some x=>(r,x)::a5b rs l
   | none=>a5b rs l
def b4w (l:List Nat×List Nat) (σ:St):St:=⟨a5X l.1 l.2 0 σ.ts,a5b σ.rs l.2⟩
def a1X:Code->Option Nat
 | .region id _ _=>some id
 | .seq a b=>match a1X a with
   | some i=>some i
   | none=>a1X b
 | .block _ b=>a1X b
 | .loop b=>a1X b
 | .cond _ a b=>match a1X a with
   | some i=>some i
   | none=>a1X b
 | _=>none
structure Cfg where
 c:Ctx
 kp:List Nat
 cuts:List Nat
 live:Nat->List Nat×List Nat
 weak:Nat->List Nat
def a8D (g:Cfg) (c:Code) (σ:St):St:=match a1X c with
 | some i=>b4w (g.live i) (a5S (g.weak i) σ)
 | none=>σ
variable {R:Type}
def a1N (kp:List Nat):List Oper->Bool
 | []=>true
 | o::l=>(match o.dst with
   | some d=>!hasN kp d
   | none=>true)&&a1N kp l
def a2E (r:Nat) (σ:St):St:=match rget σ.rs r with
 | some _=>σ.del r
 | none=>σ
def a0d:List Oper->St->St
 | [],σ=>σ
 | o::l,σ=>match adds o,o.dst with
   | true,some d=>a0d l (a2E (4*d) (a2E (4*d+1) (a2E (4*d+2) (a2E (4*d+3) σ))))
   | _,_=>a0d l σ
def a5f (c:Ctx) (all:List Oper) (i:Nat) (mvd:List Nat) (o:Oper) (σ:St) (k:List Nat->St->Option R):Option R:=match a4U c o σ with
 | true=>a0C c o σ (k mvd)
 | false=>match mvOp c o σ with
   | some q=>match sepB all i q.1 σ with
     | true=>k (q.1++mvd) ((a2w [q.2.1] σ).put o.dst q.2.2)
     | false=>none
   | none=>none
def a4B (c : Ctx) (all:List Oper):List Oper->Nat->List Nat->St->(St->Option R)->Option R
 | [],_,mvd,σ,k=>k (a0G mvd σ)
 | o :: l, i,mvd,σ,k=>match freeO all mvd σ o with
   | false=>none
   | true => match o.guard with
     | none=>a5f c all i mvd o σ fun mvd' σ'=>a4B c all l (i+1) mvd' σ' k
     | some (j,want)=>match (nth (all.map some) j none).bind (·.dst)with
       | none=>none
       | some t=>match b0a (nth σ.ts t .dead)with
         | true=>a4B c all l (i+1) mvd (σ.put o.dst und) k
         | false=>match asBool (nth σ.ts t .dead)with
           | none=>none
           | some b=>if b=true then(match want with
               | true=>a5f c all i mvd o ⟨upd σ.ts t (vB true),σ.rs⟩ fun mvd' σ'=>a4B c all l (i+1) mvd' σ' k
               | false=>a4B c all l (i+1) mvd ((⟨upd σ.ts t (vB true),σ.rs⟩:St).put o.dst und) k)
             else(match want with
               | false=>a5f c all i mvd o ⟨upd σ.ts t (vB false),σ.rs⟩ fun mvd' σ'=>a4B c all l (i+1) mvd' σ' k
               | true=>a4B c all l (i+1) mvd ((⟨upd σ.ts t (vB false),σ.rs⟩:St).put o.dst und) k)
def a5g (c:Ctx) (o:Oper) (σ:St) (k:St->Option R):Option R:=match a4U c o σ with
 | true=>a0C c o σ k
 | false=>none
def a4R (c : Ctx) (all:List Oper):List Oper->St->(St->Option R)->Option R
 | [],σ,k=>k σ
 | o :: l, σ,k=>match o.guard with
     | none=>a5g c o σ fun σ'=>a4R c all l σ' k
     | some (j,want)=>match (nth (all.map some) j none).bind (·.dst)with
       | none=>none
       | some t=>match b0a (nth σ.ts t .dead)with
         | true=>a4R c all l (σ.put o.dst und) k
         | false=>match asBool (nth σ.ts t .dead)with
           | none=>none
           | some b=>if b=true then(match want with
               | true=>a5g c o ⟨upd σ.ts t (vB true),σ.rs⟩ fun σ'=>a4R c all l σ' k
               | false=>a4R c all l ((⟨upd σ.ts t (vB true),σ.rs⟩:St).put o.dst und) k)
             else(match want with
               | false=>a5g c o ⟨upd σ.ts t (vB false),σ.rs⟩ fun σ'=>a4R c all l σ' k
               | true=>a4R c all l ((⟨upd σ.ts t (vB false),σ.rs⟩:St).put o.dst und) k)
def writes (lv:Nat) (o:Oper):Bool:=match o.op with
 | .store _ _ _=>true
 | .assign _=>!Nat.beq lv 0
 | .call cl=>match cl.callee with
   | .builtin .append=>true
   | .builtin .copy=>true
   | .builtin .clear=>true
   | .builtin _=>false
   | _=>zs lv 2
 | _=>false
def a1Q (lv:Nat):List Oper->Nat
 | []=>0
 | o::l=>match writes lv o with
   | true=>0
   | false=>a1Q lv l+1
def pickM (all:List Oper) (n:Nat):Option Nat:=match a1G all (a1Q 1 all) n with
 | true=>some (a1Q 1 all)
 | false=>match a1G all (a1Q 0 all) n with
   | true=>some (a1Q 0 all)
   | false=>match a1G all (a1Q 2 all) n with
     | true=>some (a1Q 2 all)
     | false=>none
def a6d (t:Nat) (all:List Oper) (ts:List TV):Option (Nat×List Oper):=match a1T t all ts with
 | some all'=>match a1G all' t ts.length with
   | true=>some (t,all')
   | false=>none
 | none=>none
def pickF (all:List Oper) (ts:List TV):Option (Nat×List Oper):=match pickM all ts.length with
 | some m=>some (m,all)
 | none=>match a6d (a1Q 1 all) all ts with
   | some q=>some q
   | none=>match a6d (a1Q 0 all) all ts with
     | some q=>some q
     | none=>a6d (a1Q 2 all) all ts
def b5M (c:Ctx) (o:Oper):Bool:=match o.op with
 | .call cl=>match cl.callee with
   | .value (.func g)=>!a9M g c.callees
   | _=>false
 | _=>false
def b2n (c:Ctx):List Oper->Bool
 | []=>false
 | o::l=>b5M c o||b2n c l
def a7u (c:Ctx):List Oper->Nat
 | []=>0
 | o::l=>match b5M c o with
   | true=>0
   | false=>a7u c l+1
def b5J (g:FuncId):List Callee->Bool
 | []=>false
 | e::l=>match zH e.f g with
   | .isTrue _=>!a3V e.s.outs
   | .isFalse _=>b5J g l
def b1F (t:Nat):List Oper->Bool
 | []=>false
 | o :: l=>(match o.dst,o.op with
   | some d,.call cl=>zs d t&&(match cl.callee with
     | .value (.func _)=>true
     | _=>false)
   | some d,.buildSlice _ _ _=>zs d t
   | _,_=>false)||b1F t l
def b0M (all:List Oper):List Operand->Bool
 | []=>false
 | .tmp t::l=>b1F t all||b0M all l
 | _::l=>b0M all l
def lendOp (c:Ctx) (all:List Oper) (o:Oper):Bool:=match o.op with
 | .call cl=>match cl.callee with
   | .value (.func g)=>b5J g c.callees&&b0M all cl.args.toList
   | _=>false
 | _=>false
def b5F (c:Ctx) (all:List Oper):List Oper->Nat->Option Nat
 | [],_=>none
 | o::l,i=>match lendOp c all o with
   | true=>some i
   | false=>b5F c all l (i+1)
def pickL (c:Ctx) (all:List Oper) (ts:List TV):Option (Nat×List Oper):=match b5F c all all 0 with
 | none=>none
 | some t=>match Nat.ble t all.length with
   | false=>none
   | true=>match a1G all t ts.length with
     | true=>some (t,all)
     | false=>a6d t all ts
def pickG (c:Ctx) (all:List Oper) (ts:List TV):Option (Nat×List Oper):=match b2n c all with
 | true=>match a1G all (a7u c all) ts.length with
   | true=>some (a7u c all,all)
   | false=>a6d (a7u c all) all ts
 | false=>match pickL c all ts with
   | some q=>some q
   | none=>pickF all ts
noncomputable def both (a b:Option R):Option R:=@ite _ (a=b) (Classical.propDecidable _) a none
theorem a6E {a b:Option R} {r:R} (h:both a b=some r):a=some r/\b=some r:=by
 unfold both at h;split at h
 . rename_i he;exact⟨h,he▸h⟩
 . cases h
theorem b2t {a b:Option R} {r:R} (h1:a=some r) (h2:b=some r):both a b=some r:=by
 unfold both;rw[h1,h2,if_pos rfl]
noncomputable def b0P:List (Option R)->Option R
 | []=>none
 | a::l=>match l with
   | []=>a
   | _::_=>both a (b0P l)
theorem a3S:∀ {l:List (Option R)} {r:R},b0P l=some r->∀ a∈l,a=some r
 | [],_,h=>by cases h
 | [a],r,h=>by
   intro b hb;rw[zq.1 hb];exact h
 | a::b::l,r,h=>by
   obtain⟨h1,h2⟩:=a6E h;intro x hx;rcases zj.1 hx with rfl|hx
   . exact h1
   . exact a3S h2 x hx
theorem a8B:∀ {l:List (Option R)} {r:R},l≠[]->(∀ a∈l,a=some r)->b0P l=some r
 | [],_,h,_=>absurd rfl h
 | [a],r,_,h=>h a (by simp)
 | a::b::l,r,_,h=>b2t (h a (by simp)) (a8B (by simp) fun x hx=>h x (by simp[hx]))
def b0s (rest:List (Nat×Oper)) (o:Oper):Bool:=allB (fun e=>match Region.binds .any e with
 | true=>!hasN (rest.map (·.1)) e.on
 | false=>true) o.after.toList
def outN (i:Nat) (rest:List (Nat×Oper)):List (Nat×Oper):=rest.filter fun p=>!Nat.beq p.1 i
noncomputable def a5o (c:Ctx) (all:List Oper):Nat->List (Nat×Oper)->St->(St->Option R)->Option R
 | 0,rest,σ,k=>match rest with
   | []=>k σ
   | _::_=>none
 | n+1,rest,σ,k=>match rest with
   | []=>k σ
   | _::_=>b0P ((rest.filter fun p=>b0s rest p.2).map fun p=>opsK c all [p.2] σ fun σ'=>a5o c all n (outN p.1 rest) σ' k)
def b2L (all:List Oper) (ts:List TV):Nat->Option (Nat×List Oper)
 | 0 => match a1T 0 all ts with
   | some all'=>match a5v all' 0 ts.length with
     | true=>some (0,all')
     | false=>none
   | none=>none
 | t + 1=>match a1T (t+1) all ts with
   | some all'=>match a5v all' (t+1) ts.length with
     | true=>some (t+1,all')
     | false=>b2L all ts t
   | none=>b2L all ts t
def b3Y (all:List Oper) (m:Nat) (U:List Nat):List (Nat×Oper):=(numb 0 all).filter fun p=>hasN U p.1||Nat.ble m p.1
noncomputable def midK (c:Ctx) (all:List Oper) (m:Nat) (U:List Nat) (σ0 σ:St) (k:St->Option R):Option R:=match U with
 | []=>a5o c all all.length (b3Y all m []) σ k
 | u::us=>match nth (all.map some) m none with
   | some o=>opsK c all [o] (b1M all m (u::us) σ0 σ) fun σ'=>a5o c all all.length (outN m (b3Y all m (u::us))) σ' k
   | none=>none
def pickY (all:List Oper) (ts:List TV):Option (Nat×List Oper):=match a1T (a1Q 0 all) all ts with
 | some all'=>match a5j all' (a1Q 0 all) ts.length&&ze (a1Q 0 all) all.length&&Nat.ble (a2e all' (a1Q 0 all)).length 6 with
   | true=>some (a1Q 0 all,all')
   | false=>none
 | none=>none
noncomputable def drawY (c:Ctx) (q:Nat×List Oper) (σ:St) (k:St->Option R):Option R :=
 a4R c q.2 (q.2.take q.1) (a0d (q.2.take q.1) σ) fun σ'=>b0P (((a2D (a2e q.2 q.1)).filter (okU q.2 q.1)).map fun U=>midK c q.2 q.1 U (a0d (q.2.take q.1) σ) σ' k)
def a8M (o1 o2 o3:Oper) (σ:St):Bool:=match o1.op,o2.op,o3.op,o1.guard,o2.guard,o3.guard with
 | .call ⟨.builtin .append,args,_⟩,.indexAddr _ _ _,.store _ _ _,none,none,none=>match args.toList with
   | [s,_]=>match nilO s,a0x σ s with
     | false,.view _ (.hop _ _ _ _) 1 false=>true
     | _,_=>false
   | _=>false
 | _,_,_,_,_,_=>false
def b2X (c:Ctx) (all:List Oper) (l:List Oper) (σ:St) (k:St->Option R):Option R:=match l with
 | [o1,o2,o3]=>match a8M o1 o2 o3 σ with
   | true=>a6D c o1 o2 o3 σ k
   | false=>opsK c all [o1,o2,o3] σ k
 | l=>opsK c all l σ k
noncomputable def b4B (c:Ctx) (all:List Oper) (σ:St) (k:St->Option R):Option R:=match pickG c all σ.ts with
 | none=>match pickY all σ.ts with
  | some q=>drawY c q σ k
  | none=>match b2L all σ.ts (a1Q 0 all)with
   | none=>none
   | some q=>a4B c q.2 (q.2.take q.1) 0 [] (a0d (q.2.take q.1) σ) fun σ'=>a5o c q.2 q.2.length ((numb 0 q.2).drop q.1) σ' k
 | some q=>a4B c q.2 (q.2.take q.1) 0 [] (a0d (q.2.take q.1) σ) fun σ'=>b2X c q.2 (q.2.drop q.1) σ' k
def b0f (c:Ctx) (o:Oper) (σ:St):Option (Bool×Nat):=match o.op,o.guard with
 | .binOp .eql T x y _,none=>match nilO y,c.tab T,lenOf σ (a0x σ x)with
   | true,some ⟨false,.sl _,_,_⟩,some n=>some (true,n)
   | _,_,_=>none
 | .binOp .neq T x y _,none=>match nilO y,c.tab T,lenOf σ (a0x σ x)with
   | true,some ⟨false,.sl _,_,_⟩,some n=>some (false,n)
   | _,_,_=>none
 | _,_=>none
noncomputable def opsU (c:Ctx) (all:List Oper):List Oper->St->(St->Option R)->Option R
 | [],σ,k=>k σ
 | o::l,σ,k=>match b0f c o σ with
   | some p=>if 0<p.2 then opsU c all l (σ.put o.dst (vB (!p.1))) k else both (opsU c all l (σ.put o.dst (vB true)) k) (opsU c all l (σ.put o.dst (vB false)) k)
   | none=>opsK c all [o] σ fun σ'=>opsU c all l σ' k
noncomputable def a4V (g:Cfg) (ops:Array Oper) (draw:Bool) (σ:St) (k:St->Option R):Option R:=match a1N g.kp ops.toList with
 | false=>none
 | true=>match draw with
   | false=>opsU g.c ops.toList ops.toList σ k
   | true=>b4B g.c ops.toList σ k
noncomputable def a1P (g:Cfg) (fin:St->Option R) (O:List Item->St->Option R):Nat->List Item->St->Option R
 | 0,_,_=>none
 | _+1,[],σ=>fin σ
 | s+1,.inBlock _::t,σ=>a1P g fin O s t σ
 | _+1,.inLoop c::t,σ=>O (.inLoop c::t) (a8D g c σ)
 | s + 1,.code c::t,σ=>match c with
   | .skip=>a1P g fin O s t σ
   | .label _=>a1P g fin O s t σ
   | .region id ops draw=>match hasN g.cuts id with
     | true=>O (.code (.region id ops draw)::t) (b4w (g.live id) σ)
     | false=>a4V g ops draw σ fun σ'=>a1P g fin O s t σ'
   | .seq x y=>a1P g fin O s (.code x :: .code y::t) σ
   | .cond b x y=>match asBool (a0x σ b)with
     | some v=>if v=true then a1P g fin O s (.code x::t) σ else a1P g fin O s (.code y::t) σ
     | none=>none
   | .block id x=>a1P g fin O s (.code x :: .inBlock id::t) σ
   | .loop x=>O (.inLoop x::t) (a8D g x σ)
   | .exit id=>match exitTo id t with
     | some t'=>a1P g fin O s t' σ
     | none=>none
   | .ret=>fin σ
   | _=>none
 | _+1,_::_,_=>none
def big:Nat:=4096
noncomputable def runT (g:Cfg) (fin:St->Option R):Nat->List Item->St->Option R
 | 0,_,_=>none
 | k+1,.inLoop c::t,σ=>a1P g fin (runT g fin k) big (.code c :: .inLoop c::t) σ
 | k+1,.code (.region _ ops draw)::t,σ=>a4V g ops draw σ fun σ'=>a1P g fin (runT g fin k) big t σ'
 | _+1,_,_=>none
theorem a8v (o:Oper) (k:St->Option R) (x:Option (St×List TV)):a7N o k x=(a7N o some x).bind k:=by cases x<;>rfl
theorem a6G (c:Ctx) (o:Oper) (g:FuncId) (az:List TV) (σ:St) (k:St->Option R) (l:List Callee):a3K c o g az σ k l=(a3K c o g az σ some l).bind k:=by
 induction l with
 | nil=>rfl
 | cons e l ih =>
   simp only[a3K];split
   . split
     . split
       . rw[z5];congr 1;funext r;exact a8v _ _ _
       . rfl
     . exact ih
   . exact ih
theorem a7Z (c:Ctx) (asg:Bool) (o:Oper) (x:Operand) (σ:St) (k:St->Option R):a5m c asg o x σ k=(a5m c asg o x σ some).bind k:=by
 unfold a5m
 repeat' split
 all_goals rfl
theorem b2K (o:Oper) (x y z:Operand) (σ:St) (k:St->Option R):a7E o x y z σ k=(a7E o x y z σ some).bind k:=by
 unfold a7E
 repeat' split
 all_goals rfl
theorem a4j (c : Ctx) (o:Oper) (σ:St) (k:St->Option R):a0C c o σ k=(a0C c o σ some).bind k:=by
 unfold a0C;split
 . exact a7Z _ _ _ _ _ _
 . exact a7Z _ _ _ _ _ _
 . exact b2K _ _ _ _ _ _
 . unfold a6k;repeat' split
   all_goals rfl
 . unfold boxK;repeat' split
   all_goals rfl
 . unfold a6S;repeat' split
   all_goals rfl
 . split
   . unfold b1Z;repeat' split
     all_goals first|rfl|(unfold a6v;repeat' split)
     all_goals rfl
   . rfl
 . unfold a2I;repeat' split
   all_goals rfl
 . unfold binC;split
   . unfold b0A;repeat' split
     all_goals rfl
   . split
     . unfold binK;repeat' split
       all_goals rfl
     unfold eqK;repeat' split
     all_goals first|rfl|(unfold eqB;split<;>rfl)
 . unfold unK;repeat' split
   all_goals rfl
 . unfold a1l;repeat' split
   all_goals rfl
 . unfold a1Z;repeat' split
   all_goals rfl
 . unfold a0p;repeat' split
   all_goals rfl
 . unfold b1D;repeat' split
   all_goals rfl
 . unfold a3y;repeat' split
   all_goals rfl
 . split
   . unfold litK;repeat' split
     all_goals rfl
   . unfold a1x;repeat' split
     all_goals rfl
 . unfold a2H;repeat' split
   all_goals rfl
 . split
   . unfold a6F;repeat' split
     all_goals rfl
   . unfold a4g;repeat' split
     all_goals rfl
 . unfold a3z;repeat' split
   all_goals rfl
 . split
   . unfold subK;repeat' split
     all_goals rfl
   . unfold a6s;repeat' split
     all_goals rfl
 . split
   . split
     . split
       . unfold lenK;repeat' split
         all_goals rfl
       . rfl
     . rfl
   . split
     . split
       . unfold a8w;repeat' split
         all_goals rfl
       . unfold a5p;repeat' split
         all_goals rfl
     . rfl
   . split
     . unfold b4k;repeat' split
       all_goals rfl
     . rfl
   . split
     . unfold mmK;repeat' split
       all_goals rfl
     . rfl
   . split
     . unfold mmK;repeat' split
       all_goals rfl
     . rfl
   . split
     . split
       . split
         . unfold b4G;split
           . split
             . split
               . unfold a8C;split
                 . simp only[zK];exact a8v _ _ _
                 . rfl
               . rfl
             . rfl
           . rfl
         . rfl
       . unfold b1p;split
         . exact a6G _ _ _ _ _ _ _
         . split
           . exact a6G _ _ _ _ _ _ _
           . rfl
     . unfold a8C;split
       . rw[z5];congr 1
       . rfl
     . rfl
   . rfl
 . rfl
def Le {A:Type} (f h:A->Option R):Prop:=∀ x r,f x=some r->h x=some r
theorem a5F {c:Ctx} {o:Oper} {σ:St} {k k':St->Option R} (hk:Le k k') {r:R} (h:a0C c o σ k=some r):a0C c o σ k'=some r:=by
 rw[a4j]at h ⊢;cases hs:a0C c o σ some with
 | none=>rw[hs]at h;cases h
 | some σ'=>rw[hs]at h;exact hk _ _ h
theorem a6Z {c:Ctx} {all:List Oper} {k k':St->Option R} (hk:Le k k'):∀ (l:List Oper) (σ:St) {r:R},opsK c all l σ k=some r->opsK c all l σ k'=some r:=by
 intro l;induction l with
 | nil=>intro σ r h;exact hk _ _ h
 | cons o l ih =>
   intro σ r h;simp only[opsK]at h ⊢;split at h
   . exact a5F (fun σ' r' h'=>ih σ' h') h
   . split at h
     . cases h
     . split at h
       . exact ih _ h
       . split at h
         . cases h
         rename_i b hb;cases b with
         | true =>
           simp only[if_true]at h ⊢;split at h
           . exact a5F (fun σ' r' h'=>ih σ' h') h
           . exact ih _ h
         | false =>
           simp only[zi,if_false]at h ⊢;split at h
           . exact a5F (fun σ' r' h'=>ih σ' h') h
           . exact ih _ h
theorem a6u {c:Ctx} {all:List Oper} {i:Nat} {mvd:List Nat} {o:Oper} {σ:St} {k k':List Nat->St->Option R} (hk:∀ m,Le (k m) (k' m)) {r:R} (h:a5f c all i mvd o σ k=some r):a5f c all i mvd o σ k'=some r:=by
 unfold a5f at h ⊢;split at h
 . exact a5F (hk _) h
 . split at h
   . split at h
     . exact hk _ _ _ h
     . cases h
   . cases h
theorem b1Q {c:Ctx} {all:List Oper} {k k':St->Option R} (hk:Le k k'):∀ (l:List Oper) (i:Nat) (mvd:List Nat) (σ:St) {r:R},a4B c all l i mvd σ k=some r->a4B c all l i mvd σ k'=some r:=by
 intro l;induction l with
 | nil=>intro i mvd σ r h;exact hk _ _ h
 | cons o l ih =>
   intro i mvd σ r h;simp only[a4B]at h ⊢;split at h
   . cases h
   split at h
   . exact a6u (fun m σ' r' h'=>ih _ m σ' h') h
   . split at h
     . cases h
     . split at h
       . exact ih _ _ _ h
       . split at h
         . cases h
         rename_i b hb;cases b with
         | true =>
           simp only[if_true]at h ⊢;split at h
           . exact a6u (fun m σ' r' h'=>ih _ m σ' h') h
           . exact ih _ _ _ h
         | false =>
           simp only[zi,if_false]at h ⊢;split at h
           . exact a6u (fun m σ' r' h'=>ih _ m σ' h') h
           . exact ih _ _ _ h
theorem a7z {c:Ctx} {o:Oper} {σ:St} {k k':St->Option R} (hk:Le k k') {r:R} (h:a5g c o σ k=some r):a5g c o σ k'=some r:=by
 unfold a5g at h ⊢;split at h
 . exact a5F hk h
 . cases h
theorem b4S {c:Ctx} {all:List Oper} {k k':St->Option R} (hk:Le k k'):∀ (l:List Oper) (σ:St) {r:R},a4R c all l σ k=some r->a4R c all l σ k'=some r:=by
 intro l;induction l with
 | nil=>intro σ r h;exact hk _ _ h
 | cons o l ih =>
   intro σ r h;simp only[a4R]at h ⊢;split at h
   . exact a7z (fun σ' r' h'=>ih σ' h') h
   . split at h
     . cases h
     . split at h
       . exact ih _ h
       . split at h
         . cases h
         rename_i b hb;cases b with
         | true =>
           simp only[if_true]at h ⊢;split at h
           . exact a7z (fun σ' r' h'=>ih σ' h') h
           . exact ih _ h
         | false =>
           simp only[zi,if_false]at h ⊢;split at h
           . exact a7z (fun σ' r' h'=>ih σ' h') h
           . exact ih _ h
theorem a8o {c:Ctx} {all:List Oper} {k k':St->Option R} (hk:Le k k'):∀ (n:Nat) (rest:List (Nat×Oper)) (σ:St) {r:R},a5o c all n rest σ k=some r->a5o c all n rest σ k'=some r:=by
 intro n;induction n with
 | zero =>
   intro rest σ r h;cases rest with
   | nil=>exact hk _ _ h
   | cons p rest=>cases h
 | succ n ih =>
   intro rest σ r h;cases rest with
   | nil=>exact hk _ _ h
   | cons p rest =>
     simp only[a5o]at h ⊢;have h1:=a3S h;refine a8B (fun e=>?_) fun a ha=>?_
     . rw[z2]at e;rw[e]at h;cases h
     . obtain⟨q,hq,rfl⟩:=zx.1 ha;exact a6Z (fun σ' r' h'=>ih _ σ' h') _ _ (h1 _ (zx.2 ⟨q,hq,rfl⟩))
theorem opsU_le {c:Ctx} {all:List Oper} {k k':St->Option R} (hk:Le k k'):∀ (l:List Oper) (σ:St) {r:R},opsU c all l σ k=some r->opsU c all l σ k'=some r:=by
 intro l;induction l with
 | nil=>intro σ r h;exact hk _ _ h
 | cons o l ih =>
   intro σ r h;simp only[opsU]at h ⊢;split at h
   . split at h
     . rename_i h0;simp only[if_pos h0];exact ih _ h
     . rename_i h0;simp only[if_neg h0];obtain⟨h1,h2⟩:=a6E h;exact b2t (ih _ h1) (ih _ h2)
   . exact a6Z (fun σ' r' h'=>ih σ' h') _ _ h
theorem b0N {c:Ctx} {o1 o2 o3:Oper} {σ:St} {k:St->Option R}:a6D c o1 o2 o3 σ k=(a6D c o1 o2 o3 σ some).bind k:=by
 unfold a6D a0p
 repeat' split
 all_goals first
   | rfl
   | (dsimp only
      repeat' split
      all_goals rfl)
theorem b4u {c:Ctx} {all l:List Oper} {σ:St} {k k':St->Option R} (hk:Le k k') {r:R} (h:b2X c all l σ k=some r):b2X c all l σ k'=some r:=by
 unfold b2X at h ⊢;split at h
 . split at h
   . rw[b0N]at h ⊢;obtain⟨σ',h1,h2⟩:=Option.bind_eq_some_iff.1 h;rw[h1];exact hk _ _ h2
   . exact a6Z hk _ _ h
 . exact a6Z hk _ _ h
theorem a7o {g:Cfg} {ops:Array Oper} {draw:Bool} {σ:St} {k k':St->Option R} (hk:Le k k') {r:R} (h:a4V g ops draw σ k=some r):a4V g ops draw σ k'=some r:=by
 unfold a4V at h ⊢;split at h
 . cases h
 cases draw with
 | false=>exact opsU_le hk _ _ h
 | true =>
   simp only[b4B]at h ⊢;split at h
   . split at h
     . unfold drawY at h ⊢;refine b4S (fun σ' r' h'=>?_) _ _ h;have h1:=a3S h';refine a8B (fun e=>?_) fun a ha=>?_
       . rw[z2]at e;rw[e]at h';cases h'
       . obtain⟨U,hU,rfl⟩:=zx.1 ha;have h2:=h1 _ (zx.2 ⟨U,hU,rfl⟩);unfold midK at h2 ⊢;cases U with
         | nil=>exact a8o hk _ _ _ h2
         | cons u us =>
           simp only[]at h2 ⊢;split at h2
           . exact a6Z (fun σ2 r2 h3=>a8o hk _ _ _ h3) _ _ h2
           . cases h2
     split at h
     . cases h
     . exact b1Q (fun σ' r' h'=>a8o hk _ _ _ h') _ _ _ _ h
   . exact b1Q (fun σ' r' h'=>b4u hk h') _ _ _ _ h
def Le2 {A B:Type} (f h:A->B->Option R):Prop:=∀ x y r,f x y=some r->h x y=some r
theorem a7y {g:Cfg} {fin:St->Option R} {O O':List Item->St->Option R} (hO:Le2 O O'):∀ (s:Nat) (t:List Item) (σ:St) (r:R),a1P g fin O s t σ=some r->a1P g fin O' s t σ=some r:=by
 intro s;induction s with
 | zero=>intro t σ r h;cases h
 | succ s ih =>
   intro t σ r h;cases t with
   | nil=>exact h
   | cons x t =>
     cases x with
     | code c =>
       cases c with
       | skip=>exact ih _ _ _ h
       | label l=>exact ih _ _ _ h
       | region id ops draw =>
         simp only[a1P]at h ⊢;cases hc:hasN g.cuts id with
         | true=>rw[hc]at h;exact hO _ _ _ h
         | false=>rw[hc]at h;exact a7o (fun σ' r' h'=>ih _ _ _ h') h
       | seq a b=>exact ih _ _ _ h
       | cond b x y =>
         simp only[a1P]at h ⊢;split at h
         . rename_i v hv;cases v with
           | true=>exact ih _ _ _ h
           | false=>exact ih _ _ _ h
         . cases h
       | block id b=>exact ih _ _ _ h
       | loop b=>exact hO _ _ _ h
       | exit id =>
         simp only[a1P]at h ⊢;split at h
         . exact ih _ _ _ h
         . cases h
       | ret=>exact h
       | _=>cases h
     | inBlock id=>exact ih _ _ _ h
     | inLoop c=>exact hO _ _ _ h
     | _=>cases h
theorem b0z {g:Cfg} {fin:St->Option R}:∀ k,Le2 (runT g fin k) (runT g fin (k+1)):=by
 intro k;induction k with
 | zero=>intro t σ r h;cases h
 | succ k ih =>
   intro t σ r h
   match t,h with
   | .inLoop c::t,h=>exact a7y ih _ _ _ _ h
   | .code (.region id ops draw)::t,h=>exact a7o (fun σ' r' h'=>a7y ih _ _ _ _ h') h
theorem runT_le {g:Cfg} {fin:St->Option R} {k k':Nat} (h:k≤k'):Le2 (runT g fin k) (runT g fin k'):=by
 induction h with
 | refl=>intro t σ r h;exact h
 | step _ ih=>intro t σ r h;exact b0z _ _ _ _ (ih _ _ _ h)
end Go.Vm
end
section
namespace Go.Vm
variable {P:Program} {R:Type}
theorem a9p (rs:List (Nat×Root)):∀ (l:List Nat) (q:Nat),rget (a5b rs l) q=if q∈l then rget rs q else none:=by
 intro l;induction l with
 | nil=>intro q;simp[a5b,rget]
 | cons r l ih =>
   intro q;simp only[a5b];cases hr:rget rs r with
   | none =>
     simp only[ih,zj];by_cases hq:q=r
     . subst hq;simp[hr]
     . simp[hq]
   | some x =>
     simp only[rget];cases hd:zH r q with
     | isTrue h=>subst h;simp[hr]
     | isFalse h=>simp only[ih,zj,Ne.symm h,false_or]
mutual
theorem a4a {rs rs':List (Nat×Root)} {G:Nat->RG} {w:World} {l:List Nat} (hrs:∀ q,q∈l->rget rs' q=rget rs q) :
   ∀ (t:TV) (v:Value) (S A:List Nat),t.within l=true->TRep P rs G w t v S A->TRep P rs' G w t v S A
 | .dead,_,_,_,_,h=>h
 | .val agg cs,v,S,A,_,h=>h
 | .rptr s cs,v,S,A,_,h=>h
 | .ref q p,v,S,A,hu,h=>by
   obtain⟨rfl,rfl,x,ad,us,hx,hp,hl,rfl⟩:=h;exact⟨rfl,rfl,x,ad,us,by rw[hrs q (a0Q hu)];exact hx,hp,hl,rfl⟩
 | .view q p n agg,v,S,A,hu,h=>by
   obtain⟨rfl,rfl,x,ad,us,hx,hp,hl,h1,h2⟩:=h;exact⟨rfl,rfl,x,ad,us,by rw[hrs q (a0Q hu)];exact hx,hp,hl,h1,h2⟩
 | .fn f caps,v,S,A,hu,h=>by
   obtain⟨vs,rfl,h⟩:=h;exact⟨vs,rfl,a3h hrs caps vs S A (by simpa[TV.within]using hu) h⟩
 | .fnx s g,v,S,A,_,h=>h
 | .tup k ts,v,S,A,hu,h=>by
   obtain⟨vs,hv,h⟩:=h;exact⟨vs,hv,a3h hrs ts vs S A (by simpa[TV.within]using hu) h⟩
 | .pfn t,v,S,A,hu,h=>by
   obtain⟨ad,u,S0,rfl,hc,hlt,h,rfl⟩:=h;exact⟨ad,u,S0,rfl,hc,hlt,a4a hrs t u S0 A (by simpa[TV.within]using hu) h,rfl⟩
theorem a3h {rs rs':List (Nat×Root)} {G:Nat->RG} {w:World} {l:List Nat} (hrs:∀ q,q∈l->rget rs' q=rget rs q) :
   ∀ (ts:List TV) (vs:List Value) (S A:List Nat),TV.withinL l ts=true->a1A P rs G w ts vs S A->a1A P rs' G w ts vs S A
 | [],_,_,_,_,h=>h
 | t::ts,vs,S,A,hu,h=>by
   obtain⟨v,vs',S1,S2,A1,A2,rfl,rfl,rfl,h1,h2⟩:=h;simp only[TV.withinL,zb]at hu;exact⟨v,vs',S1,S2,A1,A2,rfl,rfl,rfl,a4a hrs t v S1 A1 hu.1 h1,a3h hrs ts vs' S2 A2 hu.2 h2⟩
end
theorem b2q (lt lr:List Nat):∀ (ts:List TV) (n i:Nat) (t':TV),(a5X lt lr n ts)[i]? = some t'->t' = .dead∨(ts[i]? = some t'/\t'.within lr=true):=by
 intro ts;induction ts with
 | nil=>intro n i t' h;simp[a5X]at h
 | cons t ts ih =>
   intro n i t' h;cases i with
   | zero =>
     simp only[a5X,zy,zm]at h;cases hb:(hasN lt n&&t.within lr)with
     | true =>
       rw[hb]at h;subst h;simp only[zb]at hb;exact .inr ⟨rfl,hb.2⟩
     | false=>rw[hb]at h;exact .inl h.symm
   | succ i =>
     simp only[a5X,zF]at h ⊢;exact ih _ _ _ h
theorem a8O (lt lr:List Nat):∀ (ts:List TV) (n:Nat),(a5X lt lr n ts).length=ts.length:=by
 intro ts;induction ts with
 | nil=>intro n;rfl
 | cons t ts ih=>intro n;simp[a5X,ih]
theorem a6H {E:Env} {σ:St} {a:Act} {w:World} {G:Nat->RG} (h:Rel P E σ a w G) (l:List Nat×List Nat):Rel P E (b4w l σ) a w G:=by
 have hrs:∀ q,q∈l.2->rget (a5b σ.rs l.2) q=rget σ.rs q:=fun q hq=>by rw[a9p,if_pos hq]
 refine⟨h.defers,?_,a6z h.r fun q x hx=>?_⟩
 . refine a1q h.temps (by rw[b4w];exact a8O _ _ _ _) fun i t' ht'=>?_;rcases b2q _ _ _ _ _ _ ht' with rfl|⟨h1,h2⟩
   . exact .inl rfl
   . exact .inr ⟨t',h1,fun v S A hS hf=>⟨a4a hrs t' v S A h2 hS,hf⟩⟩
 . have hx:rget (a5b σ.rs l.2) q=some x:=hx;rw[a9p]at hx;split at hx
   . exact hx
   . cases hx
theorem a4i {E:Env} {σ:St} {a:Act} {w:World} {G:Nat->RG} (h:Rel P E σ a w G) (g:Cfg) (c:Code):∃ G',Rel P E (a8D g c σ) a w G':=by
 unfold a8D;split
 . obtain⟨G',h'⟩:=a5D _ σ G h;exact⟨G',a6H h' _⟩
 . exact⟨G,h⟩
theorem Oper.wp_put {o:Oper} {a:Act} {w:World} {K:Act->World->Prop} {Q:Exit->Act->World->Prop} (h:o.wp P a w K Q):o.wp P a w (fun a' w'=>K a' w'/\∃ v ds,a'.tmps=(({ a with defers:=ds }:Act).put o.dst v).tmps) Q:=by
 unfold Oper.wp at *;generalize (execOp a.eval o).run P w=r at *;have e:∀ v,(a.put o.dst v).tmps=(({ a with defers:=a.defers }:Act).put o.dst v).tmps:=fun v=>rfl;cases r with
 | ok n w' =>
   cases n<;>simp only[Oper.upon]at h ⊢
   case value v=>exact⟨h,v,a.defers,rfl⟩
   case skip=>exact⟨h,undef,a.defers,rfl⟩
   case defer d=>exact⟨h,undef,d::a.defers,rfl⟩
   case enter f args=>exact Calls.mono h (fun e w'' he=>by cases e<;>first|exact⟨he,_,a.defers,rfl⟩|exact he)
   case row row args=>exact Rows.mono h (fun v w'' he=>⟨he,v,a.defers,rfl⟩)
 | halt x w'=>cases x<;>simp only[Oper.upon]at h ⊢<;>exact h
def Keep (kv:List (Nat×Value)) (a:Act):Prop:=∀ p∈kv,a.tmps[p.1]? = some p.2
theorem a3k {kv:List (Nat×Value)} {a a':Act} (h:Keep kv a) {d:Option Tmp} {v:Value} {ds:List Deferred} (ha:a'.tmps=(({ a with defers:=ds }:Act).put d v).tmps) (hd:∀ e,d=some e->e∉kv.map (·.1)):Keep kv a':=by
 intro p hp;rw[ha,b4a];cases d with
 | none=>exact h p hp
 | some e =>
   have hne:e≠p.1:=fun he=>hd e rfl (he▸zx.2 ⟨p,hp,rfl⟩);simp only[];rw[Array.getElem?_setIfInBounds_ne hne];exact h p hp
def a2s (P:Program) (E:Env) (kv:List (Nat×Value)) (k:St->Option R) (r:R) (e:Exit) (a:Act) (w:World):Prop:=e = .normal/\Keep kv a/\∃ σ G,Rel P E σ a w G/\k σ=some r
theorem a1Y {kp:List Nat}:∀ {l:List Oper},a1N kp l=true->∀ o∈l,∀ d,o.dst=some d->d∉kp:=by
 intro l;induction l with
 | nil=>intro _ o ho;cases ho
 | cons x l ih =>
   intro h o ho d hd;simp only[a1N,zb]at h;simp only[zj]at ho;rcases ho with rfl|ho
   . rw[hd]at h;exact a3r (by simpa using h.1)
   . exact ih h.2 o ho d hd
theorem vB_of {σ:St} {t:Nat} {b:Bool} (h:asBool (nth σ.ts t .dead)=some b):nth σ.ts t .dead=vB b/\t<σ.ts.length:=by
 rw[a0m]at h ⊢;cases ht:σ.ts[t]? with
 | none=>rw[ht]at h;cases h
 | some tv =>
   rw[ht]at h;have hl:t<σ.ts.length:=by
     rcases zv t σ.ts.length with h|h
     . exact h
     . rw[zC h]at ht;cases ht
   refine⟨?_,hl⟩;simp only[zp]at h ⊢;unfold asBool at h;split at h
   . obtain rfl:=za h;rfl
   . cases h
theorem b1e {l:List TV} {i:Nat} {x:TV} (h:nth l i .dead=x) (hl:i<l.length):upd l i x=l:=by
 rw[a5h];rw[a0m,zo hl]at h;simp only[zp]at h;rw[<-h];exact List.set_getElem_self hl
theorem b1d (rs:List (Nat×Root)) (G:Nat->RG) (w:World):TRep P rs G w und undef [] []:=⟨[],rfl,rfl,rfl,rfl⟩
theorem und_get {E:Env} {σ:St} {a:Act} {w:World} {G:Nat->RG} (h:Rel P E σ a w G) {t:Nat} (hu:b0a (nth σ.ts t .dead)=true):a.tmps[t]? = some undef:=by
 rw[a0m]at hu;cases ht:σ.ts[t]? with
 | none=>rw[ht]at hu;cases hu
 | some tv =>
   rw[ht]at hu;simp only[zp]at hu;obtain⟨v,S,A,hv,hr,-⟩:=h.temps.2 t tv ht;unfold b0a at hu;split at hu
   . obtain⟨vs,rfl,h1,-⟩:=hr;subst h1;exact hv
   . cases hu
theorem b0D {E:Env} {σ:St} {a:Act} {w:World} {G:Nat->RG} (h:Rel P E σ a w G) {t:Nat} (hu:b0a (nth σ.ts t .dead)=true):(match (some t).bind (a.tmps[·]?)with
   | some (.bool b)=>some b
   | _=>none)=none:=by
 simp only[zK,und_get h hu];rfl
theorem b3M {E:Env} {c:Ctx} (hctx:CtxOK P c) {ops:Array Oper} {K:St->Option R} {r:R} {X:Exit->Act->World->Prop} {kv:List (Nat×Value)} (hkp:a1N (kv.map (·.1)) ops.toList=true) (o:Oper) (i:Nat) (is:List Nat) (σ:St) (a:Act) (w:World) (G:Nat->RG) (hi:ops[i]? = some o)
   (h:opsK c ops.toList [o] σ K=some r) (hrel:Rel P E σ a w G) (hkeep:Keep kv a) (hK:∀ σ' a' w' G',K σ'=some r->Rel P E σ' a' w' G'->Keep kv a'->wpOps P ops X is a' w'):wpOps P ops X (i::is) a w:=by
 have hmem:o∈ops.toList:=by
   have:=zw hi;simpa using this
 have hd:=a1Y hkp o hmem;have run:∀ σ',Rel P E σ' a w G->(a0C c o σ' K)=some r->o.wp P a w (wpOps P ops X is) X:=by
   intro σ' hrel' h;refine Oper.wp_mono (fun a' w' h'=>?_) (Oper.wp_put (a8x hctx hrel' h X));obtain⟨⟨σ2,G2,h1,h2⟩,v,ds,h3⟩:=h';exact hK σ2 a' w' G2 h2 h1 (a3k hkeep h3 hd)
 simp only[opsK]at h;simp only[wpOps,hi];cases hg:o.guard with
 | none =>
   rw[hg]at h;have hw:Region.wanted o (yielded ops a.tmps)=true:=by simp[Region.wanted,hg]
   rw[if_pos hw];exact .inl (run σ hrel h)
 | some gw =>
   obtain⟨j,want⟩:=gw;rw[hg]at h;simp only[]at h;split at h
   . cases h
   rename_i t ht;have hdst:(ops[j]?).bind (·.dst)=some t:=by
     rw[a0m,zE]at ht;cases hoj:ops[j]? with
     | none=>simp[hoj]at ht
     | some oj=>simpa[hoj]using ht
   have skip:∀ σ',Rel P E σ' a w G->K (σ'.put o.dst und)=some r->wpOps P ops X is (a.put o.dst undef) w:=by
     intro σ' hrel' h';exact hK _ _ w G h' (a0A hrel' o.dst (t:=und) (b1d _ _ _) (Fine2.nil _ _)) (a3k hkeep (ds:=a.defers) rfl hd)
   split at h
   . rename_i hu;have hyield:yielded ops a.tmps j=none:=by
       unfold yielded;rw[hdst];exact b0D hrel hu
     have hwanted:Region.wanted o (yielded ops a.tmps)=false:=by
       simp only[Region.wanted,hg,hyield];rfl
     rw[hwanted];exact skip σ hrel h
   split at h
   . cases h
   rename_i b hb;obtain⟨htv,htl⟩:=vB_of hb;have hself:=b1e htv htl;obtain⟨v,S,A,hv,hr,hf⟩:=hrel.temps.2 t (vB b) (by rw[a0m,zo htl]at htv;rw[zo htl];simpa using htv);have hvb:=a2M hr rfl;subst hvb;have hyield:yielded ops a.tmps j=some b:=by
     unfold yielded;rw[hdst];simp[hv]
   have hwanted:Region.wanted o (yielded ops a.tmps)=(b==want):=by
     simp only[Region.wanted,hg,hyield];cases b<;>cases want<;>rfl
   cases b with
   | true =>
     simp only[if_true]at h;rw[hself]at h;cases want with
     | true=>rw[hwanted];exact .inl (run σ hrel h)
     | false=>rw[hwanted];exact skip σ hrel h
   | false =>
     simp only[zi,if_false]at h;rw[hself]at h;cases want with
     | false=>rw[hwanted];exact .inl (run σ hrel h)
     | true=>rw[hwanted];exact skip σ hrel h
theorem b3b (w:World) (d:Nat) (t e:TypeId) (a:Option Addr) (l c:Nat) (h:P.underlying t=some (.slice e)):(Op.equalIn (d+1) t (.slice a l c) (.slice none 0 0)).run P w = .ok a.isNone w:=by
 cases a<;>simp[Op.equalIn,run_underlying h]
theorem b0w (w:World) (t e:TypeId) (a:Option Addr) (l c:Nat) (h:P.underlying t=some (.slice e)):(Op.equal t (.slice a l c) (.slice none 0 0)).run P w = .ok a.isNone w:=b3b w 9999 t e a l c h
theorem b4m (w:World) (t e:TypeId) (a:Option Addr) (l c:Nat) (h:P.underlying t=some (.slice e)):(binOp .eql t (.slice a l c) (.slice none 0 0)).run P w = .ok (.bool a.isNone) w:=by
 simp only[binOp];simp[b0w w t e a l c h]
theorem b4n (w:World) (t e:TypeId) (a:Option Addr) (l c:Nat) (h:P.underlying t=some (.slice e)):(binOp .neq t (.slice a l c) (.slice none 0 0)).run P w = .ok (.bool (!a.isNone)) w:=by
 simp only[binOp];simp[b0w w t e a l c h]
theorem b3J {E:Env} {c:Ctx} (ht:TabOK P c.tab) {o:Oper} {σ:St} {a:Act} {w:World} {G:Nat->RG} {p:Bool×Nat} (h:Rel P E σ a w G) (hn:b0f c o σ=some p) :
   o.guard=none/\∃ b:Bool,(execOp a.eval o).run P w = .ok (.value (.bool b)) w/\(0<p.2->b=!p.1):=by
 have val:∀ (x:Operand) (n:Nat),lenOf σ (a0x σ x)=some n->∃ A cc,a.eval x = .slice A n cc/\(0<n->A≠none):=by
   intro x n hl;obtain⟨S1,A1,hx,hf⟩:=a0q h x;unfold lenOf at hl;split at hl
   . rename_i t0 m xs he;obtain rfl:=za hl;rw[he]at hx;obtain⟨rfl,vs,hr,hs⟩:=hx;obtain⟨u,us,F1,F2,T1,T2,rfl,hF,rfl,hc,h2⟩:=a0T hr;obtain⟨rfl,-,-⟩:=h2;simp only[a0E,zi,if_false,zY,and_true]at hs;subst hs;obtain⟨A,cc,us',Fe,Se,hv,-,-,hne,-⟩:=a4v (t:=t0) (m:=m) (xs:=xs) hc;exact⟨A,cc,hv,fun h0=>hne (by omega)⟩
   . rename_i q p he;split at hl
     . cases hl
     rename_i root hroot;split at hl
     . rename_i t0 m xs rest hg;obtain rfl:=za hl;rw[he]at hx;obtain⟨rfl,rfl,y,ad0,us,hy,hp,hlc,hn1,hs⟩:=hx;rw[hy]at hroot;obtain rfl:=za hroot;obtain⟨F,S,hrep,-⟩:=a1H (h.r.roots q y hy) (h.r.nodup q) hp hlc;rw[hg]at hrep;obtain⟨u,us',F1,F2,T1,T2,rfl,-,-,hc,-⟩:=a0T hrep;simp only[a0E,zi,if_false,List.take_succ_cons,List.take_zero,zY,and_true]at hs;obtain⟨A,cc,us',Fe,Se,hv,-,-,hne,-⟩:=a4v (t:=t0) (m:=m) (xs:=xs) hc;exact⟨A,cc,hs▸hv,fun h0=>hne (by omega)⟩
     . cases hl
   . cases hl
 have nil:∀ y,nilO y=true->a.eval y = .slice none 0 0:=by
   intro y hy;rw[a4Q hy];rfl
 unfold b0f at hn;split at hn
 . rename_i T x y T' ho hg;split at hn
   . rename_i t e fs n hy hT hl;obtain rfl:=za hn;obtain⟨hu,-⟩:=ht.slice T _ e fs hT;obtain⟨A,cc,hv,hA⟩:=val x _ hl;refine⟨hg,A.isNone,?_,fun h0=>?_⟩
     . simp only[execOp,ho,hv,nil y hy,Sem.run_bind];simp[eqGuard,b4m w T e A _ cc hu]
     . have:=hA h0;cases A with
       | none=>exact absurd rfl this
       | some ad=>rfl
   . cases hn
 . rename_i T x y T' ho hg;split at hn
   . rename_i t e fs n hy hT hl;obtain rfl:=za hn;obtain⟨hu,-⟩:=ht.slice T _ e fs hT;obtain⟨A,cc,hv,hA⟩:=val x _ hl;refine⟨hg,!A.isNone,?_,fun h0=>?_⟩
     . simp only[execOp,ho,hv,nil y hy,Sem.run_bind];simp[eqGuard,b4n w T e A _ cc hu]
     . have:=hA h0;cases A with
       | none=>exact absurd rfl this
       | some ad=>rfl
   . cases hn
 . cases hn
theorem b2F {E:Env} {c:Ctx} (hctx:CtxOK P c) {ops:Array Oper} {k:St->Option R} {r:R} {kv:List (Nat×Value)} (hkp:a1N (kv.map (·.1)) ops.toList=true):∀ (l:List Oper) (is:List Nat) (σ:St) (a:Act) (w:World) (G:Nat->RG),is.map (ops[·]?)=l.map some →
   opsU c ops.toList l σ k=some r->Rel P E σ a w G->Keep kv a->wpOps P ops (a2s P E kv k r) is a w:=by
 intro l;induction l with
 | nil =>
   intro is σ a w G his h hrel hkeep;have:is=[]:=by simpa using his
   subst this;exact⟨rfl,hkeep,σ,G,hrel,h⟩
 | cons o l ih =>
   intro is σ a w G his h hrel hkeep;cases is with
   | nil=>simp at his
   | cons i is =>
     simp only[zN,zY]at his;obtain⟨hi,his⟩:=his;simp only[opsU]at h;split at h
     . rename_i p hp;obtain⟨hg,b,hrun,hb⟩:=b3J hctx.tab hrel hp;have hmem:o∈ops.toList:=by
         have:=zw hi;simpa using this
       have hd:=a1Y hkp o hmem;have hk:opsU c ops.toList l (σ.put o.dst (vB b)) k=some r:=by
         split at h
         . rename_i h0;rw[hb h0];exact h
         . obtain⟨h1,h2⟩:=a6E h;cases b
           . exact h2
           . exact h1
       have hgood:Good P E o a w (fun σ'=>opsU c ops.toList l σ' k) r:=a0v hrun (a0A hrel o.dst (a2N _ _ _ _) (Fine2.nil _ _)) hk;simp only[wpOps,hi];have hw:Region.wanted o (yielded ops a.tmps)=true:=by simp[Region.wanted,hg]
       rw[if_pos hw];refine .inl (Oper.wp_mono (fun a' w' h'=>?_) (Oper.wp_put (hgood (a2s P E kv k r))));obtain⟨⟨σ2,G2,h1,h2⟩,v,ds,h3⟩:=h';exact ih is σ2 a' w' G2 his h2 h1 (a3k hkeep h3 hd)
     . exact b3M hctx hkp o i is σ a w G hi h hrel hkeep fun σ' a' w' G' h1 h2 h3=>ih is σ' a' w' G' his h1 h2 h3
end Go.Vm
end
section
namespace Go.Vm
variable {P:Program} {R:Type}
structure Ent where
 w:Bool
 N:List (Nat×Root)
 t:TV
 M:List Nat
def a2d (all:List Oper) (σ:St) (o:Oper):Option Bool:=match o.guard with
 | none=>some true
 | some (j,want)=>match (nth (all.map some) j none).bind (·.dst)with
   | none=>none
   | some t=>match b0a (nth σ.ts t .dead)with
     | true=>some false
     | false=>match asBool (nth σ.ts t .dead)with
       | none=>none
       | some b=>some (b==want)
def b2d (c:Ctx) (all:List Oper) (i:Nat) (mvd:List Nat) (o:Oper) (σ:St) (e:Ent):Prop :=
 a2d all σ o=some e.w/\freeO all mvd σ o=true/\(e.w=true/\LocM c o σ e.M e.N e.t/\(∀ r∈e.M,sepB all i e.M σ=true)∨e.w=false/\e.N=[]/\e.M=[]/\e.t=und)
def next (o:Oper) (e:Ent) (σ:St):St:=(a2w e.N σ).put o.dst e.t
inductive TextRun (c:Ctx) (all:List Oper):List Oper->Nat->List Nat->St->List Ent->List St->Prop
 | nil (i:Nat) (mvd:List Nat) (σ:St):TextRun c all [] i mvd σ [] [σ]
 | cons {o:Oper} {l:List Oper} {i:Nat} {mvd:List Nat} {σ:St} {e:Ent} {es:List Ent} {ss:List St} (h:b2d c all i mvd o σ e) (k:TextRun c all l (i+1) (e.M++mvd) (next o e σ) es ss):TextRun c all (o::l) i mvd σ (e::es) (σ::ss)
theorem a1b {σ:St} {t:Nat} {b:Bool} (h:asBool (nth σ.ts t .dead)=some b):(⟨upd σ.ts t (vB b),σ.rs⟩:St)=σ:=by
 obtain⟨h1,h2⟩:=vB_of h;rw[b1e h1 h2]
theorem a6a {c:Ctx} {all:List Oper} {k:St->Option R} {r:R}:∀ (l:List Oper) (i:Nat) (mvd:List Nat) (σ:St),(∀ o∈l,∃ d,o.dst=some d)->a4B c all l i mvd σ k=some r →
   ∃ es ss σn mvn,TextRun c all l i mvd σ es ss/\ss.getLast? = some σn/\k (a0G mvn σn)=some r/\∀ q,q∈mvn↔q∈mvd∨∃ (j:Nat) (e:Ent),es[j]? = some e/\q∈e.M:=by
 intro l;induction l with
 | nil=>intro i mvd σ _ h;exact⟨[],[σ],σ,mvd,.nil i mvd σ,rfl,h,fun q=>by simp⟩
 | cons o l ih =>
   intro i mvd σ hd h;have hdl:∀ o∈l,∃ d,o.dst=some d:=fun o ho=>hd o (by simp[ho]);have fin:∀ (e:Ent),b2d c all i mvd o σ e->a4B c all l (i+1) (e.M++mvd) (next o e σ) k=some r →
       ∃ es ss σn mvn,TextRun c all (o::l) i mvd σ es ss/\ss.getLast? = some σn/\k (a0G mvn σn)=some r/\∀ q,q∈mvn↔q∈mvd∨∃ (j:Nat) (e:Ent),es[j]? = some e/\q∈e.M:=by
     intro e he h;obtain⟨es,ss,σn,mvn,h1,h2,h3,h4⟩:=ih _ _ _ hdl h;refine⟨e::es,σ::ss,σn,mvn,.cons he h1,?_,h3,fun q=>?_⟩
     . cases ss with
       | nil=>cases h2
       | cons s ss=>rw[zX];exact h2
     . rw[h4,zG];constructor
       . rintro((h5|h5)|⟨j,e',h5,h6⟩)
         . exact .inr ⟨0,e,rfl,h5⟩
         . exact .inl h5
         . exact .inr ⟨j+1,e',by simpa using h5,h6⟩
       . rintro(h5|⟨j,e',h5,h6⟩)
         . exact .inl (.inr h5)
         . cases j with
           | zero =>
             simp only[zy,zm]at h5;subst h5;exact .inl (.inl h6)
           | succ j=>exact .inr ⟨j,e',by simpa using h5,h6⟩
   simp only[a4B]at h;split at h
   . cases h
   rename_i hfree;have run:a2d all σ o=some true->(a5f c all i mvd o σ fun mvd' σ'=>a4B c all l (i+1) mvd' σ' k)=some r →
       ∃ es ss σn mvn,TextRun c all (o::l) i mvd σ es ss/\ss.getLast? = some σn/\k (a0G mvn σn)=some r/\∀ q,q∈mvn↔q∈mvd∨∃ (j:Nat) (e:Ent),es[j]? = some e/\q∈e.M:=by
     intro hw h;unfold a5f at h;split at h
     . rename_i hreg;have h0:=h;rw[a4j]at h;cases hs:a0C c o σ some with
       | none=>rw[hs]at h;cases h
       | some σ1 =>
         obtain⟨N,t,hloc⟩:=b1L (hd o (by simp)) hreg hs;have:=hloc.step σ ⟨fun x _=>rfl,fun x _ r _=>rfl⟩ (fun σ'=>a4B c all l (i+1) mvd σ' k);rw[this]at h0;exact fin ⟨true,N,t,[]⟩ ⟨hw,hfree,.inl ⟨rfl,hloc.locM,by simp⟩⟩ h0
     . split at h
       . rename_i q hq;split at h
         . rename_i hsep;exact fin ⟨true,[q.2.1],q.2.2,q.1⟩ ⟨hw,hfree,.inl ⟨rfl,b4P hq,fun _ _=>hsep⟩⟩ h
         . cases h
       . cases h
   cases hg:o.guard with
   | none =>
     rw[hg]at h;exact run (by simp[a2d,hg]) h
   | some gw =>
     obtain⟨j,want⟩:=gw;rw[hg]at h;simp only[]at h;split at h
     . cases h
     rename_i t ht;split at h
     . rename_i hu;exact fin ⟨false,[],und,[]⟩ ⟨by simp only[a2d,hg,ht,hu],hfree,.inr ⟨rfl,rfl,rfl,rfl⟩⟩ h
     rename_i hu;split at h
     . cases h
     rename_i b hb;have hw:a2d all σ o=some (b==want):=by simp only[a2d,hg,ht,hb,hu]
     cases b with
     | true =>
       simp only[if_true]at h;rw[a1b hb]at h;cases want with
       | true=>exact run hw h
       | false=>exact fin ⟨false,[],und,[]⟩ ⟨hw,hfree,.inr ⟨rfl,rfl,rfl,rfl⟩⟩ h
     | false =>
       simp only[zi,if_false]at h;rw[a1b hb]at h;cases want with
       | false=>exact run hw h
       | true=>exact fin ⟨false,[],und,[]⟩ ⟨hw,hfree,.inr ⟨rfl,rfl,rfl,rfl⟩⟩ h
theorem b3N {c:Ctx} {all:List Oper} {k:St->Option R} {r:R}:∀ (l:List Oper) (i:Nat) (σ:St),(∀ o∈l,∃ d,o.dst=some d)->a4R c all l σ k=some r →
   ∃ es ss σn,TextRun c all l i [] σ es ss/\ss.getLast? = some σn/\k σn=some r/\∀ e∈es,e.M=[]:=by
 intro l;induction l with
 | nil=>intro i σ _ h;exact⟨[],[σ],σ,.nil i [] σ,rfl,h,fun e he=>by cases he⟩
 | cons o l ih =>
   intro i σ hd h;have hdl:∀ o∈l,∃ d,o.dst=some d:=fun o ho=>hd o (by simp[ho]);have fin:∀ (e:Ent),e.M=[]->b2d c all i [] o σ e->a4R c all l (next o e σ) k=some r →
       ∃ es ss σn,TextRun c all (o::l) i [] σ es ss/\ss.getLast? = some σn/\k σn=some r/\∀ e∈es,e.M=[]:=by
     intro e hM he h;obtain⟨es,ss,σn,h1,h2,h3,h4⟩:=ih (i+1) _ hdl h;refine⟨e::es,σ::ss,σn,.cons he (by rw[hM];exact h1),?_,h3,fun e' he'=>?_⟩
     . cases ss with
       | nil=>cases h2
       | cons s ss=>rw[zX];exact h2
     . rcases zj.1 he' with rfl|he'
       . exact hM
       . exact h4 e' he'
   simp only[a4R]at h;have run:a2d all σ o=some true->(a5g c o σ fun σ'=>a4R c all l σ' k)=some r →
       ∃ es ss σn,TextRun c all (o::l) i [] σ es ss/\ss.getLast? = some σn/\k σn=some r/\∀ e∈es,e.M=[]:=by
     intro hw h;unfold a5g at h;split at h
     . rename_i hreg;have h0:=h;rw[a4j]at h;cases hs:a0C c o σ some with
       | none=>rw[hs]at h;cases h
       | some σ1 =>
         obtain⟨N,t,hloc⟩:=b1L (hd o (by simp)) hreg hs;have:=hloc.step σ ⟨fun x _=>rfl,fun x _ r _=>rfl⟩ (fun σ'=>a4R c all l σ' k);rw[this]at h0;exact fin ⟨true,N,t,[]⟩ rfl ⟨hw,rfl,.inl ⟨rfl,hloc.locM,by simp⟩⟩ h0
     . cases h
   cases hg:o.guard with
   | none =>
     rw[hg]at h;exact run (by simp[a2d,hg]) h
   | some gw =>
     obtain⟨j,want⟩:=gw;rw[hg]at h;simp only[]at h;split at h
     . cases h
     rename_i t ht;split at h
     . rename_i hu;exact fin ⟨false,[],und,[]⟩ rfl ⟨by simp only[a2d,hg,ht,hu],rfl,.inr ⟨rfl,rfl,rfl,rfl⟩⟩ h
     rename_i hu;split at h
     . cases h
     rename_i b hb;have hw:a2d all σ o=some (b==want):=by simp only[a2d,hg,ht,hb,hu]
     cases b with
     | true =>
       simp only[if_true]at h;rw[a1b hb]at h;cases want with
       | true=>exact run hw h
       | false=>exact fin ⟨false,[],und,[]⟩ rfl ⟨hw,rfl,.inr ⟨rfl,rfl,rfl,rfl⟩⟩ h
     | false =>
       simp only[zi,if_false]at h;rw[a1b hb]at h;cases want with
       | false=>exact run hw h
       | true=>exact fin ⟨false,[],und,[]⟩ rfl ⟨hw,rfl,.inr ⟨rfl,rfl,rfl,rfl⟩⟩ h
theorem TextRun.get {c:Ctx} {all:List Oper}:∀ {l:List Oper} {i0:Nat} {mv0:List Nat} {σ:St} {es:List Ent} {ss:List St},TextRun c all l i0 mv0 σ es ss->es.length=l.length/\ss.length=l.length+1/\ss[0]? = some σ ∧
   ∀ (i:Nat) (o:Oper),l[i]? = some o->∃ e s,es[i]? = some e/\ss[i]? = some s/\ss[i+1]? = some (next o e s)/\∃ mvd,b2d c all (i0+i) mvd o s e/\∀ q,q∈mvd↔q∈mv0∨∃ (j:Nat) (e':Ent),j<i/\es[j]? = some e'/\q∈e'.M:=by
 intro l i0 mv0 σ es ss h;induction h with
 | nil i mvd σ=>exact⟨rfl,rfl,rfl,fun i o h=>by simp at h⟩
 | @cons o l i1 mvd σ e es ss h k ih =>
   obtain⟨h1,h2,h3,h4⟩:=ih;refine⟨by simp[h1],by simp[h2],rfl,fun i o' ho=>?_⟩;cases i with
   | zero =>
     simp only[zy,zm]at ho;subst ho;exact⟨e,σ,rfl,rfl,by simpa using h3,mvd,h,fun q=>by simp⟩
   | succ i =>
     simp only[zF]at ho ⊢;obtain⟨e',s,g1,g2,g3,mvd',g4,g5⟩:=h4 i o' ho;refine⟨e',s,g1,g2,g3,mvd',by rw[show i1+(i+1)=i1+1+i by omega];exact g4,fun q=>?_⟩;rw[g5,zG];constructor
     . rintro((h5|h5)|⟨j,e2,h5,h6,h7⟩)
       . exact .inr ⟨0,e,by omega,rfl,h5⟩
       . exact .inl h5
       . exact .inr ⟨j+1,e2,by omega,by simpa using h6,h7⟩
     . rintro(h5|⟨j,e2,h5,h6,h7⟩)
       . exact .inl (.inr h5)
       . cases j with
         | zero =>
           simp only[zy,zm]at h6;subst h6;exact .inl (.inl h7)
         | succ j=>exact .inr ⟨j,e2,by omega,by simpa using h6,h7⟩
section
variable (ops:List Oper) (m:Nat) (es:List Ent) (σ0:St)
def valD (D:Nat->Bool) (τ:Nat):TV:=match a1j ops m τ with
 | some i=>if D i=true then(match es[i]? with
   | some e=>e.t
   | none => .dead)else nth σ0.ts τ .dead
 | none=>nth σ0.ts τ .dead
def a9r (D:Nat->Bool) (r:Nat):Option Root:=match a1j ops m (r/4)with
 | some i=>if D i=true then(match es[i]? with
   | some e=>(rget e.N r).or (rget σ0.rs r)
   | none=>rget σ0.rs r)else rget σ0.rs r
 | none=>rget σ0.rs r
structure Mid (D:Nat->Bool) (s:St):Prop where
 len:s.ts.length=σ0.ts.length
 ts:∀ τ,nth s.ts τ .dead=valD ops m es σ0 D τ
 rs:∀ r,rget s.rs r=a9r ops m es σ0 D r
end
theorem a0Z {ops:List Oper} {m τ i:Nat} (h:a1j ops m τ=some i):i<m/\∃ o,ops[i]? = some o/\o.dst=some τ:=by
 unfold a1j at h;have h1:=List.find?_some h;have h2:=List.mem_of_find?_eq_some h;refine⟨by simpa using h2,?_⟩
 try simp only[]at h1
 split at h1
 . rename_i o ho;split at h1
   . rename_i d hd;exact⟨o,ho,by rw[hd,zc h1]⟩
   . cases h1
 . cases h1
theorem a7w {ops:List Oper} {m n:Nat} (hok:OrdOK ops m n) {i:Nat} {o:Oper} {τ:Nat} (hi:i<m) (ho:ops[i]? = some o) (hd:o.dst=some τ):a1j ops m τ=some i:=by
 cases hw:a1j ops m τ with
 | none =>
   unfold a1j at hw;rw[List.find?_eq_none]at hw;have:=hw i (by simpa using hi);simp[ho,hd]at this
 | some j =>
   obtain⟨hj,oj,hoj,hdj⟩:=a0Z hw;rcases zW i j with h|h|h
   . exact absurd (hok.diff j i oj o τ hoj ho h hj hdj hd) id
   . rw[h]
   . exact absurd (hok.diff i j o oj τ ho hoj h hi hd hdj) id
theorem rget_ids {N:List (Nat×Root)} {r:Nat}:rget N r≠none↔r∈N.map (·.1):=by
 induction N with
 | nil=>simp[rget]
 | cons p N ih =>
   obtain⟨i,x⟩:=p;simp only[rget,zN,zj];cases hd:zH i r with
   | isTrue h=>simp[h]
   | isFalse h =>
     simp only[];rw[ih];constructor
     . exact .inr
     . rintro(e|e)
       . exact absurd e.symm h
       . exact e
theorem a4z {r:Nat}:∀ (N:List (Nat×Root)) (σ:St),(N.map (·.1)).Nodup->rget (a2w N σ).rs r=(rget N r).or (rget σ.rs r):=by
 intro N;induction N with
 | nil=>intro σ _;simp[a2w,rget]
 | cons p N ih =>
   intro σ hn;obtain⟨i,x⟩:=p;simp only[zN,List.nodup_cons]at hn;simp only[a2w,ih _ hn.2,St.new,a0j,rget];cases hd:zH i r with
   | isTrue h =>
     subst h;have:rget N i=none:=by
       cases hx:rget N i with
       | none=>rfl
       | some y=>exact absurd (rget_ids.1 (by rw[hx];simp)) hn.1
     simp[this]
   | isFalse h=>simp[Ne.symm h]
theorem b3q {r:Nat} {ts:List TV} (h:∀ t∈ts,t.uses r=false):kill r ts=ts:=by
 unfold kill
 conv=>rhs;rw[<-List.map_id ts]
 exact zT fun t ht=>by simp[h t ht]
theorem a8S:∀ (N:List (Nat×Root)) (σ:St),(∀ t∈σ.ts,∀ p∈N,t.uses p.1=false)->(a2w N σ).ts=σ.ts:=by
 intro N;induction N with
 | nil=>intro σ _;rfl
 | cons p N ih =>
   intro σ h;have hk:kill p.1 σ.ts=σ.ts:=b3q fun t ht=>h t ht p (by simp);simp only[a2w];rw[ih]
   . exact hk
   . intro t ht q hq;simp only[St.new]at ht;rw[hk]at ht;exact h t ht q (by simp[hq])
structure Walk (c:Ctx) (ops:List Oper) (m n:Nat) (σ0:St) (es:List Ent) (ss:List St):Prop where
 ok:OrdOK ops m n
 nlen:n=σ0.ts.length
 run:∀ i o,i<m->ops[i]? = some o->∃ e s,es[i]? = some e/\ss[i]? = some s/\ss[i+1]? = some (next o e s)/\∃ mvd,b2d c ops i mvd o s e/\∀ q,q∈mvd↔∃ (j:Nat) (e':Ent),j<i/\es[j]? = some e'/\q∈e'.M
 zero:ss[0]? = some σ0
 closed:∀ t∈σ0.ts,∀ r,t.uses r=true->rget σ0.rs r≠none
 fresh:∀ i o d,i<m->ops[i]? = some o->adds o=true->o.dst=some d->∀ q,q<4->rget σ0.rs (4*d+q)=none
 mle:m≤ops.length
 elen:∀ (k:Nat) (e:Ent),es[k]? = some e->k<m
theorem a6B {all:List Oper} {m n:Nat} (h:OrdOK all m n) {i a:Nat} (k:Anc all i a):a<i:=by
 induction k with
 | edge ho he hb=>exact h.early _ _ ho _ he hb
 | trans h1 h2 ih1 ih2=>omega
def a4C (ops:List Oper) (D:Nat->Bool):Prop:=∀ i a,D i=true->Anc ops i a->D a=true
def a1M (D:Nat->Bool) (i:Nat):Nat->Bool:=fun j=>D j||zs j i
def a4f (ops:List Oper) (m:Nat) (σ0:St) (es:List Ent) (j:Nat):Prop :=
 ∀ e,es[j]? = some e->∀ r,e.t.uses r=true->rget σ0.rs r≠none∨∃ j' e',(j'=j∨Anc ops j j')/\es[j']? = some e'/\r∈e'.N.map (·.1)
section
variable {c:Ctx} {ops:List Oper} {m n:Nat} {σ0:St} {es:List Ent} {ss:List St}
theorem Walk.oper (W:Walk c ops m n σ0 es ss) {i:Nat} (h:i<m):∃ o,ops[i]? = some o:=by
 have:=W.mle;exact⟨ops[i],by simp[show i<ops.length by omega]⟩
theorem Walk.ids (W:Walk c ops m n σ0 es ss) {i:Nat} {o:Oper} {e:Ent} (hi:i<m) (ho:ops[i]? = some o) (he:es[i]? = some e):(e.N.map (·.1)).Nodup/\∀ r∈e.N.map (·.1),rget σ0.rs r=none/\a1j ops m (r/4)=some i:=by
 obtain⟨e',s,h1,h2,h3,mvd,⟨h4,h4b,h5⟩,-⟩:=W.run i o hi ho;rw[he]at h1;obtain rfl:=za h1;rcases h5 with⟨hw,hl,_⟩|⟨_,hN,_⟩
 . refine⟨hl.nodup,fun r hr=>?_⟩;obtain⟨p,hp,rfl⟩:=zx.1 hr;obtain⟨ha,d,hd,hlo,hhi⟩:=hl.ids p hp;have hq:=W.fresh i o d hi ho ha hd (p.1-4*d) (by omega);have hlo2:4*d≤p.fst:=hlo;have hhi2:p.fst<4*d+4:=hhi;have hx:4*d+(p.1-4*d)=p.1:=Nat.add_sub_cancel' hlo2 |> fun h=>by rw[Nat.add_comm];exact Nat.sub_add_cancel hlo2
   rw[hx]at hq;have hdiv:p.1/4=d:=by
     apply Nat.div_eq_of_lt_le
     . rw[Nat.mul_comm];exact hlo2
     . rw[Nat.mul_comm];exact Nat.lt_of_lt_of_eq hhi2 (by rfl)
   exact⟨hq,by rw[hdiv];exact a7w W.ok hi ho hd⟩
 . rw[hN];exact⟨by simp,by simp⟩
theorem b0g {ts:List TV} {τ r:Nat} (h:(nth ts τ .dead).uses r=true):nth ts τ .dead∈ts:=by
 rw[a0m]at h ⊢;cases hx:ts[τ]? with
 | none=>rw[hx]at h;cases h
 | some t=>simp only[zp];exact z0 hx
theorem a5G (W:Walk c ops m n σ0 es ss) {D:Nat->Bool} (hU:∀ j,D j=true->j<m->a4f ops m σ0 es j) {τ r:Nat} (h:(valD ops m es σ0 D τ).uses r=true) :
   rget σ0.rs r≠none∨∃ j j' e',a1j ops m τ=some j/\D j=true/\(j'=j∨Anc ops j j')/\es[j']? = some e'/\r∈e'.N.map (·.1):=by
 unfold valD at h;have base:(nth σ0.ts τ .dead).uses r=true->rget σ0.rs r≠none:=fun h=>W.closed _ (b0g h) r h;split at h
 . rename_i i hi;split at h
   . rename_i hD;split at h
     . rename_i e he;rcases hU i hD (a0Z hi).1 e he r h with h1|⟨j',e',h1,h2,h3⟩
       . exact .inl h1
       . exact .inr ⟨i,j',e',hi,hD,h1,h2,h3⟩
     . cases h
   . exact .inl (base h)
 . exact .inl (base h)
theorem b5H (W:Walk c ops m n σ0 es ss) {D:Nat->Bool} (hc:a4C ops D) (hU:∀ j,D j=true->j<m->a4f ops m σ0 es j) {s:St} (hM:Mid ops m es σ0 D s) {i:Nat} {o:Oper} {e:Ent} (hi:i<m) (ho:ops[i]? = some o) (he:es[i]? = some e) (hD:D i=false) :
   ∀ t∈s.ts,∀ p∈e.N,t.uses p.1=false:=by
 obtain⟨hnd,hids⟩:=W.ids hi ho he;intro t ht p hp;cases hu:t.uses p.1 with
 | false=>rfl
 | true =>
   obtain⟨τ,hτ⟩:=zB.1 ht;have hv:valD ops m es σ0 D τ=t:=by rw[<-hM.ts,a0m,hτ];rfl
   have hr:=hids p.1 (zx.2 ⟨p,hp,rfl⟩);rcases a5G W hU (by rw[hv];exact hu)with h1|⟨j,j',e',hj,hDj,hjj,he',hr'⟩
   . exact absurd hr.1 h1
   . have hj'm:j'<m:=by
       rcases hjj with rfl|h
       . exact(a0Z hj).1
       . have:=a6B W.ok h;have:=(a0Z hj).1;omega
     obtain⟨o',ho'⟩:=W.oper hj'm;have h2:=((W.ids hj'm ho' he').2 _ hr').2;rw[hr.2]at h2;obtain rfl:=za h2;have hDi:D i=true:=by
       rcases hjj with rfl|h
       . exact hDj
       . exact hc j i hDj h
     rw[hD]at hDi;cases hDi
theorem b1N (W:Walk c ops m n σ0 es ss) {D:Nat->Bool} (hc:a4C ops D) (hU:∀ j,D j=true->j<m->a4f ops m σ0 es j) {s:St} (hM:Mid ops m es σ0 D s) {i:Nat} {o:Oper} {e:Ent} (hi:i<m) (ho:ops[i]? = some o) (he:es[i]? = some e) (hD:D i=false) :
   Mid ops m es σ0 (a1M D i) (next o e s):=by
 obtain⟨hnd,hids⟩:=W.ids hi ho he;obtain⟨d,hd,hdn⟩:=W.ok.dst i o ho hi;have hw:a1j ops m d=some i:=a7w W.ok hi ho hd;have hnk:=b5H W hc hU hM hi ho he hD;have hts:=a8S e.N s hnk;have hwD:∀ j,a1M D i j=true↔D j=true∨j=i:=by
   intro j;simp only[a1M,zf];exact or_congr Iff.rfl ⟨zc,fun h=>by subst h;exact zl _⟩
 refine⟨?_,fun τ=>?_,fun r=>?_⟩
 . simp only[next,hd,St.put,a5h,yd,hts];exact hM.len
 . simp only[next,hd,St.put,hts];rw[a0m,a5h,z6];by_cases hτ:d=τ
   . subst hτ;rw[if_pos rfl,if_pos (by rw[hM.len,<-W.nlen];exact hdn)];simp only[zp,valD,hw];rw[if_pos ((hwD i).2 (.inr rfl)),he]
   . rw[if_neg hτ,<-a0m,hM.ts];unfold valD;cases hwτ:a1j ops m τ with
     | none=>rfl
     | some j =>
       have hji:j≠i:=by
         rintro rfl;obtain⟨_,o2,h2,h3⟩:=a0Z hwτ;rw[ho]at h2;obtain rfl:=za h2;rw[hd]at h3;exact hτ (za h3)
       have:(a1M D i j=true)=(D j=true):=propext ((hwD j).trans ⟨fun h=>h.resolve_right hji,.inl⟩);simp only[this]
 . simp only[next,hd,St.put];rw[a4z _ _ hnd,hM.rs];unfold a9r;have hno:a1j ops m (r/4)≠some i->rget e.N r=none:=by
     intro h;cases hx:rget e.N r with
     | none=>rfl
     | some y=>exact absurd (hids r (rget_ids.1 (by rw[hx];simp))).2 h
   cases hwr:a1j ops m (r/4)with
   | none=>simp[hno (by rw[hwr];simp)]
   | some j =>
     by_cases hji:j=i
     . subst hji;simp only[hD,zi,if_false];rw[if_pos ((hwD j).2 (.inr rfl)),he]
     . have:(a1M D i j=true)=(D j=true):=propext ((hwD j).trans ⟨fun h=>h.resolve_right hji,.inl⟩);simp only[this,hno (by rw[hwr];simpa using hji),ye]
end
end Go.Vm
end
section
namespace Go.Vm
variable {P:Program} {R:Type}
section
variable {c:Ctx} {ops:List Oper} {m n:Nat} {σ0:St} {es:List Ent} {ss:List St}
theorem a0h {all:List Oper} {o:Oper} {τ:Nat} (h:Operand.tmp τ∈o.op.operands):τ∈a0b all o:=by
 unfold a0b;refine z1 _ (z3.2 ⟨.tmp τ,by simpa using h,rfl⟩)
theorem a3o {σ:St} {x:Operand} {r:Nat} (h:(a0x σ x).uses r=true):∃ τ,x = .tmp τ:=by
 cases x with
 | tmp τ=>exact⟨τ,rfl⟩
 | const v=>cases v<;>simp[a0x,b0i,TV.uses]at h
 | global g=>simp[a0x,TV.uses]at h
 | func f=>simp[a0x,TV.uses,TV.usesL]at h
theorem a4k (W:Walk c ops m n σ0 es ss) {i j τ:Nat} {o:Oper} (hi:i<m) (ho:ops[i]? = some o) (hl:τ∈a0b ops o) (hw:a1j ops m τ=some j):(j<i->Anc ops i j)/\(i<j->Anc ops j i):=by
 obtain⟨hj,oj,hoj,hdj⟩:=a0Z hw;exact⟨fun h=>W.ok.conf i j o oj ho hoj h hi (.inl ⟨τ,hdj,hl⟩),fun h=>W.ok.conf j i oj o hoj ho h hj (.inr ⟨τ,hdj,hl⟩)⟩
def upto (j:Nat):Nat->Bool:=fun i=>ze i j
theorem upto_iff {j i:Nat}:upto j i=true↔i<j:=⟨fun h=>zk h,fun h=>zu h⟩
theorem b0T (W:Walk c ops m n σ0 es ss) (j:Nat):a4C ops (upto j):=fun i a h k=>upto_iff.2 (Nat.lt_trans (a6B W.ok k) (upto_iff.1 h))
theorem a4u {D D':Nat->Bool} {s:St} (h:Mid ops m es σ0 D s) (hD:∀ i,i<m->D i=D' i):Mid ops m es σ0 D' s:=by
 refine⟨h.len,fun τ=>?_,fun r=>?_⟩
 . rw[h.ts];unfold valD;cases hw:a1j ops m τ with
   | none=>rfl
   | some i=>simp only[hD i (a0Z hw).1]
 . rw[h.rs];unfold a9r;cases hw:a1j ops m (r/4)with
   | none=>rfl
   | some i=>simp only[hD i (a0Z hw).1]
theorem a3A (W:Walk c ops m n σ0 es ss):∀ j,j≤m->(∃ s,ss[j]? = some s/\Mid ops m es σ0 (upto j) s)/\∀ i,i<j->a4f ops m σ0 es i:=by
 intro j;induction j with
 | zero =>
   intro _;refine⟨⟨σ0,W.zero,rfl,fun τ=>?_,fun r=>?_⟩,fun i hi=>by omega⟩
   . unfold valD;cases a1j ops m τ<;>simp[upto]
   . unfold a9r;cases a1j ops m (r/4)<;>simp[upto]
 | succ j ih =>
   intro hj;obtain⟨⟨s,hs,hM⟩,hU⟩:=ih (by omega);obtain⟨o,ho⟩:=W.oper (show j<m by omega);obtain⟨e,s',he,hs',hn,mvd,hok,-⟩:=W.run j o (by omega) ho;rw[hs]at hs';obtain rfl:=za hs';have hUj:∀ i,upto j i=true->i<m->a4f ops m σ0 es i:=fun i hi _=>hU i (upto_iff.1 hi);have huse:a4f ops m σ0 es j:=by
     intro e' he' r hr;rw[he]at he';obtain rfl:=za he';rcases hok.2.2 with⟨_,hl,_⟩|⟨_,_,_,ht⟩
     . rcases hl.uses r hr with⟨x,hx,hxr⟩|hN
       . obtain⟨τ,rfl⟩:=a3o hxr;have hxr:(nth s.ts τ .dead).uses r=true:=hxr;rw[hM.ts]at hxr;rcases a5G W hUj hxr with h1|⟨i,j',e',hi,hD,hjj,he',hr'⟩
         . exact .inl h1
         . have hij:=upto_iff.1 hD;have ha:=(a4k W (by omega) ho (a0h hx) hi).1 hij;refine .inr ⟨j',e',.inr ?_,he',hr'⟩;rcases hjj with rfl|h
           . exact ha
           . exact .trans ha h
       . exact .inr ⟨j,e,.inl rfl,he,hN⟩
     . rw[ht]at hr;cases hr
   refine⟨⟨_,hn,a4u (b1N W (b0T W j) hUj hM (by omega) ho he (by cases hu:upto j j with|false=>rfl|true=>exact absurd (upto_iff.1 hu) (zP j))) fun i _=>?_⟩,fun i hi=>?_⟩
   . have:(a1M (upto j) j i=true)=(upto (j+1) i=true):=by
       apply propext;simp only[a1M,zf,upto_iff];constructor
       . rintro(h|h)
         . omega
         . have:=zc h;omega
       . intro h;by_cases hij:i=j
         . subst hij;exact .inr (zl _)
         . exact .inl (by omega)
     cases h1:a1M (upto j) j i<;>cases h2:upto (j+1) i<;>simp_all
   . by_cases hij:i=j
     . subst hij;exact huse
     . exact hU i (by omega)
theorem a4w (W:Walk c ops m n σ0 es ss):∀ j,j<m->a4f ops m σ0 es j:=(a3A W m (zz _)).2
theorem a6w (W:Walk c ops m n σ0 es ss) {D:Nat->Bool} (hc:a4C ops D) {s:St} (hM:Mid ops m es σ0 D s) {i:Nat} {o:Oper} {si:St} (hi:i<m) (ho:ops[i]? = some o) (hsi:ss[i]? = some si) (hD:D i=false) (hA:∀ a,Anc ops i a->D a=true) :
   (∀ τ∈a0b ops o,nth s.ts τ .dead=nth si.ts τ .dead)/\Agree o si s:=by
 obtain⟨⟨s',hs',hMi⟩,_⟩:=a3A W i (by omega);rw[hsi]at hs';obtain rfl:=za hs';have hval:∀ τ∈a0b ops o,nth s.ts τ .dead=nth si.ts τ .dead:=by
   intro τ hτ;rw[hM.ts,hMi.ts];unfold valD;cases hw:a1j ops m τ with
   | none=>rfl
   | some j =>
     obtain⟨ha,hb⟩:=a4k W hi ho hτ hw;have:D j=upto i j:=by
       rcases zW j i with h|h|h
       . rw[hA j (ha h),upto_iff.2 h]
       . subst h;rw[hD];cases hu:upto j j with
         | false=>rfl
         | true=>have:=upto_iff.1 hu;omega
       . have h1:D j=false:=by
           cases hDj:D j with
           | false=>rfl
           | true=>have:=hc j i hDj (hb h);rw[hD]at this;cases this
         rw[h1];cases hu:upto i j with
         | false=>rfl
         | true=>have:=upto_iff.1 hu;omega
     simp only[this]
 refine⟨hval,fun x hx=>?_,fun x hx r hr=>?_⟩
 . cases x with
   | tmp τ=>exact hval τ (a0h hx)
   | _=>rfl
 . obtain⟨τ,rfl⟩:=a3o hr;have hr:(nth si.ts τ .dead).uses r=true:=hr;rw[hMi.ts]at hr;rw[hM.rs,hMi.rs];have hU:∀ j,upto i j=true->j<m->a4f ops m σ0 es j:=fun j _ hj=>a4w W j hj;rcases a5G W hU hr with h1|⟨j,j',e',hj,hDj,hjj,he',hr'⟩
   ·
     unfold a9r;cases hw:a1j ops m (r/4)with
     | none=>rfl
     | some k =>
       obtain⟨hk,ok,hok,_⟩:=a0Z hw;obtain⟨ek,_,hek,_⟩:=W.run k ok hk hok;have hnone:rget ek.N r=none:=by
         cases hx:rget ek.N r with
         | none=>rfl
         | some y=>exact absurd ((W.ids hk hok hek).2 r (rget_ids.1 (by rw[hx];simp))).1 h1
       simp only[hek,hnone,ye,ite_self]
   . have hji:=upto_iff.1 hDj;have haj:=(a4k W hi ho (a0h hx) hj).1 hji;have haj':Anc ops i j':=by
       rcases hjj with rfl|h
       . exact haj
       . exact .trans haj h
     have hj'i:=a6B W.ok haj';obtain⟨oj',hoj'⟩:=W.oper (show j'<m by omega);have hw:=((W.ids (by omega) hoj' he').2 r hr').2;unfold a9r;simp only[hw,hA j' haj',upto_iff.2 hj'i]
end
theorem a9i {E:Env} {σ σ':St} {a:Act} {w:World} {G:Nat->RG} (h:Rel P E σ a w G) (hts:σ'.ts=σ.ts) (hrs:∀ r,rget σ'.rs r=rget σ.rs r):Rel P E σ' a w G:=by
 refine⟨h.defers,?_,a6z h.r fun q x hx=>by rw[<-hrs];exact hx⟩;rw[hts];refine a1q h.temps rfl fun i t' ht' => .inr ⟨t',ht',fun v S A hS hf=>⟨a2p (fun q x hx=>by rw[hrs];exact hx) (fun _ _=>rfl) t' v S A hS,hf⟩⟩
theorem b5G {ops:List Oper} {m:Nat} {es:List Ent} {σ0 s s':St} {D:Nat->Bool} (h:Mid ops m es σ0 D s) (h':Mid ops m es σ0 D s'):s'.ts=s.ts/\∀ r,rget s'.rs r=rget s.rs r:=by
 refine⟨z7 fun τ=>?_,fun r=>by rw[h.rs,h'.rs]⟩;have h1:=h.ts τ;have h2:=h'.ts τ;rw[a0m]at h1 h2;rcases zv τ σ0.ts.length with hl|hl
 . have l1:τ<s.ts.length:=by rw[h.len];exact hl
   have l2:τ<s'.ts.length:=by rw[h'.len];exact hl
   rw[zo l1]at h1 ⊢;rw[zo l2]at h2 ⊢;simp only[zp]at h1 h2;rw[h1,h2]
 . rw[zC (by rw[h'.len];exact hl),zC (by rw[h.len];exact hl)]
mutual
theorem a4Z {rs:List (Nat×Root)} {G:Nat->RG} {w:World}:∀ (t:TV) (v:Value) (S A:List Nat),TRep P rs G w t v S A->∀ r,t.uses r=true->rget rs r≠none
 | .dead,_,_,_,_,r,hu=>by cases hu
 | .val agg cs,_,_,_,_,r,hu=>by cases hu
 | .rptr _ cs,_,_,_,_,r,hu=>by cases hu
 | .ref q p,v,S,A,h,r,hu=>by
   obtain⟨_,_,x,_,_,hx,_⟩:=h;have:q=r:=zc hu;subst this;rw[hx];simp
 | .view q p n agg,v,S,A,h,r,hu=>by
   obtain⟨_,_,x,_,_,hx,_⟩:=h;have:q=r:=zc hu;subst this;rw[hx];simp
 | .fn f caps,v,S,A,h,r,hu=>by
   obtain⟨vs,rfl,h⟩:=h;exact a3g caps vs S A h r (by simpa[TV.uses]using hu)
 | .fnx s g,v,S,A,h,r,hu=>by cases hu
 | .tup k ts,v,S,A,h,r,hu=>by
   obtain⟨vs,hv,h⟩:=h;exact a3g ts vs S A h r (by simpa[TV.uses]using hu)
 | .pfn t,v,S,A,h,r,hu=>by
   obtain⟨ad,u,S0,rfl,hc,hlt,h,rfl⟩:=h;exact a4Z t u S0 A h r (by simpa[TV.uses]using hu)
theorem a3g {rs:List (Nat×Root)} {G:Nat->RG} {w:World}:∀ (ts:List TV) (vs:List Value) (S A:List Nat),a1A P rs G w ts vs S A->∀ r,TV.usesL r ts=true->rget rs r≠none
 | [],_,_,_,_,r,hu=>by cases hu
 | t::ts,vs,S,A,h,r,hu=>by
   obtain⟨v,vs',S1,S2,A1,A2,rfl,rfl,rfl,h1,h2⟩:=h;simp only[TV.usesL,zf]at hu;exact hu.elim (a4Z t v S1 A1 h1 r) (a3g ts vs' S2 A2 h2 r)
end
theorem b2Q {E:Env} {σ:St} {a:Act} {w:World} {G:Nat->RG} (h:Rel P E σ a w G):∀ t∈σ.ts,∀ r,t.uses r=true->rget σ.rs r≠none:=by
 intro t ht r hu;obtain⟨i,hi⟩:=zB.1 ht;obtain⟨v,S,A,_,hr,_⟩:=h.temps.2 i t hi;exact a4Z t v S A hr r hu
end Go.Vm
end
section
namespace Go.Vm
variable {P:Program} {R:Type}
theorem ready_iff {ops:Array Oper} {listed:Array Bool} {i:Nat}:i∈Region.ready .any ops listed↔∃ o,ops[i]? = some o/\listed.getD i true=false/\∀ e∈o.after,Region.binds .any e=true->listed.getD e.on false=true:=by
 unfold Region.ready;simp only[zA,yf,zb,zn];constructor
 . rintro⟨h1,h2,h3⟩;refine⟨ops[i],by simp[h1],h2,fun e he hb=>?_⟩;simp only[h1,Array.getElem?_eq_getElem,zr,zp]at h3;have:=zM.1 h3 e he;simpa[hb]using this
 . rintro⟨o,ho,h2,h3⟩;have hi:i<ops.size:=by
     rcases zv i ops.size with h|h
     . exact h
     . rw[zt h]at ho;cases ho
   refine⟨hi,h2,?_⟩;simp only[ho,zr,zp];refine zM.2 fun e he=>?_;cases hb:Region.binds .any e with
   | true=>simp[h3 e he hb]
   | false=>simp
def Dof (listed:Array Bool):Nat->Bool:=fun i=>listed.getD i false
theorem a4M {listed:Array Bool} {i:Nat} (hi:i<listed.size) (j:Nat):Dof (listed.setIfInBounds i true) j=a1M (Dof listed) i j:=by
 simp only[Dof,a1M];rw[zd,zd,zU];by_cases h:i=j
 . subst h;simp[hi]
 . have hb:zs j i=false:=by
     cases hb:zs j i with
     | false=>rfl
     | true=>exact absurd (zc hb).symm h
   simp[h,hb]
theorem a8u {E:Env} {c:Ctx} (hctx:CtxOK P c) {ops:Array Oper} {i:Nat} {o:Oper} (hi:ops[i]? = some o) {σ:St} {a:Act} {w:World} {G:Nat->RG} (hrel:Rel P E σ a w G) {kv:List (Nat×Value)} (hkeep:Keep kv a) (hd:∀ d,o.dst=some d->d∉kv.map (·.1))
   {b:Bool} (hw:a2d ops.toList σ o=some b) {Q:Exit->Act->World->Prop} {K:Act->World->Prop} {σ':St}
   (hrun:b=true->a0C c o σ some=some σ') (hskip:b=false->σ'=σ.put o.dst und) (hK:∀ a' w' G',Rel P E σ' a' w' G'->Keep kv a'->K a' w'):wpOp P ops Q i K a w:=by
 have hwanted:Region.wanted o (yielded ops a.tmps)=b:=by
   unfold a2d at hw;cases hg:o.guard with
   | none=>rw[hg]at hw;simp only[zm]at hw;simp[Region.wanted,hg,hw]
   | some gw =>
     obtain⟨j,want⟩:=gw;rw[hg]at hw;simp only[]at hw;split at hw
     . cases hw
     rename_i t ht;have hdst:(ops[j]?).bind (·.dst)=some t:=by
       rw[a0m,zE]at ht;cases hoj:ops[j]? with
       | none=>simp[hoj]at ht
       | some oj=>simpa[hoj]using ht
     split at hw
     . rename_i hu;have hyield:yielded ops a.tmps j=none:=by
         unfold yielded;rw[hdst];exact b0D hrel hu
       simp only[zm]at hw;rw[<-hw];simp only[Region.wanted,hg,hyield];rfl
     split at hw
     . cases hw
     rename_i bb hb;obtain⟨htv,htl⟩:=vB_of hb;obtain⟨v,S,A,hv,hr,hf⟩:=hrel.temps.2 t (vB bb) (by rw[a0m,zo htl]at htv;rw[zo htl];simpa using htv);have hvb:=a2M hr rfl;subst hvb;have hyield:yielded ops a.tmps j=some bb:=by
       unfold yielded;rw[hdst];simp[hv]
     simp only[zm]at hw;rw[<-hw];simp only[Region.wanted,hg,hyield];cases bb<;>cases want<;>rfl
 unfold wpOp;simp only[hi,hwanted];cases b with
 | true =>
   simp only[if_true];left;have hs:=hrun rfl;refine Oper.wp_mono (fun a' w' h'=>?_) (Oper.wp_put (a8x hctx hrel hs Q));obtain⟨⟨σ2,G2,h1,h2⟩,v,ds,h3⟩:=h';obtain rfl:=za h2;exact hK a' w' G2 h1 (a3k hkeep h3 hd)
 | false =>
   simp only[zi,if_false];have:=hskip rfl;subst this;exact hK _ w G (a0A hrel o.dst (t:=und) (b1d _ _ _) (Fine2.nil _ _)) (a3k hkeep (ds:=a.defers) rfl hd)
theorem b1w {all:List Oper} {σ σ':St} {o:Oper} (h:∀ τ∈a0b all o,nth σ'.ts τ .dead=nth σ.ts τ .dead):a2d all σ' o=a2d all σ o:=by
 unfold a2d;cases hg:o.guard with
 | none=>rfl
 | some gw =>
   obtain⟨j,want⟩:=gw;simp only[];cases ht:(nth (all.map some) j none).bind (·.dst)with
   | none=>rfl
   | some t =>
     simp only[];rw[h t];unfold a0b;refine List.mem_append_right _ ?_;simp only[hg,ht];simp
theorem a8W {c:Ctx} {all l:List Oper} {o:Oper} {σ:St} {k:St->Option R} {r:R} (h:opsK c all (o::l) σ k=some r):∃ b σ',a2d all σ o=some b/\(b=true->a0C c o σ some=some σ')/\(b=false->σ'=σ.put o.dst und)/\opsK c all l σ' k=some r:=by
 simp only[opsK]at h;have run:(a0C c o σ fun σ'=>opsK c all (l) σ' k)=some r->∃ σ',a0C c o σ some=some σ'/\opsK c all (l) σ' k=some r:=by
   intro h;rw[a4j]at h;cases hs:a0C c o σ some with
   | none=>rw[hs]at h;cases h
   | some σ'=>rw[hs]at h;exact⟨σ',rfl,h⟩
 cases hg:o.guard with
 | none =>
   rw[hg]at h;obtain⟨σ',h3,h4⟩:=run h;exact⟨true,σ',by simp[a2d,hg],fun _=>h3,fun e=>(by cases e),h4⟩
 | some gw =>
   obtain⟨j,want⟩:=gw;rw[hg]at h;simp only[]at h;split at h
   . cases h
   rename_i t ht;split at h
   . rename_i hu;exact⟨false,_,by simp only[a2d,hg,ht,hu],fun e=>(by cases e),fun _=>rfl,h⟩
   rename_i hu;split at h
   . cases h
   rename_i b hb;have hw:a2d all σ o=some (b==want):=by simp only[a2d,hg,ht,hb,hu]
   cases b with
   | true =>
     simp only[if_true]at h;rw[a1b hb]at h;cases want with
     | true=>obtain⟨σ',h3,h4⟩:=run h;exact⟨true,σ',hw,fun _=>h3,fun e=>(by cases e),h4⟩
     | false=>exact⟨false,_,hw,fun e=>(by cases e),fun _=>rfl,h⟩
   | false =>
     simp only[zi,if_false]at h;rw[a1b hb]at h;cases want with
     | false=>obtain⟨σ',h3,h4⟩:=run h;exact⟨true,σ',hw,fun _=>h3,fun e=>(by cases e),h4⟩
     | true=>exact⟨false,_,hw,fun e=>(by cases e),fun _=>rfl,h⟩
theorem b4y {E:Env} {c:Ctx} (hctx:CtxOK P c) {ops:Array Oper} {m n:Nat} (hok:OrdOK ops.toList m n) (hstr:∀ i j oi oj,ops.toList[i]? = some oi->ops.toList[j]? = some oj->j<i->m≤i->Anc ops.toList i j) {k:St->Option R} {r:R} {kv:List (Nat×Value)} (hkp:a1N (kv.map (·.1)) ops.toList=true) :
   ∀ (fuel j:Nat) (listed:Array Bool) (σ:St) (a:Act) (w:World) (G:Nat->RG),m≤j->j≤ops.size->ops.size-j≤fuel->listed.size=ops.size->(∀ i,i<ops.size->listed.getD i false=ze i j) →
     opsK c ops.toList (ops.toList.drop j) σ k=some r->Rel P E σ a w G->Keep kv a->wpAny P .any ops (a2s P E kv k r) fuel listed a w:=by
 have hgd:∀ (listed:Array Bool) (i:Nat),listed.size=ops.size->i<ops.size->listed.getD i true=listed.getD i false:=by
   intro listed i h1 h2;have:i<listed.size:=by omega
   simp[zd,this]
 have noReady:∀ (listed:Array Bool),listed.size=ops.size->(∀ i,i<ops.size->listed.getD i false=true)->Region.ready .any ops listed=[]:=by
   intro listed hl hall;rw[zD];intro i hi;obtain⟨o,ho,h1,_⟩:=ready_iff.1 hi;have hi':i<ops.size:=by
     rcases zv i ops.size with h|h
     . exact h
     . rw[zt h]at ho;cases ho
   rw[hgd listed i hl hi',hall i hi']at h1;cases h1
 intro fuel;induction fuel with
 | zero =>
   intro j listed σ a w G hmj hj hf hl hD h hrel hkeep;have hjn:j=ops.size:=by omega
   subst hjn;refine⟨noReady listed hl fun i hi=>by rw[hD i hi];exact upto_iff.2 hi,rfl,hkeep,σ,G,hrel,?_⟩;rw[zZ (by simp)]at h;exact h
 | succ fuel ih =>
   intro j listed σ a w G hmj hj hf hl hD h hrel hkeep;refine⟨fun hr=>?_,fun i hi=>?_⟩
   ·
     by_cases hjn:j=ops.size
     . subst hjn;rw[zZ (by simp)]at h;exact⟨rfl,hkeep,σ,G,hrel,h⟩
     . exfalso;have hjlt:j<ops.size:=by omega
       have:j∈Region.ready .any ops listed:=by
         refine ready_iff.2 ⟨ops[j],by simp[hjlt],?_,fun e he hb=>?_⟩
         . rw[hgd listed j hl hjlt,hD j hjlt];cases hb:ze j j with
           | false=>rfl
           | true=>exact absurd (upto_iff.1 hb) (zP j)
         . have hlt:=hok.early j ops[j] (by simp[hjlt]) e he hb;rw[hD e.on (by omega)];exact upto_iff.2 hlt
       rw[hr]at this;cases this
   . obtain⟨o,ho,h1,h2⟩:=ready_iff.1 hi;have hilt:i<ops.size:=by
       rcases zv i ops.size with h|h
       . exact h
       . rw[zt h]at ho;cases ho
     have hij:¬ i<j:=by
       intro hlt;rw[hgd listed i hl hilt,hD i hilt]at h1;have:ze i j=true:=upto_iff.2 hlt;rw[this]at h1;cases h1
     have hcl:a4C ops.toList (Dof listed):=by
       intro x y hx hxy;have hxs:x<ops.size:=by
         rcases zv x ops.size with h|h
         . exact h
         . simp[Dof,zd,zt (show listed.size≤x by omega)]at hx
       have hxj:x<j:=by
         have:ze x j=true:=by rw[<-hD x hxs];exact hx
         exact upto_iff.1 this
       have hyx:=a6B hok hxy;show listed.getD y false=true;rw[hD y (by omega)];exact upto_iff.2 (by omega)
     have hanc:∀ x y,x=i->Anc ops.toList x y->Dof listed y=true:=by
       intro x y hx hxy;induction hxy with
       | @edge x o' e ho' he hb =>
         subst hx;have:o'=o:=by
           have h3:ops[x]? = some o':=by simpa using ho'
           rw[ho]at h3;exact(za h3).symm
         subst this;exact h2 e he hb
       | trans h3 h4 ih3 ih4=>exact hcl _ _ (ih3 hx) h4
     have hie:i=j:=by
       by_cases hgt:j<i
       . have hjs:j<ops.size:=by omega
         have:=hanc i j rfl (hstr i j o ops[j] (by simpa using ho) (by simp[hjs]) hgt (by omega));have h3:ze j j=true:=by rw[<-hD j hjs];exact this
         exact absurd (upto_iff.1 h3) (zP j)
       . omega
     subst hie;have hdrop:ops.toList.drop i=o::ops.toList.drop (i+1):=by
       rw[List.drop_eq_getElem_cons (by simpa using hilt)];congr 1;have:ops[i]? = some ops[i]:=by simp[hilt]
       rw[this]at ho;simpa using za ho
     rw[hdrop]at h;have hmem:o∈ops.toList:=by
       have:=zw ho;simpa using this
     have key:=a8W h;obtain⟨b,σ',hw,hrun,hskip,hrest⟩:=key;refine a8u hctx ho hrel hkeep (a1Y hkp o hmem) hw hrun hskip fun a' w' G' hrel' hkeep'=>?_;refine ih (i+1) _ σ' a' w' G' (by omega) (by omega) (by omega) (by simpa using hl) (fun x hx=>?_) hrest hrel' hkeep';have:=a4M (listed:=listed) (i:=i) (by omega) x;simp only[Dof]at this;rw[this];simp only[a1M,Dof,hD x hx];have hx1:(ze x i||zs x i)=true↔ze x (i+1)=true:=by
       simp only[zf];constructor
       . rintro(h5|h5)
         . exact upto_iff.2 (z8 (upto_iff.1 h5))
         . rw[zc h5];exact upto_iff.2 (ya i)
       . intro h5;have:=upto_iff.1 h5;by_cases hxi:x=i
         . subst hxi;exact .inr (zl _)
         . exact .inl (upto_iff.2 (by omega))
     cases h6:(ze x i||zs x i)<;>cases h7:ze x (i+1)<;>simp_all
theorem b2o {ops:Array Oper} {m n:Nat} (hok:OrdOK ops.toList m n) (hstr:∀ i j oi oj,ops.toList[i]? = some oi->ops.toList[j]? = some oj->j<i->m≤i->Anc ops.toList i j) {Q:Exit->Act->World->Prop} (J:Nat->Act->World->Prop)
   (hstep:∀ i o,m≤i->ops[i]? = some o->∀ a w,J i a w->o.guard=none/\o.wp P a w (J (i+1)) Q) (hend:∀ a w,J ops.size a w->Q .normal a w) :
   ∀ (fuel j:Nat) (listed:Array Bool) (a:Act) (w:World),m≤j->j≤ops.size->ops.size-j≤fuel->listed.size=ops.size->(∀ i,i<ops.size->listed.getD i false=ze i j)->J j a w->wpAny P .any ops Q fuel listed a w:=by
 have hgd:∀ (listed:Array Bool) (i:Nat),listed.size=ops.size->i<ops.size->listed.getD i true=listed.getD i false:=by
   intro listed i h1 h2;have:i<listed.size:=by omega
   simp[zd,this]
 have noReady:∀ (listed:Array Bool),listed.size=ops.size->(∀ i,i<ops.size->listed.getD i false=true)->Region.ready .any ops listed=[]:=by
   intro listed hl hall;rw[zD];intro i hi;obtain⟨o,ho,h1,_⟩:=ready_iff.1 hi;have hi':i<ops.size:=by
     rcases zv i ops.size with h|h
     . exact h
     . rw[zt h]at ho;cases ho
   rw[hgd listed i hl hi',hall i hi']at h1;cases h1
 intro fuel;induction fuel with
 | zero =>
   intro j listed a w hmj hj hf hl hD h;have hjn:j=ops.size:=by omega
   subst hjn;refine⟨noReady listed hl fun i hi=>by rw[hD i hi];exact upto_iff.2 hi,hend _ _ h⟩
 | succ fuel ih =>
   intro j listed a w hmj hj hf hl hD h;refine⟨fun hr=>?_,fun i hi=>?_⟩
   ·
     by_cases hjn:j=ops.size
     . subst hjn;exact hend _ _ h
     . exfalso;have hjlt:j<ops.size:=by omega
       have:j∈Region.ready .any ops listed:=by
         refine ready_iff.2 ⟨ops[j],by simp[hjlt],?_,fun e he hb=>?_⟩
         . rw[hgd listed j hl hjlt,hD j hjlt];cases hb:ze j j with
           | false=>rfl
           | true=>exact absurd (upto_iff.1 hb) (zP j)
         . have hlt:=hok.early j ops[j] (by simp[hjlt]) e he hb;rw[hD e.on (by omega)];exact upto_iff.2 hlt
       rw[hr]at this;cases this
   . obtain⟨o,ho,h1,h2⟩:=ready_iff.1 hi;have hilt:i<ops.size:=by
       rcases zv i ops.size with h|h
       . exact h
       . rw[zt h]at ho;cases ho
     have hij:¬ i<j:=by
       intro hlt;rw[hgd listed i hl hilt,hD i hilt]at h1;have:ze i j=true:=upto_iff.2 hlt;rw[this]at h1;cases h1
     have hcl:a4C ops.toList (Dof listed):=by
       intro x y hx hxy;have hxs:x<ops.size:=by
         rcases zv x ops.size with h|h
         . exact h
         . simp[Dof,zd,zt (show listed.size≤x by omega)]at hx
       have hxj:x<j:=by
         have:ze x j=true:=by rw[<-hD x hxs];exact hx
         exact upto_iff.1 this
       have hyx:=a6B hok hxy;show listed.getD y false=true;rw[hD y (by omega)];exact upto_iff.2 (by omega)
     have hanc:∀ x y,x=i->Anc ops.toList x y->Dof listed y=true:=by
       intro x y hx hxy;induction hxy with
       | @edge x o' e ho' he hb =>
         subst hx;have:o'=o:=by
           have h3:ops[x]? = some o':=by simpa using ho'
           rw[ho]at h3;exact(za h3).symm
         subst this;exact h2 e he hb
       | trans h3 h4 ih3 ih4=>exact hcl _ _ (ih3 hx) h4
     have hie:i=j:=by
       by_cases hgt:j<i
       . have hjs:j<ops.size:=by omega
         have:=hanc i j rfl (hstr i j o ops[j] (by simpa using ho) (by simp[hjs]) hgt (by omega));have h3:ze j j=true:=by rw[<-hD j hjs];exact this
         exact absurd (upto_iff.1 h3) (zP j)
       . omega
     subst hie;obtain⟨hg,hwp⟩:=hstep i o hmj ho a w h;unfold wpOp;simp only[ho,Region.wanted,hg,if_true];left;refine Oper.wp_mono (fun a' w' h'=>?_) hwp;refine ih (i+1) _ a' w' (by omega) (by omega) (by omega) (by simpa using hl) (fun x hx=>?_) h';have:=a4M (listed:=listed) (i:=i) (by omega) x;simp only[Dof]at this;rw[this];simp only[a1M,Dof,hD x hx];have hx1:(ze x i||zs x i)=true↔ze x (i+1)=true:=by
       simp only[zf];constructor
       . rintro(h5|h5)
         . exact upto_iff.2 (z8 (upto_iff.1 h5))
         . rw[zc h5];exact upto_iff.2 (ya i)
       . intro h5;have:=upto_iff.1 h5;by_cases hxi:x=i
         . subst hxi;exact .inr (zl _)
         . exact .inl (upto_iff.2 (by omega))
     cases h6:(ze x i||zs x i)<;>cases h7:ze x (i+1)<;>simp_all
theorem a4m {α:Type} {p q:α->Bool}:∀ {l:List α},(∀ x∈l,q x=true->p x=true)->(∃ x∈l,p x=true/\q x=false)->l.countP q<l.countP p:=by
 intro l;induction l with
 | nil=>rintro _ ⟨x,hx,_⟩;cases hx
 | cons y l ih =>
   intro h1 h2;have hle:l.countP q≤l.countP p:=List.countP_mono_left fun x hx hq=>h1 x (by simp[hx]) hq;rw[yb,yb];obtain⟨x,hx,hpx,hqx⟩:=h2;simp only[zj]at hx;rcases hx with rfl|hx
   . simp only[hpx,hqx,if_true,zi,if_false];omega
   . have:=ih (fun x hx=>h1 x (by simp[hx])) ⟨x,hx,hpx,hqx⟩;have h3:=h1 y (by simp);cases hq:q y with
     | true=>simp only[h3 hq,if_true];omega
     | false=>cases hp:p y<;>simp only[if_true,zi,if_false]<;>omega
def left (n:Nat) (listed:Array Bool):Nat:=(zJ n).countP fun i=>!listed.getD i false
theorem a3s (τ:Nat):∀ (M:List Nat) (σ:St),nth (a0G M σ).ts τ .dead=if a1h M (nth σ.ts τ .dead)=true then .dead else nth σ.ts τ .dead:=by
 intro M;induction M with
 | nil=>intro σ;simp[a0G,a1h]
 | cons r M ih =>
   intro σ;have e:nth (σ.del r).ts τ .dead=if (nth σ.ts τ .dead).uses r=true then .dead else nth σ.ts τ .dead:=b1P r σ.ts τ
   have hd:∀ M:List Nat,a1h M .dead=false:=by
     intro M;induction M with
     | nil=>rfl
     | cons x M ih=>simp only[a1h,ih,yg];rfl
   show nth (a0G M (σ.del r)).ts τ .dead=_;rw[ih,e];cases hu:(nth σ.ts τ .dead).uses r with
   | true=>simp[a1h,hu,hd]
   | false=>simp[a1h,hu]
theorem a4Y (q:Nat):∀ (M:List Nat) (σ:St),rget (a0G M σ).rs q=if q∈M then none else rget σ.rs q:=by
 intro M;induction M with
 | nil=>intro σ;simp[a0G]
 | cons r M ih =>
   intro σ;show rget (a0G M (σ.del r)).rs q=_;rw[ih];simp only[St.del,a0D,zj];by_cases h1:q∈M
   . simp[h1]
   . by_cases h2:q=r
     . simp[h2]
     . simp[h1,h2]
theorem a5J:∀ (M:List Nat) (σ:St),(a0G M σ).ts.length=σ.ts.length:=by
 intro M;induction M with
 | nil=>intro σ;rfl
 | cons r M ih=>intro σ;show(a0G M (σ.del r)).ts.length=_;rw[ih];exact a1v _ _
theorem usesAny_true {l:List Nat} {t:TV}:a1h l t=true↔∃ r∈l,t.uses r=true:=by
 induction l with
 | nil=>simp[a1h]
 | cons x l ih=>simp[a1h,ih]
theorem b5O {l l':List TV} (hl:l.length=l'.length) (h:∀ τ,nth l τ .dead=nth l' τ .dead):l=l':=by
 refine z7 fun τ=>?_;have h1:=h τ;rw[a0m,a0m]at h1;rcases zv τ l.length with hl1|hl1
 . rw[zo hl1,zo (by omega)]at h1 ⊢;simp only[zp]at h1;rw[h1]
 . rw[zC hl1,zC (by omega)]
def MvD (es:List Ent) (D:Nat->Bool) (q:Nat):Prop:=∃ (k:Nat) (e:Ent),D k=true/\es[k]? = some e/\q∈e.M
structure DelS (es:List Ent) (D:Nat->Bool) (s σr:St):Prop where
 len:σr.ts.length=s.ts.length
 keep:∀ τ,(∀ q,MvD es D q->(nth s.ts τ .dead).uses q=false)->nth σr.ts τ .dead=nth s.ts τ .dead
 gone:∀ τ q,MvD es D q->(nth s.ts τ .dead).uses q=true->nth σr.ts τ .dead = .dead
 rsK:∀ q,¬ MvD es D q->rget σr.rs q=rget s.rs q
 rsG:∀ q,MvD es D q->rget σr.rs q=none
theorem a4e {es:List Ent} {D D':Nat->Bool} (h:∀ k,(∃ e,es[k]? = some e)->D k=D' k) (q:Nat):MvD es D q↔MvD es D' q :=
 ⟨fun⟨k,e,h1,h2,h3⟩=>⟨k,e,by rw[<-h k ⟨e,h2⟩];exact h1,h2,h3⟩,fun⟨k,e,h1,h2,h3⟩=>⟨k,e,by rw[h k ⟨e,h2⟩];exact h1,h2,h3⟩⟩
theorem b1u {es:List Ent} {D D':Nat->Bool} {s σr:St} (h:DelS es D s σr) (hD:∀ k,(∃ e,es[k]? = some e)->D k=D' k):DelS es D' s σr :=
 ⟨h.len,fun τ k=>h.keep τ fun q hq=>k q ((a4e hD q).1 hq),fun τ q hq=>h.gone τ q ((a4e hD q).2 hq),fun q hq=>h.rsK q fun k=>hq ((a4e hD q).1 k),fun q hq=>h.rsG q ((a4e hD q).2 hq)⟩
section
variable {c:Ctx} {ops:List Oper} {m n:Nat} {σ0:St} {es:List Ent} {ss:List St}
theorem Walk.mvs (W:Walk c ops m n σ0 es ss) {k:Nat} {ek:Ent} {q:Nat} (hek:es[k]? = some ek) (hq:q∈ek.M) :
   ∃ ok sk,k<m/\ops[k]? = some ok/\ss[k]? = some sk/\LocM c ok sk ek.M ek.N ek.t/\rget σ0.rs q=none/\(∃ j,j<k/\a1j ops m (q/4)=some j) ∧
     ∀ (j:Nat) (oj:Oper),ops[j]? = some oj->j≠k->Anc ops k j∨∀ τ∈a0b ops oj,(nth sk.ts τ .dead).uses q=false:=by
 have hk:=W.elen k ek hek;obtain⟨ok,hok⟩:=W.oper hk;obtain⟨e',sk,h1,h2,h3,mvk,⟨_,_,hdis⟩,_⟩:=W.run k ok hk hok;rw[hek]at h1;obtain rfl:=za h1;rcases hdis with⟨_,hloc,hsep⟩|⟨_,_,hM0,_⟩
 . obtain⟨⟨jf,ojf,hjf,hojf,hadd,hdst⟩,hall⟩:=b3c (hsep q hq) hq;have hf:=W.fresh jf ojf (q/4) (by omega) hojf hadd hdst (q%4) (by omega);rw[show 4*(q/4)+q%4=q by omega]at hf;exact⟨ok,sk,hk,hok,h2,hloc,hf,⟨jf,hjf,a7w W.ok (by omega) hojf hdst⟩,hall⟩
 . rw[hM0]at hq;cases hq
theorem a9Q (W:Walk c ops m n σ0 es ss) {D:Nat->Bool} (hc:a4C ops D) {s:St} (hM:Mid ops m es σ0 D s) {i:Nat} {o:Oper} (hi:i<m) (ho:ops[i]? = some o) (hD:D i=false) (hA:∀ a,Anc ops i a->D a=true) :
   ∀ τ∈a0b ops o,∀ q,MvD es D q->(nth s.ts τ .dead).uses q=false:=by
 obtain⟨e,si,he,hsi,hn,mvd,⟨_,hfree,_⟩,hmvd⟩:=W.run i o hi ho;obtain⟨hlook,_⟩:=a6w W hc hM hi ho hsi hD hA;rintro τ hτ q ⟨k,ek,hDk,hek,hq⟩;rw[hlook τ hτ];cases hu:(nth si.ts τ .dead).uses q with
 | false=>rfl
 | true =>
   exfalso;obtain⟨ok,sk,hk,hok,hsk,hloc,hfr,_,hall⟩:=W.mvs hek hq;rcases zW k i with hlt|rfl|hgt
   . have:=b2x hfree τ hτ q ((hmvd q).2 ⟨k,ek,hlt,hek,hq⟩);rw[hu]at this;cases this
   . rw[hD]at hDk;cases hDk
   . rcases hall i o ho (by omega)with ha|hno
     . have:=hc k i hDk ha;rw[hD]at this;cases this
     . have h1:=hno τ hτ;obtain⟨⟨sk',hsk',hMk⟩,_⟩:=a3A W k (by omega);rw[hsk]at hsk';obtain rfl:=za hsk';obtain⟨⟨si',hsi',hMi⟩,_⟩:=a3A W i (by omega);rw[hsi]at hsi';obtain rfl:=za hsi';rw[hMk.ts]at h1;rw[hMi.ts]at hu;unfold valD at h1 hu;cases hw:a1j ops m τ with
       | none=>rw[hw]at h1 hu;simp only[]at h1 hu;rw[hu]at h1;cases h1
       | some w =>
         rw[hw]at h1 hu;simp only[]at h1 hu;by_cases hwi:w<i
         . rw[if_pos (upto_iff.2 (by omega))]at h1;rw[if_pos (upto_iff.2 hwi)]at hu;rw[hu]at h1;cases h1
         . rw[if_neg (fun h=>hwi (upto_iff.1 h))]at hu;exact W.closed _ (b0g hu) q hu hfr
theorem b4A (W:Walk c ops m n σ0 es ss) {D:Nat->Bool} (hc:a4C ops D) {s σr:St} (hM:Mid ops m es σ0 D s) (hd:DelS es D s σr) {i:Nat} {o:Oper} {e:Ent} (hi:i<m) (ho:ops[i]? = some o) (he:es[i]? = some e) (hD:D i=false) (hA:∀ a,Anc ops i a->D a=true) :
   DelS es (a1M D i) (next o e s) ((a2w e.N (a0G e.M σr)).put o.dst e.t):=by
 have hU:∀ j,D j=true->j<m->a4f ops m σ0 es j:=fun j _ hj=>a4w W j hj;have hnew:=b5H W hc hU hM hi ho he hD;obtain⟨hnd,hids⟩:=W.ids hi ho he;obtain⟨d,hdst,hdn⟩:=W.ok.dst i o ho hi;obtain⟨e',si,he',hsi,hn,mvd,⟨_,hfree,hdis⟩,hmvd⟩:=W.run i o hi ho;rw[he]at he';obtain rfl:=za he';obtain⟨hlook,_⟩:=a6w W hc hM hi ho hsi hD hA;have hnm:=a9Q W hc hM hi ho hD hA;have hmv:∀ q,MvD es (a1M D i) q↔MvD es D q∨q∈e.M:=by
   intro q;constructor
   . rintro⟨k,ek,hk,hek,hq⟩;simp only[a1M,zf]at hk;rcases hk with hk|hk
     . exact .inl ⟨k,ek,hk,hek,hq⟩
     . have:=zc hk;subst this;rw[he]at hek;obtain rfl:=za hek;exact .inr hq
   . rintro(⟨k,ek,hk,hek,hq⟩|hq)
     . exact⟨k,ek,by simp[a1M,hk],hek,hq⟩
     . exact⟨i,e,by simp[a1M,zl],he,hq⟩
 have hN : ∀ q,MvD es (a1M D i) q->q∉e.N.map (·.1):=by
   intro q hq;rcases(hmv q).1 hq with⟨k,ek,hDk,hek,hqk⟩|hqe
   . intro hin;obtain⟨ok,sk,hk,hok,hsk,hloc,hfr,⟨jf,hjf,hwj⟩,hall⟩:=W.mvs hek hqk;have hw:=(hids q hin).2;obtain⟨τ,hτ,hu⟩:=hloc.mv q hqk;obtain⟨⟨sk',hsk',hMk⟩,_⟩:=a3A W k (by omega);rw[hsk]at hsk';obtain rfl:=za hsk';have hu:(nth sk.ts τ .dead).uses q=true:=hu;rw[hMk.ts]at hu;rcases a5G W (fun j _ hj=>a4w W j hj) hu with h1|⟨j,j',e2,hj,hDj,hjj,he2,hr2⟩
     . exact h1 hfr
     . have hjk:=upto_iff.1 hDj;have ha:=(a4k W hk hok (a0h hτ) hj).1 hjk;have hj'm:j'<m:=by
         rcases hjj with rfl|h
         . exact(a0Z hj).1
         . have:=a6B W.ok h;have:=(a0Z hj).1;omega
       obtain⟨o',ho'⟩:=W.oper hj'm;have h2:=((W.ids hj'm ho' he2).2 q hr2).2;rw[hw]at h2;obtain rfl:=za h2;have hai:Anc ops k i:=by
         rcases hjj with rfl|h
         . exact ha
         . exact .trans ha h
       have:=hc k i hDk hai;rw[hD]at this;cases this
   . rcases hdis with⟨_,hloc,_⟩|⟨_,hN0,_⟩
     . exact(hloc.apart q hqe).2
     . rw[hN0];simp
 have ht : ∀ q,MvD es (a1M D i) q->e.t.uses q=false:=by
   intro q hq;cases hu:e.t.uses q with
   | false=>rfl
   | true =>
     exfalso;rcases hdis with⟨_,hloc,_⟩|⟨_,_,_,ht0⟩
     . rcases hloc.uses q hu with⟨x,hx,hxu⟩|hin
       . rcases(hmv q).1 hq with hq'|hqe
         . obtain⟨τ,rfl⟩:=a3o hxu;have h1:=hnm τ (a0h hx) q hq';rw[hlook τ (a0h hx)]at h1;have hxu:(nth si.ts τ .dead).uses q=true:=hxu;rw[hxu]at h1;cases h1
         . rw[(hloc.apart q hqe).1]at hu;cases hu
       . exact hN q hq hin
     . rw[ht0]at hu;cases hu
 have hsr:∀ τ,nth σr.ts τ .dead=nth s.ts τ .dead∨nth σr.ts τ .dead = .dead:=by
   intro τ;by_cases h:∃ q,MvD es D q/\(nth s.ts τ .dead).uses q=true
   . obtain⟨q,h1,h2⟩:=h;exact .inr (hd.gone τ q h1 h2)
   . refine .inl (hd.keep τ fun q hq=>?_);cases hu:(nth s.ts τ .dead).uses q with
     | false=>rfl
     | true=>exact absurd ⟨q,hq,hu⟩ h
 have hts1:(a2w e.N (a0G e.M σr)).ts=(a0G e.M σr).ts:=by
   refine a8S _ _ fun t ht p hp=>?_;obtain⟨τ,hτ⟩:=zB.1 ht;have hv:nth (a0G e.M σr).ts τ .dead=t:=by rw[a0m,hτ];rfl
   rw[a3s]at hv;split at hv
   . rw[<-hv];rfl
   . rcases hsr τ with h|h
     . rw[h]at hv;cases hu:t.uses p.1 with
       | false=>rfl
       | true =>
         have hm:nth s.ts τ .dead∈s.ts:=b0g (r:=p.1) (by rw[hv];exact hu);have:=hnew _ hm p hp;rw[hv,hu]at this;cases this
     . rw[h]at hv;rw[<-hv];rfl
 have hts2:(a2w e.N s).ts=s.ts:=a8S e.N s hnew;have hlen:d<s.ts.length:=by rw[hM.len,<-W.nlen];exact hdn
 have nthu:∀ (l:List TV) (τ:Nat),nth (upd l d e.t) τ .dead=if d=τ/\d<l.length then e.t else nth l τ .dead:=by
   intro l τ;rw[a0m,a5h,z6,a0m];by_cases h1:d=τ
   . subst h1;by_cases h2:d<l.length
     . simp[h2]
     . simp[h2]
   . simp[h1]
 refine⟨?_,fun τ hk=>?_,fun τ q hq hu=>?_,fun q hq=>?_,fun q hq=>?_⟩
 . simp only[next,hdst,St.put,a5h,yd,hts1,hts2,a5J,hd.len]
 . simp only[next,hdst,St.put,hts1,hts2]at hk ⊢;rw[nthu,nthu];by_cases hτ:d=τ
   . rw[if_pos ⟨hτ,by rw[a5J,hd.len];exact hlen⟩,if_pos ⟨hτ,hlen⟩]
   . rw[if_neg (fun h=>hτ h.1),if_neg (fun h=>hτ h.1),a3s];have hk':∀ q,MvD es (a1M D i) q->(nth s.ts τ .dead).uses q=false:=fun q hq=>by
       have:=hk q hq
       rwa [nthu,if_neg (fun h=>hτ h.1)]at this
     have h1:=hd.keep τ fun q hq=>hk' q ((hmv q).2 (.inl hq));rw[h1,if_neg];intro hua;obtain⟨q,hq,hu⟩:=usesAny_true.1 hua;rw[hk' q ((hmv q).2 (.inr hq))]at hu;cases hu
 . simp only[next,hdst,St.put,hts1,hts2]at hu ⊢;rw[nthu]at hu ⊢;by_cases hτ:d=τ
   . rw[if_pos ⟨hτ,hlen⟩,ht q hq]at hu;cases hu
   . rw[if_neg (fun h=>hτ h.1)]at hu ⊢;rw[a3s];by_cases hg:nth σr.ts τ .dead = .dead
     . rw[hg];simp
     . have h1:nth σr.ts τ .dead=nth s.ts τ .dead:=(hsr τ).resolve_right hg;rcases(hmv q).1 hq with hq'|hqe
       . exact absurd (hd.gone τ q hq' hu) hg
       . rw[h1,if_pos (usesAny_true.2 ⟨q,hqe,hu⟩)]
 . simp only[next,hdst,St.put];rw[a4z _ _ hnd,a4z _ _ hnd,a4Y,if_neg (fun h=>hq ((hmv q).2 (.inr h))),hd.rsK q fun h=>hq ((hmv q).2 (.inl h))]
 . simp only[next,hdst,St.put];rw[a4z _ _ hnd,a4Y];have:rget e.N q=none:=by
     cases hx:rget e.N q with
     | none=>rfl
     | some y=>exact absurd (rget_ids.1 (by rw[hx];simp)) (hN q hq)
   rw[this];rcases(hmv q).1 hq with h|h
   . split
     . rfl
     . simp[hd.rsG q h]
   . simp[h]
end
theorem b1S {i:Nat} {rest:List (Nat×Oper)} {p:Nat×Oper}:p∈outN i rest↔p∈rest/\p.1≠i:=by
 unfold outN;rw[zA];cases hb:zs p.1 i with
 | false =>
   have hne:p.1≠i:=fun e=>by rw[e,zl]at hb;cases hb
   simp[hne]
 | true =>
   have he:=zc hb;simp[he]
theorem a5I {α:Type} {p:α->Bool}:∀ {l:List α},(∀ x∈l,p x=true)->allB p l=true
 | [],_=>rfl
 | x::l,h=>by
   simp only[allB,h x (by simp)];exact a5I fun y hy=>h y (by simp[hy])
theorem a6C {E : Env} {c:Ctx} (hctx:CtxOK P c) {ops:Array Oper} (early:∀ i o,ops.toList[i]? = some o->∀ e∈o.after,Region.binds .any e=true->e.on<i) {k:St->Option R} {r:R} {kv:List (Nat×Value)} (hkp:a1N (kv.map (·.1)) ops.toList=true) :
   ∀ (fuel n:Nat) (rest:List (Nat×Oper)) (listed:Array Bool) (σ:St) (a:Act) (w:World) (G:Nat->RG),(∀ i o,(i,o)∈rest↔ops[i]? = some o/\Dof listed i=false)->listed.size=ops.size->left ops.size listed≤fuel →
     a5o c ops.toList n rest σ k=some r->Rel P E σ a w G->Keep kv a->wpAny P .any ops (a2s P E kv k r) fuel listed a w:=by
 have hgd:∀ (listed:Array Bool) (i:Nat),listed.size=ops.size->i<ops.size->listed.getD i true=Dof listed i:=by
   intro listed i h1 h2;have:i<listed.size:=by omega
   simp[Dof,zd,this]
 have noReady:∀ (listed:Array Bool),listed.size=ops.size->(∀ i,i<ops.size->Dof listed i=true)->Region.ready .any ops listed=[]:=by
   intro listed hl hall;rw[zD];intro i hi;obtain⟨o,ho,h1,_⟩:=ready_iff.1 hi;have hi':=(zg.1 ho).1;rw[hgd listed i hl hi',hall i hi']at h1;cases h1
 have allIn:∀ (listed:Array Bool),(∀ i o,(i,o)∈([]:List (Nat×Oper))↔ops[i]? = some o/\Dof listed i=false)->∀ i,i<ops.size->Dof listed i=true:=by
   intro listed hr i hi;cases hb:Dof listed i with
   | true=>rfl
   | false=>exact absurd ((hr i ops[i]).2 ⟨by simp[hi],hb⟩) (by simp)
 have nil:∀ (n:Nat) (σ:St),a5o c ops.toList n [] σ k=k σ:=fun n σ=>by cases n<;>rfl
 intro fuel;induction fuel with
 | zero =>
   intro n rest listed σ a w G hr hl hf h hrel hkeep;have h0:∀ i,i<ops.size->Dof listed i=true:=by
     intro i hi;have h0:left ops.size listed=0:=by omega
     unfold left at h0;rw[zV]at h0;have:=h0 i (by simpa using hi);simpa[Dof]using this
   cases rest with
   | nil=>rw[nil]at h;exact⟨noReady listed hl h0,rfl,hkeep,σ,G,hrel,h⟩
   | cons p rest =>
     obtain⟨h1,h2⟩:=(hr p.1 p.2).1 (by simp);rw[h0 p.1 (zg.1 h1).1]at h2;cases h2
 | succ fuel ih =>
   intro n rest listed σ a w G hr hl hf h hrel hkeep;cases rest with
   | nil =>
     rw[nil]at h;have h0:=allIn listed hr;refine⟨fun _=>⟨rfl,hkeep,σ,G,hrel,h⟩,fun i hi=>?_⟩;rw[noReady listed hl h0]at hi;cases hi
   | cons p rest =>
     refine⟨fun hnone=>?_,fun i hi=>?_⟩
     . exfalso;obtain⟨h1,h2⟩:=(hr p.1 p.2).1 (by simp);have hall:∀ i,i<ops.size->Dof listed i=true:=by
         intro i;induction i using zR with
         | ind i ihi =>
           intro hi;have ho:ops[i]? = some ops[i]:=by simp[hi]
           cases hb:Dof listed i with
           | true=>rfl
           | false =>
             have:i∈Region.ready .any ops listed:=by
               refine ready_iff.2 ⟨_,ho,by rw[hgd listed i hl hi];exact hb,fun e he hb=>?_⟩;have:=early i _ (by simp[hi]) e he hb;exact ihi e.on this (by omega)
             rw[hnone]at this;cases this
       rw[hall p.1 (zg.1 h1).1]at h2;cases h2
     . obtain⟨o,ho,h1,h2⟩:=ready_iff.1 hi;have hilt:=(zg.1 ho).1;have hDi:Dof listed i=false:=by rw[<-hgd listed i hl hilt];exact h1
       have hin:(i,o)∈p::rest:=(hr i o).2 ⟨ho,hDi⟩;have hrd:b0s (p::rest) o=true:=by
         unfold b0s;refine a5I fun e he=>?_;cases hb:Region.binds .any e with
         | false=>rfl
         | true =>
           simp only[zn];cases hn:hasN ((p::rest).map (·.1)) e.on with
           | false=>rfl
           | true =>
             obtain⟨q,hq,he2⟩:=zx.1 (a0Q hn);have h3:=((hr q.1 q.2).1 hq).2;have h4:Dof listed e.on=true:=h2 e (by simpa using he) hb;rw[he2,h4]at h3;cases h3
       cases n with
       | zero=>cases h
       | succ n =>
         simp only[a5o]at h;have h3:=a3S h _ (zx.2 ⟨(i,o),zA.2 ⟨hin,hrd⟩,rfl⟩);obtain⟨b,σ',hw,hrun,hskip,hrest⟩:=a8W h3;simp only[opsK]at hrest;have hmem:o∈ops.toList:=by
           have:=zw ho;simpa using this
         refine a8u hctx ho hrel hkeep (a1Y hkp o hmem) hw hrun hskip fun a' w' G' hrel' hkeep'=>?_;have hset:∀ x,Dof (listed.setIfInBounds i true) x=a1M (Dof listed) i x:=fun x=>a4M (by omega) x;refine ih n (outN i (p::rest)) _ σ' a' w' G' (fun j oj=>?_) (by simp[hl]) ?_ hrest hrel' hkeep'
         . rw[b1S,hr,hset];simp only[a1M,zQ];constructor
           . rintro⟨⟨h4,h5⟩,h6⟩;refine⟨h4,h5,?_⟩;cases hb:zs j i with
             | false=>rfl
             | true=>exact absurd (zc hb) h6
           . rintro⟨h4,h5,h6⟩;exact⟨⟨h4,h5⟩,fun e=>by subst e;rw[zl]at h6;cases h6⟩
         . have:left ops.size (listed.setIfInBounds i true)<left ops.size listed:=by
             refine a4m (fun x hx hq=>?_) ⟨i,by simpa using hilt,?_,?_⟩
             . have:=hset x;simp only[Dof]at this;rw[this]at hq;simp only[a1M,Dof,yc,zb]at hq;exact hq.1
             . have h3:listed.getD i false=false:=hDi;rw[h3];rfl
             . have:=hset i;simp only[Dof]at this;rw[this];simp[a1M,zl]
           omega
def UpOK (P:Program) (E:Env) (ops:Array Oper) (m:Nat) (es:List Ent) (σ0:St) (kv:List (Nat×Value)) (k:St->Option R) (r:R):Prop :=
 ∀ (fuel:Nat) (listed:Array Bool) (s σr:St) (a:Act) (w:World) (G:Nat->RG) (i:Nat) (o:Oper),left ops.size listed≤fuel+1->listed.size=ops.size->(∀ i,i<ops.size->m≤i->listed.getD i false=false)->a4C ops.toList (Dof listed) →
   Mid ops.toList m es σ0 (Dof listed) s->DelS es (Dof listed) s σr->Rel P E σr a w G->Keep kv a->ops[i]? = some o->m≤i->Dof listed i=false->(∀ x,Anc ops.toList i x->Dof listed x=true)->(∃ j,j<m/\Dof listed j=false) →
   wpOp P ops (a2s P E kv k r) i (wpAny P .any ops (a2s P E kv k r) fuel (listed.setIfInBounds i true)) a w
theorem a7q {E:Env} {ops:Array Oper} {m:Nat} {es:List Ent} {σ0:St} {kv:List (Nat×Value)} {k:St->Option R} {r:R} (hms:m≤ops.size) (h:∀ i j oi oj,ops.toList[i]? = some oi->ops.toList[j]? = some oj->j<m->m≤i->Anc ops.toList i j):UpOK P E ops m es σ0 kv k r:=by
 intro fuel listed s σr a w G i o _ _ _ _ _ _ _ _ ho hmi hDi hA ⟨j,hj,hjf⟩;have hol:ops.toList[i]? = some o:=by simpa using ho
 have:=hA j (h i j o ops[j] hol (by simp[show j<ops.size by omega]) hj hmi);rw[hjf]at this;cases this
theorem b0t {f:Nat->Bool} {q:Nat}:∀ l:List (Nat×Root),rget (l.filter fun p=>f p.1) q=if f q=true then rget l q else none:=by
 intro l;induction l with
 | nil=>simp[rget]
 | cons p l ih =>
   obtain⟨i,x⟩:=p;simp only[z9];by_cases hf:f i=true
   . simp only[hf,if_true,rget];cases hd:zH i q with
     | isTrue h=>subst h;simp[hf]
     | isFalse h=>simp only[];exact ih
   . simp only[hf,rget,ih];cases hd:zH i q with
     | isTrue h=>subst h;simp[hf,ih]
     | isFalse h=>simp[ih]
theorem a5M (all:List Oper) (m:Nat) (U:List Nat) (σ0:St):∀ (l:List TV) (τ:Nat),(a4t all m U σ0 τ l).length=l.length
 | [],_=>rfl
 | t::l,τ=>by simp only[a4t,List.length_cons,a5M all m U σ0 l]
theorem a7X (all:List Oper) (m:Nat) (U:List Nat) (σ0:St):∀ (l:List TV) (τ i:Nat),i<l.length->nth (a4t all m U σ0 τ l) i .dead=if a5Y all m U (τ+i)=true then nth σ0.ts (τ+i) .dead else nth l i .dead
 | [],_,i,h=>by simp at h
 | t::l,τ,0,_=>by
   simp only[a4t,nth,Nat.add_zero];cases a5Y all m U τ<;>simp
 | t::l,τ,i+1,h=>by
   simp only[a4t,nth];rw[a7X all m U σ0 l (τ+1) i (by simpa using h),show τ+1+i=τ+(i+1)by omega]
theorem b4O {c:Ctx} {ops:List Oper} {m n:Nat} {σ0:St} {es:List Ent} {ss:List St} (W:Walk c ops m n σ0 es ss) {U:List Nat} {s:St} (hM:Mid ops m es σ0 (upto m) s):Mid ops m es σ0 (fun i=>!hasN U i) (b1M ops m U σ0 s):=by
 refine⟨by rw[show(b1M ops m U σ0 s).ts=a4t ops m U σ0 0 s.ts from rfl,a5M];exact hM.len,fun τ=>?_,fun q=>?_⟩
 . show nth (a4t ops m U σ0 0 s.ts) τ .dead=_;rcases zv τ s.ts.length with hl|hl
   . rw[a7X _ _ _ _ _ _ _ hl,zS,hM.ts];unfold valD a5Y;cases hw:a1j ops m τ with
     | none=>simp
     | some i =>
       have hi:=(a0Z hw).1;cases hh:hasN U i with
       | true=>simp[hh]
       | false=>simp[hh,upto_iff.2 hi]
   . have h0:∀ l:List TV,l.length≤τ->nth l τ .dead = .dead:=fun l h=>by rw[a0m,zC h];rfl
     have e1:=hM.ts τ;rw[h0 _ hl]at e1;rw[h0 _ (by rw[a5M];exact hl)];unfold valD at e1 ⊢;have e2:nth σ0.ts τ .dead = .dead:=h0 _ (by rw[<-hM.len];exact hl);cases hw:a1j ops m τ with
     | none=>simp only[e2]
     | some i =>
       have hi:=(a0Z hw).1;rw[hw]at e1;simp only[upto_iff.2 hi,if_true]at e1;cases hh:hasN U i with
       | true=>simp[hh,e2]
       | false=>simp only[hh,Bool.not_false,if_true];exact e1
 . show rget (s.rs.filter fun p=>!a5Y ops m U (p.1/4)||(rget σ0.rs p.1).isSome) q=_;rw[b0t (f:=fun x=>!a5Y ops m U (x/4)||(rget σ0.rs x).isSome),hM.rs];unfold a9r a5Y;cases hw:a1j ops m (q/4)with
   | none=>simp
   | some i =>
     obtain⟨hi,oi,hoi,_⟩:=a0Z hw;obtain⟨e,_,he,_⟩:=W.run i oi hi hoi;simp only[upto_iff.2 hi,if_true,he];cases hh:hasN U i with
     | false=>simp
     | true =>
       simp only[Bool.not_true,zO,zi,if_false];cases h0:rget σ0.rs q with
       | none=>simp
       | some x =>
         have:rget e.N q=none:=by
           cases hx:rget e.N q with
           | none=>rfl
           | some y=>have:=((W.ids hi hoi he).2 q (rget_ids.1 (by rw[hx];simp))).1;rw[h0]at this;cases this
         simp[this]
theorem a5y {α:Type}:∀ (l:List α) (n i:Nat),(numb n l)[i]? = l[i]?.map fun x=>(n+i,x):=by
 intro l;induction l with
 | nil=>intro n i;simp[numb]
 | cons x l ih =>
   intro n i;cases i with
   | zero=>simp[numb]
   | succ i=>simp only[numb,zF,ih];congr 1;funext y;congr 1;omega
theorem a9o {ops:Array Oper} {m:Nat} {U:List Nat} {i:Nat} {o:Oper}:(i,o)∈b3Y ops.toList m U↔ops[i]? = some o/\(i∈U∨m≤i):=by
 unfold b3Y;rw[zA];have h1:(i,o)∈numb 0 ops.toList↔ops[i]? = some o:=by
   rw[zB];constructor
   . rintro⟨j,hj⟩;rw[a5y]at hj;simp only[Option.map_eq_some_iff,zI]at hj;obtain⟨x,h1,h2,rfl⟩:=hj;rw[zS]at h2;subst h2
     rwa [zh]at h1
   . intro h;exact⟨i,by rw[a5y,zh,h];simp⟩
 rw[h1];simp only[zf];constructor
 . rintro⟨h2,h3|h3⟩
   . exact⟨h2,.inl (a0Q h3)⟩
   . exact⟨h2,.inr (zk h3)⟩
 . rintro⟨h2,h3|h3⟩
   . exact⟨h2,.inl (a3q h3)⟩
   . exact⟨h2,.inr (zu h3)⟩
theorem b4K {N:Nat} {listed:Array Bool} {i:Nat} (hi:i<N) (hl:listed.size=N) (hD:Dof listed i=false):left N (listed.setIfInBounds i true)<left N listed:=by
 have hset:∀ x,Dof (listed.setIfInBounds i true) x=a1M (Dof listed) i x:=fun x=>a4M (by omega) x;refine a4m (fun x hx hq=>?_) ⟨i,by simpa using hi,?_,?_⟩
 . have:=hset x;simp only[Dof]at this;rw[this]at hq;simp only[a1M,Dof,yc,zb]at hq;exact hq.1
 . have h3:listed.getD i false=false:=hD;rw[h3];rfl
 . have:=hset i;simp only[Dof]at this;rw[this];simp[a1M,zl]
theorem b5v {E:Env} {c:Ctx} (hctx:CtxOK P c) {ops:Array Oper} {m n:Nat} {σ0:St} {es:List Ent} {ss:List St} (W:Walk c ops.toList m n σ0 es ss) {k:St->Option R} {r:R} {kv:List (Nat×Value)} (hkp:a1N (kv.map (·.1)) ops.toList=true)
   {σm:St} (hσm:ss[m]? = some σm) (hstr:∀ i j oi oj,ops.toList[i]? = some oi->ops.toList[j]? = some oj->j<i->m<i->Anc ops.toList i j) (hM0:∀ e∈es,e.M=[])
   (hmid:∀ U∈(a2D (a2e ops.toList m)).filter (okU ops.toList m),midK c ops.toList m U σ0 σm k=some r):UpOK P E ops m es σ0 kv k r:=by
 intro fuel listed s σr a w G i o hf hl ht hc hM hdel hrel hkeep ho hmi hDi hA ⟨j0,hj0,hj0f⟩;have hilt:=(zg.1 ho).1;have hol:ops.toList[i]? = some o:=by simpa using ho
 have him:i=m:=by
   rcases zv m i with h|h
   . have:=hA m (hstr i m o ops[m] hol (by simp[show m<ops.size by omega]) h h);have h3:Dof listed m=false:=ht m (by omega) (zz _);rw[h3]at this;cases this
   . omega
 subst him;have hanc:∀ i a,hasN (nth (ancT ops.toList []) i []) a=true->Anc ops.toList i a:=fun i a h=>a2v ops.toList ops.toList [] ⟨[],rfl,rfl⟩ (fun i a ha=>by simp[nth]at ha) i a (a0Q h);have hU:∀ x,x<i->(x∈(a2e ops.toList i).filter (fun j=>!Dof listed j)↔Dof listed x=false):=by
   intro x hx;rw[zA];constructor
   . rintro⟨_,h⟩;simpa using h
   . intro h;refine⟨?_,by simp[h]⟩;unfold a2e;rw[zA];refine⟨by simpa using hx,?_⟩;cases hb:hasN (nth (ancT ops.toList []) i []) x with
     | false=>rfl
     | true=>have:=hA x (hanc i x hb);rw[h]at this;cases this
 have hlt:∀ x∈(a2e ops.toList i).filter (fun j=>!Dof listed j),x<i:=by
   intro x hx;have:=(zA.1 hx).1;unfold a2e at this;simpa using(zA.1 this).1
 generalize hUe:(a2e ops.toList i).filter (fun j=>!Dof listed j)=U at hU hlt;have hhas:∀ x,x<i->(!hasN U x)=Dof listed x:=by
   intro x hx;cases hD:Dof listed x with
   | false=>rw[a3q ((hU x hx).2 hD)];rfl
   | true =>
     cases hb:hasN U x with
     | false=>rfl
     | true=>have:=(hU x hx).1 (a0Q hb);rw[hD]at this;cases this
 have hin:U∈(a2D (a2e ops.toList i)).filter (okU ops.toList i):=by
   rw[zA];refine⟨by rw[<-hUe];exact a3p _ _,?_⟩;unfold okU;refine a5I fun x hx=>?_;have hx:x<i:=by simpa using hx
   cases hb:hasN U x with
   | true=>rfl
   | false =>
     have hDx:Dof listed x=true:=by rw[<-hhas x hx,hb];rfl
     rw[zO];refine a5I fun y hy=>?_;have hA2:=hanc x y (a3q hy);have hDy:=hc x y hDx hA2;have hyx:=a6B W.ok hA2;rw[hhas y (by omega)];exact hDy
 have hm:=hmid U hin;have hU0:=(hU j0 hj0).2 hj0f;unfold midK at hm;cases U with
 | nil=>cases hU0
 | cons u us =>
   simp only[]at hm;have hnth:nth (ops.toList.map some) i none=some o:=by rw[a0m,zE,hol];rfl
   rw[hnth]at hm;simp only[]at hm;obtain⟨b,σ',hw,hrun,hskip,hrest⟩:=a8W hm;simp only[opsK]at hrest;obtain⟨⟨s',hs',hM'⟩,_⟩:=a3A W i (zz _);rw[hσm]at hs';rw[<-za hs']at hM';have hM2:=a4u (b4O W (U:=u::us) hM') (D':=Dof listed) fun x hx=>hhas x hx;obtain⟨e1,e2⟩:=b5G hM hM2;have noMv:∀ D q,¬ MvD es D q:=by
     rintro D q ⟨k,e,_,h2,h3⟩;rw[hM0 e (z0 h2)]at h3;cases h3
   have e3:σr.ts=s.ts:=b5O hdel.len fun τ=>hdel.keep τ fun q hq=>absurd hq (noMv _ q);have e4:∀ q,rget σr.rs q=rget s.rs q:=fun q=>hdel.rsK q (noMv _ q);have hrel2:Rel P E (b1M ops.toList i (u::us) σ0 σm) a w G:=a9i hrel (by rw[e1,e3]) fun q=>by rw[e2,e4]
   have hmem:o∈ops.toList:=by
     have:=zw ho;simpa using this
   refine a8u hctx ho hrel2 hkeep (a1Y hkp o hmem) hw hrun hskip fun a' w' G' hrel' hkeep'=>?_;refine a6C hctx W.ok.early hkp fuel _ _ _ σ' a' w' G' (fun x ox=>?_) (by simp[hl]) ?_ hrest hrel' hkeep'
   . rw[b1S,a9o,a4M (by omega)];simp only[a1M,zQ];constructor
     . rintro⟨⟨h4,h5⟩,h6⟩;refine⟨h4,?_,?_⟩
       . rcases h5 with h5|h5
         . exact(hU x (hlt x h5)).1 h5
         . exact ht x (zg.1 h4).1 h5
       . cases hb:zs x i with
         | false=>rfl
         | true=>exact absurd (zc hb) h6
     . rintro⟨h4,h5,h6⟩;refine⟨⟨h4,?_⟩,fun e=>by subst e;rw[zl]at h6;cases h6⟩;rcases zv x i with h|h
       . exact .inl ((hU x h).2 h5)
       . exact .inr h
   . have:=b4K hilt hl hDi;omega
theorem b4z {E : Env} {c:Ctx} (hctx:CtxOK P c) {ops:Array Oper} {m n:Nat} {σ0:St} {es:List Ent} {ss:List St} (W:Walk c ops.toList m n σ0 es ss) {k:St->Option R} {r:R} {kv:List (Nat×Value)} (hkp:a1N (kv.map (·.1)) ops.toList=true)
   {σm:St} (hσm:ss[m]? = some σm) {mvn:List Nat} (hmvn:∀ q,q∈mvn↔∃ (j:Nat) (e:Ent),es[j]? = some e/\q∈e.M) (htail:∀ (fuel:Nat) (listed:Array Bool) (a:Act) (w:World) (G:Nat->RG),ops.size-m≤fuel->listed.size=ops.size->(∀ i,i<ops.size->listed.getD i false=ze i m)->Rel P E (a0G mvn σm) a w G->Keep kv a->wpAny P .any ops (a2s P E kv k r) fuel listed a w) (hup:UpOK P E ops m es σ0 kv k r) :
   ∀ (fuel:Nat) (listed:Array Bool) (s σr:St) (a:Act) (w:World) (G:Nat->RG),left ops.size listed≤fuel->listed.size=ops.size->(∀ i,i<ops.size->m≤i->listed.getD i false=false)->a4C ops.toList (Dof listed) →
     Mid ops.toList m es σ0 (Dof listed) s->DelS es (Dof listed) s σr->Rel P E σr a w G->Keep kv a->wpAny P .any ops (a2s P E kv k r) fuel listed a w:=by
 have hms:m≤ops.size:=by simpa using W.mle
 have hgd:∀ (listed:Array Bool) (i:Nat),listed.size=ops.size->i<ops.size->listed.getD i true=listed.getD i false:=by
   intro listed i h1 h2;have:i<listed.size:=by omega
   simp[zd,this]
 have full:∀ (fuel:Nat) (listed:Array Bool) (s σr:St) (a:Act) (w:World) (G:Nat->RG),left ops.size listed≤fuel->listed.size=ops.size->(∀ i,i<ops.size->m≤i->listed.getD i false=false) →
     (∀ i,i<m->listed.getD i false=true)->Mid ops.toList m es σ0 (Dof listed) s->DelS es (Dof listed) s σr->Rel P E σr a w G->Keep kv a->wpAny P .any ops (a2s P E kv k r) fuel listed a w:=by
   intro fuel listed s σr a w G hf hl ht hall hM hdel hrel hkeep;obtain⟨⟨s',hs',hM'⟩,_⟩:=a3A W m (zz _);rw[hσm]at hs';rw[<-za hs']at hM';clear hs';have hM2:Mid ops.toList m es σ0 (upto m) s:=a4u hM fun i hi=>by rw[upto_iff.2 hi];exact hall i hi
   obtain⟨e1,e2⟩:=b5G hM2 hM';have hmv:∀ q,MvD es (Dof listed) q↔q∈mvn:=fun q=>by
     rw[hmvn];exact⟨fun⟨k,e,_,h1,h2⟩=>⟨k,e,h1,h2⟩,fun⟨k,e,h1,h2⟩=>⟨k,e,hall k (W.elen k e h1),h1,h2⟩⟩
   have e3:(a0G mvn σm).ts=σr.ts:=by
     refine b5O (by rw[a5J,e1,hdel.len]) fun τ=>?_;rw[a3s,e1];by_cases hu:a1h mvn (nth s.ts τ .dead)=true
     . rw[if_pos hu];obtain⟨q,hq,hu⟩:=usesAny_true.1 hu;exact(hdel.gone τ q ((hmv q).2 hq) hu).symm
     . rw[if_neg hu];refine(hdel.keep τ fun q hq=>?_).symm;cases hx:(nth s.ts τ .dead).uses q with
       | false=>rfl
       | true=>exact absurd (usesAny_true.2 ⟨q,(hmv q).1 hq,hx⟩) hu
   have e4:∀ q,rget (a0G mvn σm).rs q=rget σr.rs q:=fun q=>by
     rw[a4Y,e2];by_cases hq:q∈mvn
     . rw[if_pos hq];exact(hdel.rsG q ((hmv q).2 hq)).symm
     . rw[if_neg hq];exact(hdel.rsK q fun h=>hq ((hmv q).1 h)).symm
   have hcnt:ops.size-m≤fuel:=by
     refine Nat.le_trans ?_ hf;unfold left;have hsplit:zJ ops.size=zJ m++(zJ (ops.size-m)).map (m+·):=by
       rw[<-List.range_add];congr 1;omega
     rw[hsplit,List.countP_append,List.countP_map];have:(zJ (ops.size-m)).countP ((fun i=>!listed.getD i false)∘(m+·))=(zJ (ops.size-m)).length:=by
       rw[List.countP_eq_length];intro x hx;simp only[yf]at hx;simp only[Function.comp];rw[ht (m+x) (by omega) (by omega)];rfl
     rw[this];simp
   refine htail fuel listed a w G hcnt hl (fun i hi=>?_) (a9i hrel e3 e4) hkeep;by_cases him:i<m
   . rw[hall i him];exact(upto_iff.2 him).symm
   . rw[ht i hi (by omega)];cases hb:ze i m with
     | false=>rfl
     | true=>exact absurd (upto_iff.1 hb) him
 intro fuel;induction fuel with
 | zero =>
   intro listed s σr a w G hf hl ht hc hM hdel hrel hkeep;refine full 0 listed s σr a w G hf hl ht (fun i hi=>?_) hM hdel hrel hkeep;have h0:left ops.size listed=0:=by omega
   unfold left at h0;rw[zV]at h0;have:=h0 i (by simp;omega);simpa using this
 | succ fuel ih =>
   intro listed s σr a w G hf hl ht hc hM hdel hrel hkeep;by_cases hall:∀ i,i<m->listed.getD i false=true
   . exact full (fuel+1) listed s σr a w G hf hl ht hall hM hdel hrel hkeep
   ·
     have hex:∃ i,i<m/\listed.getD i false=false/\∀ j,j<i->listed.getD j false=true:=by
       have h1:∃ i,i<m/\listed.getD i false=false:=by
         refine Classical.byContradiction fun hn=>hall fun i hi=>?_;cases hg:listed.getD i false with
         | true=>rfl
         | false=>exact absurd ⟨i,hi,hg⟩ hn
       have h2 : ∀ N i,i<N->i<m->listed.getD i false=false->∃ i,i<m/\listed.getD i false=false/\∀ j,j<i->listed.getD j false=true:=by
         intro N;induction N with
         | zero=>intro i hi;omega
         | succ N ihN =>
           intro i hiN him hif;by_cases hj:∀ j,j<i->listed.getD j false=true
           . exact⟨i,him,hif,hj⟩
           . have:∃ j,j<i/\listed.getD j false=false:=by
               refine Classical.byContradiction fun hn=>hj fun j hj=>?_;cases hg:listed.getD j false with
               | true=>rfl
               | false=>exact absurd ⟨j,hj,hg⟩ hn
             obtain⟨j,hj1,hj2⟩:=this;exact ihN j (by omega) (by omega) hj2
       obtain⟨i,hi,hif⟩:=h1;exact h2 (i+1) i (by omega) hi hif
     refine⟨fun hr=>?_,fun i hi=>?_⟩
     . exfalso;obtain⟨i,him,hif,hlow⟩:=hex;have his:i<ops.size:=by omega
       have:i∈Region.ready .any ops listed:=ready_iff.2 ⟨ops[i],by simp[his],by rw[hgd listed i hl his];exact hif,fun e he hb=>hlow _ (W.ok.early i ops[i] (by simp[his]) e he hb)⟩;rw[hr]at this;cases this
     . obtain⟨o,ho,h1,h2⟩:=ready_iff.1 hi;have hilt:i<ops.size:=by
         rcases zv i ops.size with h|h
         . exact h
         . rw[zt h]at ho;cases ho
       have hol:ops.toList[i]? = some o:=by simpa using ho
       have hanc:∀ x y,x=i->Anc ops.toList x y->Dof listed y=true:=by
         intro x y hx hxy;induction hxy with
         | @edge x o' e ho' he hb =>
           subst hx;rw[hol]at ho';obtain rfl:=za ho';exact h2 e he hb
         | trans h3 h4 ih3 ih4=>exact hc _ _ (ih3 hx) h4
       have hDi:Dof listed i=false:=by
         show listed.getD i false=false;rw[<-hgd listed i hl hilt];exact h1
       by_cases him:i<m
       rotate_left
       . obtain⟨j,hjm,hjf,_⟩:=hex;exact hup fuel listed s σr a w G i o hf hl ht hc hM hdel hrel hkeep ho (by omega) hDi (fun x hx=>hanc i x rfl hx) ⟨j,hjm,hjf⟩
       obtain⟨e,si,he,hsi,hn,mvd,hok,-⟩:=W.run i o him hol;obtain⟨hlook,hagree⟩:=a6w W hc hM him hol hsi hDi fun x hx=>hanc i x rfl hx;have hnm:=a9Q W hc hM him hol hDi fun x hx=>hanc i x rfl hx;have hdel':=b4A W hc hM hdel him hol he hDi fun x hx=>hanc i x rfl hx;have hlookr:∀ τ∈a0b ops.toList o,nth σr.ts τ .dead=nth si.ts τ .dead:=fun τ hτ=>by rw[hdel.keep τ (hnm τ hτ),hlook τ hτ]
       have hagreer:Agree o si σr:=by
         refine⟨fun x hx=>?_,fun x hx q hq=>?_⟩
         . cases x with
           | tmp τ=>exact hlookr τ (a0h hx)
           | _=>rfl
         . rw[<-hagree.rs x hx q hq];obtain⟨τ,rfl⟩:=a3o hq;refine hdel.rsK q fun hmv=>?_;have:=hnm τ (a0h hx) q hmv;rw[hlook τ (a0h hx)]at this;have hq:(nth si.ts τ .dead).uses q=true:=hq;rw[hq]at this;cases this
       have hM':=b1N W hc (fun j _ hj=>a4w W j hj) hM him hol he hDi;have hmem:o∈ops.toList:=by
         have:=zw ho;simpa using this
       have hset:∀ x,Dof (listed.setIfInBounds i true) x=a1M (Dof listed) i x:=fun x=>a4M (by omega) x;refine a8u hctx ho hrel hkeep (a1Y hkp o hmem) (b:=e.w) (by rw[b1w hlookr];exact hok.1) (σ':=(a2w e.N (a0G e.M σr)).put o.dst e.t) (fun hb=>?_) (fun hb=>?_) fun a' w' G' hrel' hkeep'=>?_
       . rcases hok.2.2 with⟨_,hloc,_⟩|⟨hw,_⟩
         . exact hloc.step σr hagreer some
         . rw[hb]at hw;cases hw
       . rcases hok.2.2 with⟨hw,_⟩|⟨_,hN,hM0,ht'⟩
         . rw[hb]at hw;cases hw
         . simp only[hN,hM0,ht',a2w,a0G]
       . refine ih _ _ _ a' w' G' ?_ (by simpa using hl) (fun x hx hmx=>?_) (fun x y hx hxy=>?_) (a4u hM' fun x _=>(hset x).symm) (b1u hdel' fun x _=>(hset x).symm) hrel' hkeep'
         . have:left ops.size (listed.setIfInBounds i true)<left ops.size listed:=by
             refine a4m (fun x hx hq=>?_) ⟨i,by simpa using hilt,?_,?_⟩
             . have:=hset x;simp only[Dof]at this;rw[this]at hq;simp only[a1M,Dof,yc,zb]at hq;exact hq.1
             . have h3:listed.getD i false=false:=hDi;rw[h3];rfl
             . have:=hset i;simp only[Dof]at this;rw[this];simp[a1M,zl]
           omega
         . have:=hset x;simp only[Dof]at this;rw[this];simp only[a1M,Dof,ht x hx hmx,zO];cases hb:zs x i with
           | false=>rfl
           | true=>have:=zc hb;omega
         . rw[hset]at hx ⊢;simp only[a1M,zf]at hx ⊢;rcases hx with hx|hx
           . exact .inl (hc x y hx hxy)
           . exact .inl (hanc x y (zc hx) hxy)
end Go.Vm
end
section
namespace Go.Vm
variable {P:Program}
theorem a8y {α:Type} {p:α->Bool} {l:List α} (h:b4p p l=true):∃ x∈l,p x=true:=by
 unfold b4p at h;induction l with
 | nil=>simp[allB]at h
 | cons x l ih =>
   simp only[allB]at h;cases hx:p x with
   | true=>exact⟨x,by simp,hx⟩
   | false =>
     rw[hx]at h;obtain⟨y,h1,h2⟩:=ih h;exact⟨y,by simp[h1],h2⟩
inductive FloatK (a:Act) (o:Oper):Prop
 | mv (x:Operand) (h:o.op = .move x)
 | ex (t:Operand) (i:Nat) (h:o.op = .extract t i)
 | add (T:TypeId) (x y:Operand) (b:TypeId) (h:o.op = .binOp .add T x y b) (hx:∃ k n,a.eval x = .int k n) (hy:∃ k n,a.eval y = .int k n)
theorem b3v {a:Act} {o:Oper} (h:FloatK a o) {w w':World} {n:Next} (hr:(execOp a.eval o).run P w = .ok n w'):w'=w/\∃ v,n = .value v/\∀ w2,(execOp a.eval o).run P w2 = .ok (.value v) w2:=by
 cases h with
 | mv x ho =>
   simp only[execOp,ho,Sem.run_pure,Result.ok.injEq]at hr ⊢;obtain⟨rfl,rfl⟩:=hr;exact⟨rfl,_,rfl,fun w2=>⟨rfl,trivial⟩⟩
 | ex t ix ho =>
   simp only[execOp,ho]at hr ⊢;cases hv:a.eval t with
   | tuple vs =>
     simp only[hv,Instr.extract]at hr ⊢;cases hx:vs[ix]? with
     | some v =>
       simp[hx]at hr ⊢;exact⟨hr.2.symm,hr.1.symm⟩
     | none=>simp[hx]at hr
   | _=>simp[hv,Instr.extract]at hr
 | add T x y b ho hx hy =>
   obtain⟨k1,n1,hx⟩:=hx;obtain⟨k2,n2,hy⟩:=hy;simp only[execOp,ho,eqGuard]at hr ⊢;simp[hx,hy,Go.binOp]at hr ⊢;by_cases hk:k1=k2
   . simp[hk,Op.intArith]at hr ⊢;exact⟨hr.2.symm,hr.1.symm⟩
   . simp[hk]at hr
structure Floats (ops ops':Array Oper) (Fl:Nat->Bool) (X:Nat->Nat->Prop) (S:Nat->Prop) (n:Nat):Prop where
 size:ops'.size=ops.size
 same:∀ (i:Nat) (o:Oper),ops[i]? = some o->∃ af:Array Edge,ops'[i]? = some ⟨o.dst,o.op,o.type,o.pos,af,o.guard⟩/\(∀ e∈o.after,e∈af)/\∀ e∈af,Region.binds .any e=true->e∈o.after∨X i e.on
 x:∀ i f,X i f->Fl f=true/\f<i/\∀ o:Oper,ops[f]? = some o->∀ e∈o.after,Region.binds .any e=true->X i e.on∨Anc ops.toList i e.on
 fl:∀ i,Fl i=true->∃ o:Oper,ops[i]? = some o
 gd:∀ (i:Nat) (o:Oper),Fl i=true->ops[i]? = some o->o.guard=none/\∃ d:Nat,o.dst=some d/\d<n
 kind:∀ (i:Nat) (o:Oper),Fl i=true->ops[i]? = some o->(∃ x,o.op = .move x)∨(∃ t ix,o.op = .extract t ix)∨∃ T x y b,o.op = .binOp .add T x y b/\∀ z,(z=x∨z=y)->∃ (d j:Nat) (oj:Oper) (τ:Nat),z = .tmp d/\ops[j]? = some oj/\Fl j=true/\oj.op = .move (.tmp τ)/\S τ/\oj.dst=some d/\∃ e∈o.after,Region.binds .any e=true/\e.on=j
 stab:∀ (i:Nat) (o:Oper) (τ:Nat),ops[i]? = some o->S τ->o.dst≠some τ
 early:∀ (i:Nat) (o:Oper),ops[i]? = some o->∀ e∈o.after,Region.binds .any e=true->e.on<i
 sel:∀ (i:Nat) (o:Oper),ops[i]? = some o->∀ cs b,o.op ≠ .select cs b
 self:∀ (f:Nat) (o:Oper) (d:Nat),Fl f=true->ops[f]? = some o->o.dst=some d->d∉o.looksAt ops
 apart:∀ (f:Nat) (o:Oper) (d:Nat),Fl f=true->ops[f]? = some o->o.dst=some d->∀ (i:Nat) (oi:Oper),ops[i]? = some oi->i≠f->oi.dst≠some d/\(d∈oi.looksAt ops->Anc ops.toList i f)
 back:∀ (f:Nat) (o:Oper),Fl f=true->ops[f]? = some o->∀ (i:Nat) (oi:Oper) (d:Nat),ops[i]? = some oi->i≠f->oi.dst=some d->d∈o.looksAt ops->Anc ops.toList f i∨Anc ops.toList i f
structure Pend (P:Program) (ops:Array Oper) (Fl:Nat->Bool) (S:Nat->Prop) (n:Nat) (L Lp:Array Bool) (a ap:Act):Prop where
 s1:L.size=ops.size
 s2:Lp.size=ops.size
 sub:∀ i,Dof L i=true->Dof Lp i=true
 pend:∀ i,Dof Lp i=true->Dof L i=false->Fl i=true
 clo:∀ (i:Nat) (o:Oper),ops[i]? = some o->Dof L i=true->∀ e∈o.after,Region.binds .any e=true->Dof L e.on=true
 cloP:∀ (i:Nat) (o:Oper),ops[i]? = some o->Dof Lp i=true->∀ e∈o.after,Region.binds .any e=true->Dof Lp e.on=true
 val:∀ (i:Nat) (o:Oper),ops[i]? = some o->Dof Lp i=true->Dof L i=false->∃ v,(∀ w,(execOp ap.eval o).run P w = .ok (.value v) w)/\ap.put o.dst v=ap
 tm:∀ τ,(∀ (i:Nat) (o:Oper),ops[i]? = some o->Dof Lp i=true->Dof L i=false->o.dst≠some τ)->ap.tmps[τ]? = a.tmps[τ]?
 sz:ap.tmps.size=a.tmps.size
 sn:n≤a.tmps.size
 df:ap.defers=a.defers
 st:∀ τ,S τ->∃ k z,ap.eval (.tmp τ) = .int k z
 mv:∀ (i:Nat) (o:Oper) (τ d:Nat),ops[i]? = some o->Fl i=true->Dof Lp i=true->o.op = .move (.tmp τ)->S τ->o.dst=some d->∃ k z,ap.eval (.tmp d) = .int k z
section
variable {ops ops':Array Oper} {Fl:Nat->Bool} {X:Nat->Nat->Prop} {S:Nat->Prop} {n:Nat}
theorem a6A {L:Array Bool} (hclo:∀ (i:Nat) (o:Oper),ops[i]? = some o->Dof L i=true->∀ e∈o.after,Region.binds .any e=true->Dof L e.on=true) {i a:Nat} (k:Anc ops.toList i a) :
   (∀ o:Oper,ops[i]? = some o->∀ e∈o.after,Region.binds .any e=true->Dof L e.on=true)->Dof L a=true:=by
 induction k with
 | edge ho he hb=>intro h;exact h _ (by simpa using ho) _ he hb
 | trans h1 h2 ih1 ih2=>intro h;exact ih2 fun o ho=>hclo _ o ho (ih1 h)
theorem a2F (a:Act) (d:Nat) (v:Value) (τ:Nat):(a.put (some d) v).tmps[τ]? = if d=τ then(if d<a.tmps.size then some v else none)else a.tmps[τ]? := by
 simp only[Act.put,zU]
theorem a2f (a:Act) (d:Option Nat) (v:Value):(a.put d v).tmps.size=a.tmps.size:=by
 cases d<;>simp[Act.put]
theorem a3v (a:Act) (d:Option Nat) (v:Value):(a.put d v).defers=a.defers:=by
 cases d<;>rfl
theorem b4F (a:Act) (d:Option Nat) (v:Value):(a.put d v).put d v=a.put d v:=by
 cases d with
 | none=>rfl
 | some d=>simp[Act.put,Array.setIfInBounds_setIfInBounds]
theorem a9G {a b:Act} {τ:Nat} (h:a.tmps[τ]? = b.tmps[τ]?):a.eval (.tmp τ)=b.eval (.tmp τ):=by
 simp only[Act.eval,zd,h]
theorem a1n (a:Act) {d:Option Nat} (v:Value) {τ:Nat} (h:d≠some τ):(a.put d v).eval (.tmp τ)=a.eval (.tmp τ):=by
 cases d with
 | none=>rfl
 | some d=>exact a9G (by rw[a2F,if_neg fun e=>h (by rw[e])])
theorem a8I (a:Act) {d:Nat} (v:Value) (h:d<a.tmps.size):(a.put (some d) v).eval (.tmp d)=v:=by
 have:=a2F a d v d;rw[if_pos rfl,if_pos h]at this;simp only[Act.eval,zd,this,zp]
theorem b2U (F:Floats ops ops' Fl X S n) {a b:Act} {o:Oper} (hsel:∀ cs b,o.op ≠ .select cs b) (h:∀ τ∈o.looksAt ops,a.tmps[τ]? = b.tmps[τ]?) :
   execOp a.eval o=execOp b.eval o/\Region.wanted o (yielded ops a.tmps)=Region.wanted o (yielded ops b.tmps):=by
 refine⟨execOp_congr o hsel fun x hx=>?_,?_⟩
 . cases x with
   | tmp τ=>exact a9G (h τ (z1 _ (z3.2 ⟨.tmp τ,by simpa using hx,rfl⟩)))
   | _=>rfl
 . unfold Region.wanted;cases hg:o.guard with
   | none=>rfl
   | some gw =>
     obtain⟨g,want⟩:=gw;have:yielded ops a.tmps g=yielded ops b.tmps g:=by
       unfold yielded;cases ht:(ops[g]?).bind (·.dst)with
       | none=>rfl
       | some t=>simp only[zK];rw[h t (by simp[Oper.looksAt,hg,ht])]
     simp only[this]
theorem b0H (F:Floats ops ops' Fl X S n) (t:Array Value):yielded ops' t=yielded ops t:=by
 funext g;unfold yielded;have:(ops'[g]?).bind (·.dst)=(ops[g]?).bind (·.dst):=by
   cases ho:ops[g]? with
   | none =>
     have:ops'[g]? = none:=by
       rw[Array.getElem?_eq_none_iff]at ho ⊢;rw[F.size];exact ho
     rw[this]
   | some o=>obtain⟨af,h,_⟩:=F.same g o ho;rw[h];rfl
 rw[this]
theorem a0L {L:Array Bool} {i j:Nat} (hi:i<L.size):Dof (L.setIfInBounds i true) j=true↔Dof L j=true∨j=i:=by
 rw[a4M hi];simp only[a1M,zf];exact⟨fun h=>h.imp id fun h=>zc h,fun h=>h.imp id fun h=>by rw[h];exact zl _⟩
theorem a3m {L:Array Bool} {i j:Nat} (hi:i<L.size):Dof (L.setIfInBounds i true) j=false↔Dof L j=false/\j≠i:=by
 have:=a0L (L:=L) (i:=i) (j:=j) hi;cases h1:Dof (L.setIfInBounds i true) j<;>cases h2:Dof L j<;>simp_all
theorem Pend.ahead (F:Floats ops ops' Fl X S n) {L Lp:Array Bool} {a ap:Act} (p:Pend P ops Fl S n L Lp a ap) {f:Nat} {o:Oper} (hf:Fl f=true) (ho:ops[f]? = some o) (hL:Dof Lp f=false)
   (hed:∀ e∈o.after,Region.binds .any e=true->Dof Lp e.on=true) {v:Value} (w0:World) (hv:∀ w,(execOp ap.eval o).run P w = .ok (.value v) w):Pend P ops Fl S n L (Lp.setIfInBounds f true) a (ap.put o.dst v):=by
 obtain⟨hg,d,hd,hdn⟩:=F.gd f o hf ho;have hfs:f<Lp.size:=by rw[p.s2];exact(zg.1 ho).1
 have hLf:Dof L f=false:=by
   cases h:Dof L f with
   | false=>rfl
   | true=>rw[p.sub f h]at hL;cases hL
 have other:∀ i oi,ops[i]? = some oi->i≠f->Dof Lp i=true->d∉oi.looksAt ops:=fun i oi hi hne hl hdl=>by
   have:=a6A (L:=Lp) p.cloP ((F.apart f o d hf ho hd i oi hi hne).2 hdl) fun o' ho'=>p.cloP i o' ho' hl;rw[hL]at this;cases this
 have odst:∀ i oi,ops[i]? = some oi->i≠f->oi.dst≠some d:=fun i oi hi hne=>(F.apart f o d hf ho hd i oi hi hne).1;refine⟨p.s1,by simp[p.s2],fun i h=>(a0L hfs).2 (.inl (p.sub i h)),fun i h h2=>?_,p.clo,fun i oi hi h e he hb=>?_,fun i oi hi h h2=>?_,fun τ h=>?_,by rw[a2f,p.sz],p.sn,by rw[a3v,p.df],fun τ h=>?_,fun i oi τ d' hi hfl h ho' hs hd'=>?_⟩
 . rcases(a0L hfs).1 h with h|rfl
   . exact p.pend i h h2
   . exact hf
 . rcases(a0L hfs).1 h with h|rfl
   . exact(a0L hfs).2 (.inl (p.cloP i oi hi h e he hb))
   . rw[ho]at hi;obtain rfl:=za hi;exact(a0L hfs).2 (.inl (hed e he hb))
 . by_cases hne:i=f
   . subst hne;rw[ho]at hi;obtain rfl:=za hi;exact⟨v,fun w=>by rw[execOp_put (ops:=ops) o (F.sel i o ho) ap o.dst v fun d' hd'=>F.self i o d' hf ho hd'];exact hv w,b4F _ _ _⟩
   . rcases(a0L hfs).1 h with h|rfl
     . obtain⟨u,h3,h4⟩:=p.val i oi hi h h2;refine⟨u,fun w=>?_,?_⟩
       . rw[execOp_put (ops:=ops) oi (F.sel i oi hi) ap o.dst v fun d' hd'=>?_]
         . exact h3 w
         . rw[hd]at hd';obtain rfl:=za hd';exact other i oi hi hne h
       . rw[Act.put_comm ap v u fun d' hd'=>?_,h4];rw[hd]at hd';obtain rfl:=za hd';exact odst i oi hi hne
     . exact absurd rfl hne
 . have h1:d≠τ:=fun e=>h f o ho ((a0L hfs).2 (.inr rfl)) hLf (by rw[hd,e]);rw[hd,a2F,if_neg h1];exact p.tm τ fun i oi hi hl hl2=>h i oi hi ((a0L hfs).2 (.inl hl)) hl2
 . rw[a1n _ _ (F.stab f o τ ho h)];exact p.st τ h
 . by_cases hne:i=f
   . subst hne;rw[ho]at hi;obtain rfl:=za hi;rw[hd]at hd';obtain rfl:=za hd';rw[hd,a8I _ _ (by rw[p.sz];have:=p.sn;omega)];obtain⟨k,z,he⟩:=p.st τ hs;have hv:=hv w0;simp only[execOp,ho',Sem.run_pure,Result.ok.injEq,Next.value.injEq]at hv;exact⟨k,z,by rw[<-hv.1];exact he⟩
   . rcases(a0L hfs).1 h with h|rfl
     . rw[a1n _ _ (by rw[hd];intro e;exact odst i oi hi hne (by rw[hd',<-za e]))];exact p.mv i oi τ d' hi hfl h ho' hs hd'
     . exact absurd rfl hne
theorem Pend.kind (F:Floats ops ops' Fl X S n) {L Lp:Array Bool} {a ap:Act} (p:Pend P ops Fl S n L Lp a ap) {f:Nat} {o:Oper} (hf:Fl f=true) (ho:ops[f]? = some o)
   (hed:∀ e∈o.after,Region.binds .any e=true->Dof Lp e.on=true):FloatK ap o:=by
 rcases F.kind f o hf ho with⟨x,h⟩|⟨t,ix,h⟩|⟨T,x,y,b,h,hz⟩
 . exact .mv x h
 . exact .ex t ix h
 . have arg:∀ z,(z=x∨z=y)->∃ k u,ap.eval z = .int k u:=fun z hz'=>by
     obtain⟨d,j,oj,τ,rfl,h1,h2,h3,h4,h5,e,h6,h7,h8⟩:=hz z hz';exact p.mv j oj τ d h1 h2 (by rw[<-h8];exact hed e h6 h7) h3 h4 h5
   exact .add T x y b h (arg x (.inl rfl)) (arg y (.inr rfl))
theorem b5I {Q:Exit->Act->World->Prop} (hQ:∀ e a w,Q e a w->e = .normal):¬ LetsOut Q:=fun⟨a,w,h⟩=>by have:=hQ _ _ _ h;cases this
theorem b1h (F:Floats ops ops' Fl X S n) {Q:Exit->Act->World->Prop} (hQ:∀ e a w,Q e a w->e = .normal) {K:Act->World->Prop} {w:World} {L Lp:Array Bool} {a ap:Act} (p:Pend P ops Fl S n L Lp a ap) {f:Nat} {o:Oper} (hf:Fl f=true) (ho:ops[f]? = some o) (hL:Dof Lp f=false)
   (hed:∀ e∈o.after,Region.binds .any e=true->Dof Lp e.on=true) (h:wpOp P ops' Q f K ap w):∃ v,Pend P ops Fl S n L (Lp.setIfInBounds f true) a (ap.put o.dst v)/\K (ap.put o.dst v) w:=by
 obtain⟨af,h1,_⟩:=F.same f o ho;obtain⟨hg,d,hd,hdn⟩:=F.gd f o hf ho;unfold wpOp at h;simp only[h1]at h;rw[if_pos (by unfold Region.wanted;simp[hg])]at h;rcases h with h|⟨-,h⟩
 . unfold Oper.wp at h;have hk:=p.kind F hf ho hed;have e0:execOp ap.eval ⟨o.dst,o.op,o.type,o.pos,af,o.guard⟩=execOp ap.eval o:=rfl;rw[e0]at h;cases hr:(execOp ap.eval o).run P w with
   | ok nx w' =>
     obtain⟨hw,v,rfl,hv⟩:=b3v hk hr;rw[hr,hw]at h;exact⟨v,p.ahead F hf ho hL hed w hv,h⟩
   | halt x w' =>
     rw[hr]at h;cases x<;>first|exact absurd (hQ _ _ _ h) (by simp)|exact False.elim h
 . exact absurd h (b5I hQ)
theorem b4o (F : Floats ops ops' Fl X S n) {Q:Exit->Act->World->Prop} (hQ:∀ e a w,Q e a w->e = .normal) {w:World} {L:Array Bool} {a:Act}:∀ (j:Nat),j≤ops.size->∀ (fuel:Nat) (Lp:Array Bool) (ap:Act),Pend P ops Fl S n L Lp a ap->wpAny P .any ops' Q fuel Lp ap w →
   ∃ fuel2 Lp2 ap2,Pend P ops Fl S n L Lp2 a ap2/\wpAny P .any ops' Q fuel2 Lp2 ap2 w/\∀ f o,f<j->Fl f=true->ops[f]? = some o->(∀ e∈o.after,Region.binds .any e=true->Dof Lp2 e.on=true)->Dof Lp2 f=true:=by
 intro j;induction j with
 | zero=>intro _ fuel Lp ap p h;exact⟨fuel,Lp,ap,p,h,fun f o hf=>by omega⟩
 | succ j ih =>
   intro hj fuel Lp ap p h;obtain⟨fuel2,Lp2,ap2,p2,h2,h3⟩:=ih (by omega) fuel Lp ap p h;have ho:ops[j]? = some ops[j]:=by simp[show j<ops.size by omega]
   by_cases hc:Fl j=true/\Dof Lp2 j=false/\∀ e∈ops[j].after,Region.binds .any e=true->Dof Lp2 e.on=true
   . obtain⟨c1,c2,c3⟩:=hc;have hjs:j<Lp2.size:=by rw[p2.s2];omega
     have hready:j∈Region.ready .any ops' Lp2:=by
       obtain⟨af,q1,q2,q3⟩:=F.same j _ ho;refine ready_iff.2 ⟨_,q1,?_,fun e he hb=>?_⟩
       . have:Lp2.getD j false=false:=c2;simpa[zd,hjs]using this
       . rcases q3 e he hb with h|h
         . exact c3 e h hb
         . have key:∀ f,X j f->Dof Lp2 f=true:=by
             intro f;induction f using zR with
             | ind f ihf =>
               intro hx;obtain⟨x1,x2,x3⟩:=F.x j f hx;obtain⟨of,hof⟩:=F.fl f x1;refine h3 f of x2 x1 hof fun e' he' hb'=>?_;rcases x3 of hof e' he' hb' with h'|h'
               . exact ihf _ (F.early f of hof e' he' hb') h'
               . exact a6A (L:=Lp2) p2.cloP h' fun o' ho'=>by rw[ho]at ho';obtain rfl:=za ho';exact c3
           exact key _ h
     cases fuel2 with
     | zero=>rw[h2.1]at hready;cases hready
     | succ n' =>
       obtain⟨v,p3,h4⟩:=b1h F hQ p2 c1 ho c2 c3 (h2.2 j hready);refine⟨n',_,_,p3,h4,fun f o hf hfl hof hed=>?_⟩;by_cases hfj:f=j
       . exact(a0L hjs).2 (.inr hfj)
       . refine(a0L hjs).2 (.inl (h3 f o (by omega) hfl hof fun e he hb=>?_));rcases(a0L hjs).1 (hed e he hb)with h|h
         . exact h
         . have:=F.early f o hof e he hb;omega
   . refine⟨fuel2,Lp2,ap2,p2,h2,fun f o hf hfl hof hed=>?_⟩;by_cases hfj:f=j
     . subst hfj;rw[ho]at hof;obtain rfl:=za hof;cases hb:Dof Lp2 f with
       | true=>rfl
       | false=>exact absurd ⟨hfl,hb,hed⟩ hc
     . exact h3 f o (by omega) hfl hof hed
theorem Pend.both (F:Floats ops ops' Fl X S n) {L Lp:Array Bool} {a ap:Act} (p:Pend P ops Fl S n L Lp a ap) {i:Nat} {o:Oper} (ho:ops[i]? = some o) (hLp:Dof Lp i=false)
   (hed:∀ e∈o.after,Region.binds .any e=true->Dof L e.on=true) (hFl:Fl i=false) (v:Value):Pend P ops Fl S n (L.setIfInBounds i true) (Lp.setIfInBounds i true) (a.put o.dst v) (ap.put o.dst v):=by
 have his:i<ops.size:=(zg.1 ho).1;have h1:i<L.size:=by rw[p.s1];exact his
 have h2:i<Lp.size:=by rw[p.s2];exact his
 have hL:Dof L i=false:=by
   cases h:Dof L i with
   | false=>rfl
   | true=>rw[p.sub i h]at hLp;cases hLp
 have edP:∀ e∈o.after,Region.binds .any e=true->Dof Lp e.on=true:=fun e he hb=>p.sub _ (hed e he hb);have pen:∀ f,Dof (Lp.setIfInBounds i true) f=true->Dof (L.setIfInBounds i true) f=false->f≠i/\Dof Lp f=true/\Dof L f=false:=fun f h h'=>by
   obtain⟨h3,h4⟩:=(a3m h1).1 h';rcases(a0L h2).1 h with h|h
   . exact⟨h4,h,h3⟩
   . exact absurd h h4
 have nolook:∀ f of,ops[f]? = some of->f≠i->Fl f=true->Dof Lp f=true->Dof L f=false->∀ d,o.dst=some d->d∉of.looksAt ops:=fun f of hof hne hfl hl hlf d hd hdl=>by
   rcases F.back f of hfl hof i o d ho (Ne.symm hne) hd hdl with h5|h5
   . have:=a6A (L:=Lp) p.cloP h5 fun o' ho'=>p.cloP f o' ho' hl;rw[hLp]at this;cases this
   . have:=a6A (L:=L) p.clo h5 fun o' ho'=>by
       rw[ho]at ho';obtain rfl:=za ho';exact hed
     rw[hlf]at this;cases this
 have nodst:∀ f of,ops[f]? = some of->f≠i->Fl f=true->∀ d,of.dst=some d->o.dst≠some d:=fun f of hof hne hfl d hd=>(F.apart f of d hfl hof hd i o ho (Ne.symm hne)).1;refine⟨by simp[p.s1],by simp[p.s2],fun j h=>?_,fun j h h'=>?_,fun j oj hj h e he hb=>?_,fun j oj hj h e he hb=>?_,fun j oj hj h h'=>?_,fun τ h=>?_,by rw[a2f,a2f,p.sz],by rw[a2f];exact p.sn,by rw[a3v,a3v,p.df],fun τ h=>?_,fun j oj τ d hj hfl h ho' hs hd=>?_⟩
 . exact(a0L h2).2 (((a0L h1).1 h).imp (p.sub j) id)
 . obtain⟨_,q1,q2⟩:=pen j h h';exact p.pend j q1 q2
 . rcases(a0L h1).1 h with h|rfl
   . exact(a0L h1).2 (.inl (p.clo j oj hj h e he hb))
   . rw[ho]at hj;obtain rfl:=za hj;exact(a0L h1).2 (.inl (hed e he hb))
 . rcases(a0L h2).1 h with h|rfl
   . exact(a0L h2).2 (.inl (p.cloP j oj hj h e he hb))
   . rw[ho]at hj;obtain rfl:=za hj;exact(a0L h2).2 (.inl (edP e he hb))
 . obtain⟨q0,q1,q2⟩:=pen j h h';have hfl:=p.pend j q1 q2;obtain⟨u,h3,h4⟩:=p.val j oj hj q1 q2;refine⟨u,fun w=>?_,?_⟩
   . rw[execOp_put (ops:=ops) oj (F.sel j oj hj) ap o.dst v (nolook j oj hj q0 hfl q1 q2)];exact h3 w
   . rw[Act.put_comm ap v u fun d hd hd'=>nodst j oj hj q0 hfl d hd' hd,h4]
 . have key:∀ j oj,ops[j]? = some oj->Dof Lp j=true->Dof L j=false->oj.dst≠some τ:=fun j oj hj q1 q2=>by
     have hne:j≠i:=fun e=>by rw[e,hLp]at q1;cases q1
     exact h j oj hj ((a0L h2).2 (.inl q1)) ((a3m h1).2 ⟨q2,hne⟩)
   have:=p.tm τ key;cases hd:o.dst with
   | none=>exact this
   | some d=>rw[a2F,a2F,p.sz,this]
 . rw[a1n _ _ (F.stab i o τ ho h)];exact p.st τ h
 . rcases(a0L h2).1 h with h|rfl
   . have hne:j≠i:=fun e=>by rw[e,hLp]at h;cases h
     rw[a1n _ _ (nodst j oj hj hne hfl d hd)];exact p.mv j oj τ d hj hfl h ho' hs hd
   . rw[hFl]at hfl;cases hfl
theorem Pend.defers {L Lp:Array Bool} {a ap:Act} (p:Pend P ops Fl S n L Lp a ap) (x:Deferred):Pend P ops Fl S n L Lp { a with defers:=x::a.defers } { ap with defers:=x::ap.defers }:=by
 have e:∀ (b:Act),({ b with defers:=x::b.defers }:Act).eval=b.eval:=fun b=>by funext y;cases y<;>rfl
 refine⟨p.s1,p.s2,p.sub,p.pend,p.clo,p.cloP,fun i o hi h h'=>?_,p.tm,p.sz,p.sn,by simp only[p.df],fun τ h=>by rw[e];exact p.st τ h,fun i o τ d hi hfl h ho hs hd=>by rw[e];exact p.mv i o τ d hi hfl h ho hs hd⟩;obtain⟨v,h1,h2⟩:=p.val i o hi h h';refine⟨v,fun w=>by rw[e];exact h1 w,?_⟩;have h3:(ap.put o.dst v).tmps=ap.tmps:=by rw[h2]
 cases hd:o.dst with
 | none=>rfl
 | some d=>rw[hd]at h3;simp only[Act.put]at h3 ⊢;rw[h3]
theorem b2b {o:Oper} {a ap:Act} {K K':Act->World->Prop} {Q:Exit->Act->World->Prop} (hQ:∀ e a w,Q e a w->e = .normal) (h:∀ v w,K' (ap.put o.dst v) w->K (a.put o.dst v) w)
   (hd:∀ x w,K' ({ ap with defers:=x::ap.defers }.put o.dst undef) w->K ({ a with defers:=x::a.defers }.put o.dst undef) w) {r:Result Next} (hh:o.upon P ap K' Q r):o.upon P a K Q r:=by
 cases r with
 | ok n w' =>
   cases n<;>simp only[Oper.upon]at hh ⊢ <;>
     first
       | exact h _ _ hh
       | exact hd _ _ hh
       | exact Calls.mono hh (fun e w'' he=>by cases e<;>first|exact h _ _ he|exact absurd (hQ _ _ _ he) (by simp)|exact he)
       | exact Rows.mono hh (fun _ _ he=>h _ _ he)
 | halt x w'=>cases x<;>simp only[Oper.upon]at hh ⊢<;>first|exact absurd (hQ _ _ _ hh) (by simp)|exact hh
theorem b1l (F:Floats ops ops' Fl X S n) {L:Array Bool} (hl:L.size=ops.size) (h:Region.ready .any ops L=[]):∀ i,i<ops.size->Dof L i=true:=by
 intro i;induction i using zR with
 | ind i ih =>
   intro hi;have ho:ops[i]? = some ops[i]:=by simp[hi]
   cases hb:Dof L i with
   | true=>rfl
   | false =>
     have:i∈Region.ready .any ops L:=by
       refine ready_iff.2 ⟨_,ho,?_,fun e he hb=>?_⟩
       . have hb:L.getD i false=false:=hb;simpa[zd,show i<L.size by omega]using hb
       . have:=F.early i _ ho e he hb;exact ih e.on this (by omega)
     rw[h]at this;cases this
theorem a7d {ops:Array Oper} {L:Array Bool} (hl:L.size=ops.size) (h:∀ i,i<ops.size->Dof L i=true):Region.ready .any ops L=[]:=by
 rw[zD];intro i hi;obtain⟨o,ho,h1,_⟩:=ready_iff.1 hi;have hi':=(zg.1 ho).1;have:=h i hi';have this:L.getD i false=true:=this;simp[zd,show i<L.size by omega]at this h1;rw[this]at h1;cases h1
theorem Pend.done (F:Floats ops ops' Fl X S n) {Q:Exit->Act->World->Prop} {w:World} {L Lp:Array Bool} {a ap:Act} (p:Pend P ops Fl S n L Lp a ap) (h:∀ i,i<ops.size->Dof L i=true) {fuel:Nat} (hw:wpAny P .any ops' Q fuel Lp ap w):Q .normal a w:=by
 have hr:Region.ready .any ops' Lp=[]:=a7d (by rw[p.s2,F.size]) fun i hi=>p.sub i (h i (by rw[<-F.size];exact hi));have hq:Q .normal ap w:=by
   cases fuel with
   | zero=>exact hw.2
   | succ n=>exact hw.1 hr
 have e1:ap.tmps=a.tmps:=Array.ext_getElem? fun τ=>p.tm τ fun i o hi _ h2=>by
   rw[h i (zg.1 hi).1]at h2;cases h2
 have e2:ap=a:=by
   cases ap;cases a;have:=p.df;simp_all
 rw[<-e2];exact hq
theorem b3w {m i:Nat} {L:Array Bool} (hi:i<m) (hs:i<L.size) (h:Dof L i=false):left m (L.setIfInBounds i true)+1≤left m L:=by
 have:left m (L.setIfInBounds i true)<left m L:=by
   unfold left;refine a4m (fun x _ hq=>?_) ⟨i,by simpa using hi,?_,?_⟩
   . simp only[zn]at hq ⊢;exact((a3m hs).1 hq).1
   . have h3:L.getD i false=false:=h;rw[h3];rfl
   . have h3:(L.setIfInBounds i true).getD i false=true:=(a0L hs).2 (.inr rfl);rw[h3];rfl
 omega
theorem b0G (F:Floats ops ops' Fl X S n) {Q:Exit->Act->World->Prop} (hQ:∀ e a w,Q e a w->e = .normal):∀ (fuel:Nat) (L Lp:Array Bool) (a ap:Act) (w:World) (fuel':Nat),Pend P ops Fl S n L Lp a ap->left ops.size L≤fuel →
   wpAny P .any ops' Q fuel' Lp ap w->wpAny P .any ops Q fuel L a w:=by
 intro fuel;induction fuel with
 | zero =>
   intro L Lp a ap w fuel' p hf h;have hall:∀ i,i<ops.size->Dof L i=true:=fun i hi=>by
     have h0:left ops.size L=0:=by omega
     unfold left at h0;rw[zV]at h0;have:=h0 i (by simpa using hi);simpa[Dof]using this
   exact⟨a7d p.s1 hall,p.done F hall h⟩
 | succ fuel ih =>
   intro L Lp a ap w fuel' p hf h;refine⟨fun hr=>p.done F (b1l F p.s1 hr) h,fun i hi=>?_⟩;obtain⟨o,ho,h1,hed⟩:=ready_iff.1 hi;have his:i<ops.size:=(zg.1 ho).1;have hiL:i<L.size:=by rw[p.s1];exact his
   have hL:Dof L i=false:=by
     show L.getD i false=false;simpa[zd,hiL]using h1
   have hed:∀ e∈o.after,Region.binds .any e=true->Dof L e.on=true:=hed;have hanc:∀ b,Anc ops.toList i b->Dof L b=true:=fun b k=>a6A p.clo k fun o' ho'=>by
     rw[ho]at ho';obtain rfl:=za ho';exact hed
   obtain⟨n2,Lp2,ap2,p2,h2,hsat⟩:=b4o F hQ ops.size (zz _) fuel' Lp ap p h;have hleft:=b3w (m:=ops.size) his hiL hL;have hlook:(∀ f of,Fl f=true->ops[f]? = some of->f≠i->Dof Lp2 f=true->Dof L f=false->∀ d,of.dst=some d->d∉o.looksAt ops):=fun f of hfl hof hne _ hlf d hd hdl=>by
     rw[hanc f ((F.apart f of d hfl hof hd i o ho (Ne.symm hne)).2 hdl)]at hlf;cases hlf
   have hself:Fl i=true->∀ d,o.dst=some d->d∉o.looksAt ops:=fun hfl d hd=>F.self i o d hfl ho hd;have htm:∀ τ∈o.looksAt ops,a.tmps[τ]? = ap2.tmps[τ]? := fun τ hτ=>(p2.tm τ fun f of hof q1 q2 hd=>by
     have hfl:=p2.pend f q1 q2;by_cases hne:f=i
     . subst hne;rw[ho]at hof;obtain rfl:=za hof;exact hself hfl τ hd hτ
     . exact hlook f of hfl hof hne q1 q2 τ hd hτ).symm
   obtain⟨ex,wn⟩:=b2U F (F.sel i o ho) htm;by_cases hLp:Dof Lp2 i=true
   ·
     have hfl:=p2.pend i hLp hL;obtain⟨hg,d,hd,hdn⟩:=F.gd i o hfl ho;obtain⟨v,hv,hput⟩:=p2.val i o ho hLp hL;have hsz:d<ap2.tmps.size:=by rw[p2.sz];have:=p2.sn;omega
     have pn:Pend P ops Fl S n (L.setIfInBounds i true) Lp2 (a.put o.dst v) ap2:=by
       refine⟨by simp[p2.s1],p2.s2,fun j hj=>?_,fun j hj hj'=>p2.pend j hj ((a3m hiL).1 hj').1,fun j oj hj hj' e he hb=>?_,p2.cloP,fun j oj hj q1 q2=>p2.val j oj hj q1 ((a3m hiL).1 q2).1,fun τ hτ=>?_,by rw[a2f,p2.sz],by rw[a2f];exact p2.sn,by rw[a3v,p2.df],p2.st,p2.mv⟩
       . rcases(a0L hiL).1 hj with hj|rfl
         . exact p2.sub j hj
         . exact hLp
       . rcases(a0L hiL).1 hj' with hj'|rfl
         . exact(a0L hiL).2 (.inl (p2.clo j oj hj hj' e he hb))
         . rw[ho]at hj;obtain rfl:=za hj;exact(a0L hiL).2 (.inl (hed e he hb))
       . rw[hd,a2F];by_cases hdt:d=τ
         . subst hdt;have e1:ap2.tmps[d]? = (ap2.put o.dst v).tmps[d]? := by rw[hput]
           rw[e1,hd,a2F,if_pos rfl,if_pos rfl,p2.sz]
         . rw[if_neg hdt];refine p2.tm τ fun j oj hj q1 q2=>?_;by_cases hne:j=i
           . subst hne;rw[ho]at hj;obtain rfl:=za hj;rw[hd];intro e;exact hdt (za e)
           . exact hτ j oj hj q1 ((a3m hiL).2 ⟨q2,hne⟩)
     unfold wpOp;simp only[ho];rw[if_pos (by unfold Region.wanted;simp[hg])];refine .inl ?_;unfold Oper.wp;rw[ex,hv w];exact ih _ _ _ _ w n2 pn (by omega) h2
   ·
     have hLp:Dof Lp2 i=false:=by simpa using hLp
     have hFl:Fl i=false:=by
       cases hb:Fl i with
       | false=>rfl
       | true =>
         have:=hsat i o his hb ho fun e he hb'=>p2.sub _ (hed e he hb');rw[this]at hLp;cases hLp
     have hX:∀ f,X i f->Dof Lp2 f=true:=by
       intro f;induction f using zR with
       | ind f ihf =>
         intro hx;obtain⟨x2,x3,x4⟩:=F.x i f hx;obtain⟨of,hof⟩:=F.fl f x2;refine hsat f of (zg.1 hof).1 x2 hof fun e he hb=>?_;rcases x4 of hof e he hb with h|h
         . exact ihf e.on (F.early f of hof e he hb) h
         . exact p2.sub _ (hanc _ h)
     obtain⟨af,q1,q2,q3⟩:=F.same i o ho;have hi2:i<Lp2.size:=by rw[p2.s2];exact his
     have hready:i∈Region.ready .any ops' Lp2:=by
       refine ready_iff.2 ⟨_,q1,?_,fun e he hb=>?_⟩
       . have:Lp2.getD i false=false:=hLp;simpa[zd,hi2]using this
       . rcases q3 e he hb with h|h
         . exact p2.sub _ (hed e h hb)
         . exact hX _ h
     cases n2 with
     | zero=>rw[h2.1]at hready;cases hready
     | succ n' =>
       have h4:=h2.2 i hready;have next:∀ v w',wpAny P .any ops' Q n' (Lp2.setIfInBounds i true) (ap2.put o.dst v) w'->wpAny P .any ops Q fuel (L.setIfInBounds i true) (a.put o.dst v) w':=fun v w' hw=>ih _ _ _ _ w' n' (p2.both F ho hLp hed hFl v) (by omega) hw;have nextD:∀ x w',wpAny P .any ops' Q n' (Lp2.setIfInBounds i true) ({ ap2 with defers:=x::ap2.defers }.put o.dst undef) w'->wpAny P .any ops Q fuel (L.setIfInBounds i true) ({ a with defers:=x::a.defers }.put o.dst undef) w':=fun x w' hw=>ih _ _ _ _ w' n' ((p2.defers x).both F ho hLp hed hFl undef) (by omega) hw;unfold wpOp at h4 ⊢;simp only[q1,ho]at h4 ⊢;have ew:Region.wanted (⟨o.dst,o.op,o.type,o.pos,af,o.guard⟩:Oper) (yielded ops' ap2.tmps)=Region.wanted o (yielded ops a.tmps):=by
         rw[wn,b0H F];rfl
       rw[ew]at h4;by_cases hw:Region.wanted o (yielded ops a.tmps)=true
       . rw[if_pos hw]at h4 ⊢;rcases h4 with h4|⟨_,h4⟩
         . refine .inl ?_;unfold Oper.wp at h4 ⊢;have e0:execOp ap2.eval (⟨o.dst,o.op,o.type,o.pos,af,o.guard⟩:Oper)=execOp ap2.eval o:=rfl;rw[e0,<-ex]at h4;exact b2b (o:=o) hQ next nextD h4
         . exact absurd h4 (b5I hQ)
       . rw[if_neg hw]at h4 ⊢;exact next _ _ h4
end
end Go.Vm
end
section
namespace Go.Vm
variable {P:Program}
theorem looks_iff {ops:Array Oper} {o:Oper} {τ:Nat}:τ∈o.looksAt ops↔τ∈a0b ops.toList o:=by
 unfold Oper.looksAt a0b;simp only[zG];refine or_congr Iff.rfl ?_;cases o.guard with
 | none=>exact Iff.rfl
 | some gw =>
   obtain⟨g,want⟩:=gw;have:nth (ops.toList.map some) g none=ops[g]? := by
     rw[a0m,zE];cases h:ops.toList[g]? with
     | none=>rw[zh]at h;rw[h];rfl
     | some x=>rw[zh]at h;rw[h];rfl
   simp only[this]
theorem a6t {all:List Oper}:∀ (l:List TV) (i τ:Nat),τ∈a1V all i l->(∃ t,l[τ-i]? = some t/\i≤τ/\(asInt t).isSome=true)/\∀ o∈all,o.dst≠some τ:=by
 intro l;induction l with
 | nil=>intro i τ h;cases h
 | cons t l ih =>
   intro i τ h;have rec_:τ∈a1V all (i+1) l->(∃ t',(t::l)[τ-i]? = some t'/\i≤τ/\(asInt t').isSome=true)/\∀ o∈all,o.dst≠some τ:=fun h=>by
     obtain⟨⟨t',h1,h2,h3⟩,h4⟩:=ih _ _ h;refine⟨⟨t',?_,by omega,h3⟩,h4⟩;rw[show τ-i=(τ-(i+1))+1 by omega,zF];exact h1
   simp only[a1V]at h;split at h
   . rename_i hc;simp only[zb]at hc;simp only[zj]at h;rcases h with rfl|h
     . refine⟨⟨t,by simp,zz _,hc.1⟩,fun o ho hd=>?_⟩;have:=a0H hc.2 o ho;rw[hd]at this;simp[a5Q,zl]at this
     . exact rec_ h
   . exact rec_ h
theorem b2y {S:List Nat} {os:List (Nat×Oper)} {A:List Nat} {i:Nat}:∀ (l:List (Nat×Oper)) (G:List Nat),(∀ f∈G,f∈a4P S os A i l G)/\∀ f∈a4P S os A i l G,f∈G∨∃ o,(f,o)∈l/\f<i/\a4r S os o=true/\∀ e∈o.after,Region.binds .any e=true->e.on∈a4P S os A i l G∨e.on∈A:=by
 intro l;induction l with
 | nil=>intro G;exact⟨fun f h=>h,fun f h => .inl h⟩
 | cons p l ih =>
   intro G;simp only[a4P];split
   . rename_i hc;simp only[zb]at hc;obtain⟨h1,h2⟩:=ih (p.1::G);refine⟨fun f h=>h1 f (by simp[h]),fun f h=>?_⟩;rcases h2 f h with h|⟨o,h3,h4⟩
     . simp only[zj]at h;rcases h with rfl|h
       . refine .inr ⟨p.2,by simp,zk hc.1,hc.2.1,fun e he hb=>?_⟩;have:=a0H hc.2.2 e (by simpa using he);rw[hb]at this;simp only[zf]at this;rcases this with h|h
         . exact .inl (h1 _ (by simp[a0Q h]))
         . exact .inr (a0Q h)
       . exact .inl h
     . exact .inr ⟨o,by simp[h3],h4⟩
   . obtain⟨h1,h2⟩:=ih G;refine⟨h1,fun f h=>?_⟩;rcases h2 f h with h|⟨o,h3,h4⟩
     . exact .inl h
     . exact .inr ⟨o,by simp[h3],h4⟩
theorem b4Q {α:Type}:∀ (l:List α) (n:Nat),(numb n l).length=l.length:=by
 intro l;induction l with
 | nil=>intro n;rfl
 | cons x l ih=>intro n;simp[numb,ih]
def FlOf (S:List Nat) (all:List Oper) (i:Nat):Bool:=match nth (all.map some) i none with
 | some o=>a4r S (numb 0 all) o
 | none=>false
theorem a8q {S:List Nat} {ops:Array Oper} {i:Nat} {o:Oper} (h:ops[i]? = some o):FlOf S ops.toList i=a4r S (numb 0 ops.toList) o:=by
 unfold FlOf;have:nth (ops.toList.map some) i none=some o:=by rw[a0m,zE,zh,h];rfl
 rw[this]
theorem b2e {S:List Nat} {ops:Array Oper} {i:Nat} (h:FlOf S ops.toList i=true):∃ o,ops[i]? = some o:=by
 unfold FlOf at h;split at h
 . rename_i o ho;exact⟨o,by have:=a8U ho;rwa [zh]at this⟩
 . cases h
def XOf (S:List Nat) (all:List Oper) (t i f:Nat):Prop:=∃ o,all[i]? = some o/\f∈b1C S all t i o
theorem a2j {t:Nat} {ops:Array Oper} {ts:List TV} {all':List Oper} (h:a1T t ops.toList ts=some all') :
   Floats ops all'.toArray (FlOf (a1V ops.toList 0 ts) ops.toList) (XOf (a1V ops.toList 0 ts) ops.toList t) (fun τ=>τ∈a1V ops.toList 0 ts) ts.length/\all'.map (·.dst)=ops.toList.map (·.dst):=by
 unfold a1T at h;split at h
 . rename_i hok;obtain rfl:=za h;generalize hS:a1V ops.toList 0 ts=S at *;have hanc:∀ i a,a∈nth (ancT ops.toList []) i []->Anc ops.toList i a:=a2v ops.toList ops.toList [] ⟨[],rfl,rfl⟩ (fun i a ha=>by simp[nth]at ha);have base:∀ i o,ops[i]? = some o->_:=fun i o ho=>a0H hok (i,o) (by have:=a0i ops.toList 0 i o (by rw[zh];exact ho);rwa [zS]at this);simp only[zb,zn]at base;have flt:∀ i o,FlOf S ops.toList i=true->ops[i]? = some o->a4r S (numb 0 ops.toList) o=true:=fun i o h ho=>by rw[<-a8q ho];exact h
   have nb:∀ {a b:Nat},zs a b=true↔a=b:=fun {a b}=>⟨zc,fun h=>by rw[h];exact zl _⟩;have hO:∀ (l:List Nat) (d:Nat),hasO l (some d)=false->d∉l:=fun l d h hm=>by
     have h:hasN l d=false:=h;rw[hasN_iff.2 hm]at h;cases h
   have pair:∀ f o,FlOf S ops.toList f=true->ops[f]? = some o->∀ i oi,ops[i]? = some oi->i≠f->a5Q oi.dst o.dst=false/\(hasO (a0b ops.toList oi) o.dst=false∨hasN (nth (ancT ops.toList []) i []) f=true)/\(hasO (a0b ops.toList o) oi.dst=false∨hasN (nth (ancT ops.toList []) f []) i=true∨hasN (nth (ancT ops.toList []) i []) f=true):=by
     intro f o hf ho i oi hi hne;have h1:=(base f o ho).2.2;rw[flt f o hf ho]at h1;simp only[zb]at h1;have h2:=a0H h1.2 (i,oi) (by have:=a0i ops.toList 0 i oi (by rw[zh];exact hi);rwa [zS]at this);have hb:zs i f=false:=by
       cases hb:zs i f with
       | false=>rfl
       | true=>exact absurd (nb.1 hb) hne
     simp only[hb,zb,zf,zn]at h2;exact h2
   refine⟨⟨?_,fun i o ho=>?_,fun i f hx=>?_,fun i h=>b2e h,fun i o hf ho=>?_,fun i o hf ho=>?_,fun i o τ ho hs=>?_,fun i o ho e he hb=>?_,fun i o ho cs b=>?_,fun f o d hf ho hd hl=>?_,fun f o d hf ho hd i oi hi hne=>⟨fun hd'=>?_,fun hl=>?_⟩,fun f o hf ho i oi d hi hne hd hl=>?_⟩,?_⟩
   . simp[b4Q]
   . have h1:((numb 0 ops.toList).map (a5z S ops.toList t)).toArray[i]? = some (a5z S ops.toList t (i,o)):=by
       rw[List.getElem?_toArray,zE,a5y,zh,ho];simp
     refine⟨_,h1,fun e he=>by simp[he],fun e he hb=>?_⟩;simp only[Array.mem_append,List.mem_toArray,zx]at he;rcases he with he|⟨f,hf,rfl⟩
     . exact .inl he
     . exact .inr ⟨o,by rw[zh];exact ho,hf⟩
   . obtain⟨o,ho,hf⟩:=hx;rw[zh]at ho;unfold b1C at hf;split at hf
     . cases hf
     . rename_i hc;obtain⟨h1,h2⟩:=b2y (S:=S) (os:=numb 0 ops.toList) (A:=nth (ancT ops.toList []) i []) (i:=i) (numb 0 ops.toList) [];rcases h2 f hf with h|⟨of,h3,h4,h5,h6⟩
       . cases h
       . obtain⟨j,hj,hof⟩:=b0h _ _ _ h3;have hj:f=j:=by simpa using hj
         subst hj;have hof:ops[f]? = some of:=by rw[zh]at hof;exact hof
         refine⟨by rw[a8q hof];exact h5,h4,fun o' ho' e he hb=>?_⟩;rw[hof]at ho';obtain rfl:=za ho';rcases h6 e he hb with h|h
         . refine .inl ⟨o,by rw[zh];exact ho,?_⟩;unfold b1C;rw[hc];exact h
         . exact .inr (hanc i e.on h)
   . have h1:=(base i o ho).2.2;have h2:=flt i o hf ho;rw[h2]at h1;simp only[zb]at h1;unfold a4r at h2;have hg:o.guard=none:=by
       split at h2<;>first|assumption|cases h2
     refine⟨hg,?_⟩;have h3:=h1.1;cases hd:o.dst with
     | none=>rw[hd]at h3;cases h3
     | some d=>rw[hd]at h3;exact⟨d,rfl,zk h3⟩
   . have h2:=flt i o hf ho;unfold a4r at h2;split at h2
     . exact .inl ⟨_,by assumption⟩
     . exact .inr (.inl ⟨_,_,by assumption⟩)
     . rename_i T x y b _ _ hop;simp only[zb]at h2;refine .inr (.inr ⟨T,x,y,b,hop,fun z hz=>?_⟩);have harg:b1G S (numb 0 ops.toList) o z=true:=by rcases hz with rfl|rfl<;>simp[h2]
       unfold b1G at harg;split at harg
       . rename_i d;obtain⟨q,hq,hq2⟩:=a8y harg;simp only[zb]at hq2;obtain⟨h3,h4,h5⟩:=hq2;obtain⟨j,hj,hoj⟩:=b0h _ _ _ hq;have hj:q.1=j:=by simpa using hj
         subst hj;have hoj:ops[q.1]? = some q.2:=by rw[zh]at hoj;exact hoj
         obtain⟨e,he,he2⟩:=a8y h5;simp only[zb]at he2;have hdst:q.2.dst=some d:=by
           cases hd:q.2.dst with
           | none=>rw[hd]at h3;cases h3
           | some d'=>rw[hd]at h3;rw[nb.1 h3]
         cases hm:b3I q.2 with
         | none=>rw[hm]at h4;cases h4
         | some τ =>
           rw[hm]at h4;unfold b3I at hm;split at hm
           . rename_i τ' hg' hop';obtain rfl:=za hm;refine⟨d,q.1,q.2,τ',rfl,hoj,?_,hop',a0Q h4,hdst,e,by simpa using he,he2.1,nb.1 he2.2⟩;rw[a8q hoj];unfold a4r;rw[hg',hdst,hop']
           . cases hm
       . cases harg
     . cases h2
   . have hs:τ∈a1V ops.toList 0 ts:=by rw[hS];exact hs
     exact(a6t ts 0 τ hs).2 o (by have:=zw ho;simpa using this)
   . have h1:=a0H (base i o ho).2.1 e (by simpa using he);rw[hb]at h1;exact zk h1
   . intro hop;have h1:=(base i o ho).1;unfold b1H at h1;rw[hop]at h1;cases h1
   . have h1:=(base f o ho).2.2;rw[flt f o hf ho]at h1;simp only[zb]at h1;have h2:=a0H h1.2 (f,o) (by have:=a0i ops.toList 0 f o (by rw[zh];exact ho);rwa [zS]at this);simp only[zl,hd,zn]at h2;exact hO _ _ h2 (looks_iff.1 hl)
   . have h1:=(pair f o hf ho i oi hi hne).1;rw[hd,hd']at h1;simp[a5Q,zl]at h1
   . rcases(pair f o hf ho i oi hi hne).2.1 with h|h
     . rw[hd]at h;exact absurd (looks_iff.1 hl) (hO _ _ h)
     . exact hanc i f (a0Q h)
   . rcases(pair f o hf ho i oi hi hne).2.2 with h|h|h
     . rw[hd]at h;exact absurd (looks_iff.1 hl) (hO _ _ h)
     . exact .inl (hanc f i (a0Q h))
     . exact .inr (hanc i f (a0Q h))
   . rw[List.map_map];have:∀ (l:List Oper) (n:Nat),(numb n l).map ((·.dst)∘a5z S ops.toList t)=l.map (·.dst):=by
       intro l;induction l with
       | nil=>intro n;rfl
       | cons x l ih=>intro n;simp only[numb,zN,ih];rfl
     exact this _ _
 . cases h
end Go.Vm
end
