/- What a machine on values does is what the program does. -/
import Derived.Test.YthiiohhfalmgdaaGreatVm2
set_option linter.unusedSimpArgs false
set_option linter.unusedVariables false
section
namespace Go.Vm
theorem b0w {r:Nat} {σ:St}:∀ (xs:List Operand),TV.usesL r (xs.map (a0x σ))=true->∃ x∈xs,(a0x σ x).uses r=true:=by
 intro xs;induction xs with
 | nil=>intro h;simp[TV.usesL]at h
 | cons x xs ih =>
   intro h;simp only[List.map_cons,TV.usesL,Bool.or_eq_true]at h;rcases h with h|h
   . exact⟨x,by simp,h⟩
   . obtain⟨y,hy,h⟩:=ih h;exact⟨y,by simp[hy],h⟩
theorem b3h {r:Nat}:∀ (ts ts':List TV),TV.usesL r (ts++ts')=true->TV.usesL r ts=true∨TV.usesL r ts'=true:=by
 intro ts;induction ts with
 | nil=>intro ts' h;exact .inr h
 | cons t ts ih =>
   intro ts' h;simp only[List.cons_append,TV.usesL,Bool.or_eq_true]at h ⊢;rcases h with h|h
   . exact .inl (.inl h)
   . exact(ih ts' h).imp .inr id
theorem b3i {r:Nat}:∀ (ts:List TV) (i:Nat),(nth ts i .dead).uses r=true->TV.usesL r ts=true:=by
 intro ts;induction ts with
 | nil=>intro i h;simp[nth,TV.uses]at h
 | cons t ts ih =>
   intro i h;cases i with
   | zero=>simp only[TV.usesL,Bool.or_eq_true];exact .inl h
   | succ i=>simp only[TV.usesL,Bool.or_eq_true];exact .inr (ih i h)
theorem a9F {R:Type} {c:Ctx} {asg:Bool} {o:Oper} {x:Operand} (hx:a3q x=true) (σ:St) (k:St->Option R):a5m c asg o x σ k=(match o.dst with
   | none=>none
   | some d=>match c.tab o.type with
     | some ⟨false,.sl t,_,_⟩=>k ((σ.new (4*d) ⟨false,[⟨.sl t,.deep,[]⟩]⟩).put (some d) (.view (4*d) (.root 0) 1 false))
     | _=>none):=by
 unfold a3q at hx;split at hx
 . rfl
 . cases hx
theorem a7X {R:Type} {c:Ctx} {asg:Bool} {o:Oper} {x:Operand} (hx:a3q x=false) {σ:St} (hp:asg=true->b0g (a0x σ x)=true) (k:St->Option R):a5m c asg o x σ k=(match o.dst with
   | none=>none
   | some d=>k (σ.put (some d) (a0x σ x))):=by
 unfold a5m;cases hd:o.dst with
 | none=>rfl
 | some d =>
   simp only[];split
   . cases hx
   . cases asg with
     | false=>rfl
     | true =>
       have:=hp rfl;generalize a0x σ x=t at *;cases t<;>first
         | rfl
         | cases this
theorem a7S {c:Ctx} {asg:Bool} {o:Oper} {x:Operand} {σ σ1:St} (ho:o.op = .move x/\asg=false∨o.op = .assign x/\asg=!a4m c o) (hn:o.op = .assign x->a3q x=false) (hp:asg=true->b0g (a0x σ x)=true)
   (h:a5m c asg o x σ some=some σ1):∃ N t,Local c o σ N t:=by
 have hops:∀ y,y∈o.op.operands↔y=x:=by
   intro y;rcases ho with⟨ho,_⟩|⟨ho,_⟩<;>simp[ho,Op.operands]
 have hstep:∀ (σ':St) {R:Type} (k:St->Option R),a0E c o σ' k=a5m c asg o x σ' k:=by
   intro σ' R k;rcases ho with⟨ho,rfl⟩|⟨ho,rfl⟩<;>simp[a0E,ho]
 cases hx:a3q x with
 | true =>
   rw[a9F hx]at h;cases hd:o.dst with
   | none=>rw[hd]at h;cases h
   | some d =>
     rw[hd]at h;simp only[]at h;split at h
     . rename_i t e fs hT;refine⟨[(4*d,⟨false,[⟨.sl t,.deep,[]⟩]⟩)],.view (4*d) (.root 0) 1 false,fun σ' _ R k=>?_,fun r hr => .inr ?_,fun p hp=>?_,by simp⟩
       . rw[hstep,a9F hx,hd];simp only[hT,a2j]
       . simp only[TV.uses]at hr;simp[(Nat.eq_of_beq_eq_true hr).symm]
       . simp only[List.mem_singleton]at hp;subst hp;refine⟨?_,d,hd,Nat.le_refl _,by simp only[];omega⟩;rcases ho with⟨ho,_⟩|⟨ho,ha⟩
         . simp[adds,ho,hx]
         . have:=hn ho;rw[hx]at this;cases this
     . cases h
 | false =>
   rw[a7X hx hp]at h;cases hd:o.dst with
   | none=>rw[hd]at h;cases h
   | some d =>
     refine⟨[],a0x σ x,.quiet (fun σ' ha R k=>?_) fun r hr=>⟨x,(hops x).2 rfl,hr⟩⟩;have he:=ha.tv x ((hops x).2 rfl);rw[hstep,a7X hx (fun e=>by rw[he];exact hp e),hd,he]
theorem a2E {c:Ctx} {o:Oper} {σ:St} {t:TV} (f:∀ {R:Type},St->(TV->Option R)->Option R) (hstep:∀ (σ':St) {R:Type} (k:St->Option R),a0E c o σ' k=f σ' fun t=>k (σ'.put o.dst t))
   (hf:∀ σ',Agree o σ σ'->∀ {R:Type} (k:TV->Option R),f σ' k=k t) (hu:∀ r,t.uses r=true->∃ x∈o.op.operands,(a0x σ x).uses r=true):Local c o σ [] t :=
 .quiet (fun σ' ha R k=>by rw[hstep,hf σ' ha]) hu
theorem b3q {c:Ctx} {o:Oper} {op:BinOp} {T T':TypeId} {x y:Operand} {σ σ1:St} (ho:o.op = .binOp op T x y T') (h:a0E c o σ some=some σ1):∃ N t,Local c o σ N t:=by
 have hx:x∈o.op.operands:=by simp[ho,Op.operands]
 have hy:y∈o.op.operands:=by simp[ho,Op.operands]
 have hstep:∀ (σ':St) {R:Type} (k:St->Option R),a0E c o σ' k=binC c op T (a0x σ' x) (a0x σ' y) fun t=>k (σ'.put o.dst t):=by intro σ' R k;simp[a0E,ho]
 rw [hstep] at h;have key:∃ t,(∀ {R:Type} (k:TV->Option R),binC c op T (a0x σ x) (a0x σ y) k=k t)/\∀ r,t.uses r=false:=by
   unfold binC at h ⊢;split at h
   . unfold b0x at h ⊢;split at h
     case h_2=>cases h
     rename_i kx av ky bv hax hay;split at h
     . cases h
     rename_i hb;simp only[if_neg hb];split at h
     . exact⟨_,fun k=>rfl,fun r=>rfl⟩
     . exact⟨_,fun k=>rfl,fun r=>rfl⟩
     . cases h
   split at h
   case h_2 =>
     unfold eqK at h ⊢;split at h
     . cases h
     split at h
     . split at h
       . unfold eqB at h ⊢;split at h
         . exact⟨_,fun k=>rfl,fun r=>rfl⟩
         . exact⟨_,fun k=>rfl,fun r=>rfl⟩
         . cases h
       . cases h
     . split at h
       . split at h
         . split at h
           . unfold eqB at h ⊢;split at h
             . exact⟨_,fun k=>rfl,fun r=>rfl⟩
             . exact⟨_,fun k=>rfl,fun r=>rfl⟩
             . cases h
           . cases h
         . cases h
       . cases h
   unfold binK at h ⊢;split at h
   . rename_i kx a ky b h1 h2
     try simp only[h1,h2]
     split at h
     . cases h
     . rename_i hk _
       try simp only[*]
       split at h<;>(try simp only[])<;>first
         | exact⟨_,fun k=>rfl,fun r=>rfl⟩
         | (split at h
            . cases h
            . rename_i hb;exact⟨_,fun k=>by rw[if_neg hb],fun r=>rfl⟩)
         | cases h
   . cases h
 obtain⟨t,h1,h2⟩:=key;refine⟨[],t,a2E (fun σ' k=>binC c op T (a0x σ' x) (a0x σ' y) k) hstep (fun σ' ha R k=>?_) fun r hr=>by rw[h2]at hr;cases hr⟩
 try simp only[]
 rw[ha.tv x hx,ha.tv y hy];exact h1 k
theorem b4D {c:Ctx} {o:Oper} {op:UnOp} {T:TypeId} {x:Operand} {σ σ1:St} (ho:o.op = .unOp op T x) (h:a0E c o σ some=some σ1):∃ N t,Local c o σ N t:=by
 have hx:x∈o.op.operands:=by simp[ho,Op.operands]
 have hstep:∀ (σ':St) {R:Type} (k:St->Option R),a0E c o σ' k=unK op (a0x σ' x) fun t=>k (σ'.put o.dst t):=by intro σ' R k;simp[a0E,ho]
 rw[hstep]at h;have key:∃ t,(∀ {R:Type} (k:TV->Option R),unK op (a0x σ x) k=k t)/\∀ r,t.uses r=false:=by
   unfold unK at h ⊢;split at h
   . split at h
     . rename_i kx a h1
       try simp only[h1]
       exact⟨_,fun k=>rfl,fun r=>rfl⟩
     . cases h
   . split at h
     . rename_i b h1
       try simp only[h1]
       exact⟨_,fun k=>rfl,fun r=>rfl⟩
     . cases h
   . cases h
 obtain⟨t,h1,h2⟩:=key;refine⟨[],t,a2E (fun σ' k=>unK op (a0x σ' x) k) hstep (fun σ' ha R k=>?_) fun r hr=>by rw[h2]at hr;cases hr⟩
 try simp only[]
 rw[ha.tv x hx];exact h1 k
theorem b2j {c:Ctx} {o:Oper} {T:TypeId} {x:Operand} {σ σ1:St} (ho:o.op = .load T x) (h:a0E c o σ some=some σ1):∃ N t,Local c o σ N t:=by
 have hx:x∈o.op.operands:=by simp[ho,Op.operands]
 have hstep:∀ (σ':St) {R:Type} (k:St->Option R),a0E c o σ' k=a6S c T (a0x σ' x) σ' fun t=>k (σ'.put o.dst t):=by intro σ' R k;simp[a0E,ho]
 rw[hstep]at h;have key:∃ t,(∀ σ',a3F σ σ' (a0x σ x)->∀ {R:Type} (k:TV->Option R),a6S c T (a0x σ x) σ' k=k t)/\∀ r,t.uses r=true->(a0x σ x).uses r=true:=by
   unfold a6S at h ⊢;split at h
   . cases h
   . rename_i i hi
     try simp only[hi]
     split at h
     . rename_i cs he;rw[he];split at h
       . rename_i hle _;exact⟨.val i.agg (cs.take i.t.sz),fun σ' _ R k=>rfl,fun r hr=>by cases hr⟩
       . cases h
     . rename_i q p he;rw[he];split at h
       . rename_i t ht;refine⟨t,fun σ' ha R k=>?_,fun r hr=>?_⟩
         . have:a4O σ' q p i.t.sz i.agg=a4O σ q p i.t.sz i.agg:=by unfold a4O;rw[ha q (a8n q p)]
           simp only[this,ht]
         . unfold a4O at ht;split at ht
           . split at ht
             . obtain rfl:=Option.some.inj ht;cases hr
             . obtain rfl:=Option.some.inj ht;exact hr
             . cases ht
           . cases ht
       . cases h
     . rename_i t he;rw[he];split at h
       . exact⟨t,fun σ' _ R k=>by simp only[*],fun r hr=>by simpa[TV.uses]using hr⟩
       . cases h
     . cases h
 obtain⟨t,h1,h2⟩:=key;refine⟨[],t,a2E (fun σ' k=>a6S c T (a0x σ' x) σ' k) hstep (fun σ' ha R k=>?_) fun r hr=>⟨x,hx,h2 r hr⟩⟩
 try simp only[]
 rw[ha.tv x hx];exact h1 σ' (ha.rs x hx) k
theorem a6T {c:Ctx} {o:Oper} {T:TypeId} {x:Operand} {f:Nat} {σ σ1:St} (ho:o.op = .fieldAddr T x f) (h:a0E c o σ some=some σ1):∃ N t,Local c o σ N t:=by
 have hx:x∈o.op.operands:=by simp[ho,Op.operands]
 have hstep:∀ (σ':St) {R:Type} (k:St->Option R),a0E c o σ' k=a1Y c σ' T (a0x σ' x) f fun t=>k (σ'.put o.dst t):=by intro σ' R k;simp[a0E,ho]
 rw[hstep]at h;have key:∃ t,(∀ σ',a3F σ σ' (a0x σ x)->∀ {R:Type} (k:TV->Option R),a1Y c σ' T (a0x σ x) f k=k t)/\∀ r,t.uses r=true->(a0x σ x).uses r=true:=by
   unfold a1Y at h ⊢;split at h
   . cases h
   . rename_i i hi
     try simp only[hi]
     split at h
     . cases h
     . rename_i off sz ag hfs
       try simp only[hfs]
       split at h
       . rename_i sb cs he;rw[he];split at h
         . rename_i hle _;exact⟨.rptr sb (cs.drop off),fun σ' _ R k=>by simp only[*],fun r hr=>by cases hr⟩
         . cases h
       . rename_i q p he;rw[he];split at h
         . rename_i root hroot;split at h
           . rename_i hle hle2;exact⟨.ref q (p.addJ off),fun σ' ha R k=>by simp only[ha q (a8n q p),hroot,hle2],fun r hr=>hr⟩
           . cases h
         . cases h
       . cases h
 obtain⟨t,h1,h2⟩:=key;refine⟨[],t,a2E (fun σ' k=>a1Y c σ' T (a0x σ' x) f k) hstep (fun σ' ha R k=>?_) fun r hr=>⟨x,hx,h2 r hr⟩⟩
 try simp only[]
 rw[ha.tv x hx];exact h1 σ' (ha.rs x hx) k
theorem a6U {c:Ctx} {o:Oper} {T:TypeId} {x y:Operand} {σ σ1:St} (ho:o.op = .indexAddr T x y) (h:a0E c o σ some=some σ1):∃ N t,Local c o σ N t:=by
 have hx:x∈o.op.operands:=by simp[ho,Op.operands]
 have hy:y∈o.op.operands:=by simp[ho,Op.operands]
 have hstep:∀ (σ':St) {R:Type} (k:St->Option R),a0E c o σ' k=a0p c σ' T (a0x σ' x) (a0x σ' y) fun t=>k (σ'.put o.dst t):=by intro σ' R k;simp[a0E,ho]
 rw[hstep]at h;have key:∃ t,(∀ σ',a3F σ σ' (a0x σ x)->∀ {R:Type} (k:TV->Option R),a0p c σ' T (a0x σ x) (a0x σ y) k=k t)/\∀ r,t.uses r=true->(a0x σ x).uses r=true:=by
   unfold a0p at h ⊢;cases hi:asInt (a0x σ y)with
   | none=>rw[hi]at h;cases h
   | some kn =>
     obtain⟨kk,n⟩:=kn;rw[hi]at h;simp only[]at h ⊢;split at h
     case h_2=>cases h
     rename_i tt e fs hT
     try simp only[hT]
     split at h
     . rename_i t' xs he;rw[he];split at h
       case isFalse=>cases h
       rename_i hb;split at h
       case isFalse=>cases h
       rename_i htt;exact⟨.rptr true (enc .sh t' (xs.getD n.toNat t'.dflt)),fun σ' _ R k=>by simp only[if_pos hb,if_pos htt],fun r hr=>by cases hr⟩
     . rename_i q p he;rw[he];cases hq:rget σ.rs q with
       | none=>rw[hq]at h;cases h
       | some root =>
         rw[hq]at h;simp only[]at h;split at h
         case h_2=>cases h
         rename_i t' m xs rest hg;split at h
         case isFalse=>cases h
         rename_i htt;split at h
         . split at h
           case isFalse=>cases h
           rename_i hb;refine⟨.rptr true (enc .sh t' (xs.getD n.toNat t'.dflt)),fun σ' ha R k=>?_,fun r hr=>by cases hr⟩;have:=ha q (a2n q p 1 false);rw[hq]at this;simp only[this,hg,if_pos hb,if_pos htt]
         . split at h
           case isFalse=>cases h
           rename_i hm hb;refine⟨.ref q (.hop p n.toNat t'.sz 0),fun σ' ha R k=>?_,fun r hr=>hr⟩;have:=ha q (a2n q p 1 false);rw[hq]at this;cases m with
           | sh=>exact absurd rfl hm
           | deep=>simp only[this,hg,if_pos hb,if_pos htt]
           | shal=>simp only[this,hg,if_pos hb,if_pos htt]
     . cases h
 obtain⟨t,h1,h2⟩:=key;refine⟨[],t,a2E (fun σ' k=>a0p c σ' T (a0x σ' x) (a0x σ' y) k) hstep (fun σ' ha R k=>?_) fun r hr=>⟨x,hx,h2 r hr⟩⟩
 try simp only[]
 rw[ha.tv x hx,ha.tv y hy];exact h1 σ' (ha.rs x hx) k
theorem b2q {c:Ctx} {o:Oper} {x y z:Operand} {σ σ1:St} (ho:o.op = .pick x y z) (h:a0E c o σ some=some σ1):∃ N t,Local c o σ N t:=by
 have hx:x∈o.op.operands:=by simp[ho,Op.operands]
 have hy:y∈o.op.operands:=by simp[ho,Op.operands]
 have hz:z∈o.op.operands:=by simp[ho,Op.operands]
 have hstep:∀ (σ':St) {R:Type} (k:St->Option R),a0E c o σ' k=a7B o x y z σ' k:=by intro σ' R k;simp[a0E,ho]
 rw[hstep]at h;unfold a7B at h;split at h
 case h_2=>cases h
 rename_i b hb;cases b with
 | true=>exact⟨[],a0x σ y,.quiet (fun σ' ha R k=>by rw[hstep,a7B,ha.tv x hx,ha.tv y hy,hb];simp) fun r hr=>⟨y,hy,hr⟩⟩
 | false=>exact⟨[],a0x σ z,.quiet (fun σ' ha R k=>by rw[hstep,a7B,ha.tv x hx,ha.tv z hz,hb];simp) fun r hr=>⟨z,hz,hr⟩⟩
theorem a7w {c:Ctx} {o:Oper} {x:Operand} {σ σ1:St} (ho:o.op = .nilCheck x) (h:a0E c o σ some=some σ1):∃ N t,Local c o σ N t:=by
 have hx:x∈o.op.operands:=by simp[ho,Op.operands]
 have hstep:∀ (σ':St) {R:Type} (k:St->Option R),a0E c o σ' k=a2G o x σ' k:=by intro σ' R k;simp[a0E,ho]
 rw[hstep]at h;unfold a2G at h;split at h
 case h_5=>cases h
 all_goals (rename_i he;exact⟨[],a0x σ x,.quiet (fun σ' ha R k=>by rw[hstep,a2G,ha.tv x hx,he]) fun r hr=>⟨x,hx,hr⟩⟩)
theorem a8M {c:Ctx} {o:Oper} {x:Operand} {i:Nat} {σ σ1:St} (ho:o.op = .extract x i) (h:a0E c o σ some=some σ1):∃ N t,Local c o σ N t:=by
 have hx:x∈o.op.operands:=by simp[ho,Op.operands]
 have hstep:∀ (σ':St) {R:Type} (k:St->Option R),a0E c o σ' k=a2t o x i σ' k:=by intro σ' R k;simp[a0E,ho]
 rw[hstep]at h;unfold a2t at h;split at h
 case h_2=>cases h
 rename_i ts he;split at h
 case isFalse=>cases h
 rename_i hlt;exact⟨[],nth ts i .dead,.quiet (fun σ' ha R k=>by rw[hstep,a2t,ha.tv x hx,he];simp only[if_pos hlt]) fun r hr=>⟨x,hx,by rw[he];exact b3i ts i hr⟩⟩
theorem b0W {c:Ctx} {o:Oper} {T:TypeId} {σ σ1:St} (ho:o.op = .alloc T) (h:a0E c o σ some=some σ1):∃ N t,Local c o σ N t:=by
 have hstep:∀ (σ':St) {R:Type} (k:St->Option R),a0E c o σ' k=a6k c o T σ' k:=by intro σ' R k;simp[a0E,ho]
 rw[hstep]at h;unfold a6k at h;split at h
 case h_2=>cases h
 rename_i d i hd hi;refine⟨[(4*d,⟨true,enc .deep i.t i.t.dflt⟩)],.ref (4*d) (.root 0),fun σ' _ R k=>?_,fun r hr => .inr ?_,fun p hp=>?_,by simp⟩
 . rw[hstep,a6k,hd,hi];rfl
 . simp only[TV.uses]at hr;simp[(Nat.eq_of_beq_eq_true hr).symm]
 . simp only[List.mem_singleton]at hp;subst hp;exact⟨by simp[adds,ho],d,hd,Nat.le_refl _,by simp only[];omega⟩
theorem a6V {c:Ctx} {o:Oper} {T:TypeId} {x y:Operand} {σ σ1:St} (ho:o.op = .makeSlice T x y) (h:a0E c o σ some=some σ1):∃ N t,Local c o σ N t:=by
 have hx:x∈o.op.operands:=by simp[ho,Op.operands]
 have hy:y∈o.op.operands:=by simp[ho,Op.operands]
 have hstep:∀ (σ':St) {R:Type} (k:St->Option R),a0E c o σ' k=a1i c o T (b1U x y) (a0x σ' x) σ' k:=by intro σ' R k;simp[a0E,ho]
 rw[hstep]at h;unfold a1i at h;split at h
 case h_2=>cases h
 rename_i d t e fs k1 n hsame hd hT hl;split at h
 case isFalse=>cases h
 rename_i hb;refine⟨[(4*d,⟨false,[⟨.sl t,.deep,List.replicate n.toNat t.dflt⟩]⟩)],.view (4*d) (.root 0) 1 false,fun σ' ha R k=>?_,fun r hr => .inr ?_,fun p hp=>?_,by simp⟩
 . rw[hstep];unfold a1i;rw[ha.tv x hx];simp only[hsame,hd,hT,hl,if_pos hb,a2j]
 . simp only[TV.uses]at hr;simp[(Nat.eq_of_beq_eq_true hr).symm]
 . simp only[List.mem_singleton]at hp;subst hp;exact⟨by simp[adds,ho],d,hd,Nat.le_refl _,by simp only[];omega⟩
theorem a1H {σ σ':St} {c:Ctx} {T:TypeId} {x:Operand} {ag:Bool} {cs:List Cell} (h:a1C c σ T x=some (.sh ag cs)) (he:a0x σ' x=a0x σ x):a1C c σ' T x=some (.sh ag cs):=by
 unfold a1C at h ⊢;split at h
 . exact h
 . rw[he];split at h
   . exact h
   . split at h
     . split at h<;>cases h
     . cases h
   . cases h
theorem b3w {c:Ctx} {o:Oper} {T:TypeId} {x:Operand} {σ σ1:St} {ag:Bool} {cs:List Cell} (ho:o.op = .box T x) (hs:a1C c σ T x=some (.sh ag cs)) (h:a0E c o σ some=some σ1):∃ N t,Local c o σ N t:=by
 have hx:x∈o.op.operands:=by simp[ho,Op.operands]
 have hstep:∀ (σ':St) {R:Type} (k:St->Option R),a0E c o σ' k=boxK c o T x σ' k:=by intro σ' R k;simp[a0E,ho]
 rw[hstep]at h;unfold boxK at h;split at h
 . cases h
 rename_i d hd;refine⟨[(4*d,⟨true,cs⟩)],.ref (4*d) (.root 0),fun σ' ha R k=>?_,fun r hr => .inr ?_,fun p hp=>?_,by simp⟩
 . rw[hstep,boxK,hd];simp only[a1H hs (ha.tv x hx),a2j]
 . simp only[TV.uses]at hr;simp[(Nat.eq_of_beq_eq_true hr).symm]
 . simp only[List.mem_singleton]at hp;subst hp;exact⟨by simp[adds,ho],d,hd,Nat.le_refl _,by simp only[];omega⟩
theorem b3k {c:Ctx} {o:Oper} {cl:Call} {σ σ1:St} (ho:o.op = .call cl) (hcl:cl.callee = .builtin .len) (h:a0E c o σ some=some σ1):∃ N t,Local c o σ N t:=by
 unfold a0E at h;rw[ho]at h;simp only[hcl]at h;split at h
 case h_2=>cases h
 rename_i x T hargs hat;split at h
 case h_2=>cases h
 rename_i t e fs hT;have hx:x∈o.op.operands:=by
   have:x∈cl.args:=by
     have:x∈cl.args.toList:=by rw[hargs];simp
     simpa using this
   simp[ho,Op.operands,Call.operands,hcl,this]
 have hstep:∀ (σ':St) {R:Type} (k:St->Option R),a0E c o σ' k=lenK o x σ' k:=by
   intro σ' R k;unfold a0E;rw[ho];simp only[hcl,hargs,hat,hT]
 unfold lenK at h;split at h
 case h_2=>cases h
 rename_i n hn;refine⟨[],vI (n:Int),.quiet (fun σ' ha R k=>?_) fun r hr=>by cases hr⟩;have:lenOf σ' (a0x σ' x)=some n:=by
   rw[ha.tv x hx];have hrs:=ha.rs x hx;generalize a0x σ x=tv at *;unfold lenOf at hn ⊢;split at hn
   . exact hn
   . rename_i q p;have:=hrs q (a2n q p 1 false);simp only[this];exact hn
   . cases hn
 rw[hstep,lenK,this]
theorem b3L {c:Ctx} {e:TypeId} {t:Ty} {σ:St}:∀ (l:List Operand),a4N c e σ l=true->∃ r:Option (List t.den),∀ σ',(∀ x∈l,a0x σ' x=a0x σ x)->a3I c e t l σ'=r.map fun ys=>(ys,σ'):=by
 intro l;induction l with
 | nil=>intro _;exact⟨some [],fun σ' _=>rfl⟩
 | cons x l ih =>
   intro h;simp only[a4N,Bool.and_eq_true]at h;obtain⟨h1,h2⟩:=h;split at h1
   case h_2=>cases h1
   rename_i ag cs hs;obtain⟨r,hr⟩:=ih h2;cases hd:a0t .deep t cs with
   | none =>
     refine⟨none,fun σ' he=>?_⟩;simp only[a3I,a1H hs (he x (by simp)),hd,Option.map_none]
   | some y =>
     refine⟨r.map fun ys=>y::ys,fun σ' he=>?_⟩;simp only[a3I,a1H hs (he x (by simp)),hd,hr σ' fun z hz=>he z (by simp[hz])];cases r<;>rfl
theorem a9R {c:Ctx} {e:TypeId} {t:Ty} {σ:St}:∀ (l:List Operand),a4N c e σ l=true->∃ r:Option (List t.den),∀ σ',(∀ x∈l,a0x σ' x=a0x σ x)->a4B c e t l σ'=r.map fun ys=>(ys,σ'):=by
 intro l;induction l with
 | nil=>intro _;exact⟨some [],fun σ' _=>rfl⟩
 | cons x l ih =>
   intro h;simp only[a4N,Bool.and_eq_true]at h;obtain⟨h1,h2⟩:=h;split at h1
   case h_2=>cases h1
   rename_i ag cs hs;obtain⟨r,hr⟩:=ih h2;cases hd:a0t .sh t (cs.map Cell.sh)with
   | none =>
     refine⟨none,fun σ' he=>?_⟩;simp only[a4B,a1H hs (he x (by simp)),hd,Option.map_none]
   | some y =>
     refine⟨r.map fun ys=>y::ys,fun σ' he=>?_⟩;simp only[a4B,a1H hs (he x (by simp)),hd,hr σ' fun z hz=>he z (by simp[hz])];cases r<;>rfl
theorem a6c:∀ (l:List (Nat×Operand)) (i:Nat) (xs:List Operand),a3R i l=some xs->∀ x∈xs,∃ j,(j,x)∈l:=by
 intro l i xs h x hx;have:=a7e l i xs h;obtain⟨j,hj⟩:=List.mem_iff_getElem?.1 hx;refine⟨i+j,?_⟩;rw[this,List.mem_map];exact⟨(x,i+j),by rw[List.mem_iff_getElem?];exact⟨j,by simp[List.getElem?_zipIdx,hj]⟩,rfl⟩
theorem a5l {c:Ctx} {o:Oper} {T:TypeId} {len:Nat} {parts:Array (Nat×Operand)} {σ σ1:St} (ho:o.op = .buildSlice T len parts) (hreg:a4P c o σ=true) (h:a0E c o σ some=some σ1):∃ N t,Local c o σ N t:=by
 cases hlit:a4m c o with
 | true =>
   have hstep:∀ (σ':St) {R:Type} (k:St->Option R),a0E c o σ' k=litK c o T len parts.toList σ' k:=by intro σ' R k;simp[a0E,ho,hlit]
   rw[hstep]at h;unfold litK at h;split at h
   case h_2=>cases h
   rename_i t e fs hT hpl;exact⟨[],.val false [⟨.sl t,.deep,[]⟩],.quiet (fun σ' ha R k=>by rw[hstep];unfold litK;simp only[hT,hpl]) fun r hr=>by simp[TV.uses]at hr⟩
 | false =>
 have hstep:∀ (σ':St) {R:Type} (k:St->Option R),a0E c o σ' k=a1z c o T len parts.toList σ' k:=by intro σ' R k;simp[a0E,ho,hlit]
 rw[hstep]at h;unfold a1z at h;split at h
 case h_2=>cases h
 rename_i d t e fs hd hT;split at h
 . cases h
 rename_i xs hxs;split at h
 . cases h
 rename_i hb;simp only[a4P,ho,hT,hxs,hlit]at hreg;obtain⟨r1,hr1⟩:=b3L (t:=t) xs hreg;obtain⟨r2,hr2⟩:=a9R (t:=t) xs hreg;have hmem:∀ x∈xs,x∈o.op.operands:=by
   intro x hx;obtain⟨j,hj⟩:=a6c _ _ _ hxs x hx;have hj':(j,x)∈parts:=by simpa using hj
   simp only[ho,Op.operands];simp;exact⟨j,hj'⟩
 have fin:∀ (m:Mode) (ys:List t.den),(∀ σ',Agree o σ σ'->∀ {R:Type} (k:St->Option R),a1z c o T len parts.toList σ' k=k (a5q σ' d t m ys))->∃ N t,Local c o σ N t:=by
   intro m ys hk;refine⟨[(4*d,⟨false,[⟨.sl t,m,ys⟩]⟩)],.view (4*d) (.root 0) 1 false,fun σ' ha R k=>?_,fun r hr => .inr ?_,fun p hp=>?_,by simp⟩
   . rw[hstep,hk σ' ha,a5q,hd];rfl
   . simp only[TV.uses]at hr;simp[(Nat.eq_of_beq_eq_true hr).symm]
   . simp only[List.mem_singleton]at hp;subst hp;exact⟨by simp[adds,ho],d,hd,Nat.le_refl _,by simp only[];omega⟩
 cases r1 with
 | some ys =>
   refine fin .deep ys fun σ' ha R k=>?_;unfold a1z;simp only[hd,hT,hxs,hb,hr1 σ' fun x hx=>ha.tv x (hmem x hx),Option.map_some]
 | none =>
   cases r2 with
   | some ys =>
     refine fin .shal ys fun σ' ha R k=>?_;unfold a1z;simp only[hd,hT,hxs,hb,hr1 σ' fun x hx=>ha.tv x (hmem x hx),hr2 σ' fun x hx=>ha.tv x (hmem x hx),Option.map_some,Option.map_none]
   | none =>
     simp only[hr1 σ fun x hx=>rfl,hr2 σ fun x hx=>rfl,Option.map_none]at h;cases h
theorem b1F {c:Ctx} {o:Oper} {cl:Call} {σ σ1:St} {mx:Bool} (ho:o.op = .call cl) (hcl:cl.callee = .builtin (if mx=true then .max else .min)) (h:a0E c o σ some=some σ1):∃ N t,Local c o σ N t:=by
 obtain⟨x,y,hargs⟩:∃ x y,cl.args.toList=[x,y]:=by
   unfold a0E at h;rw[ho]at h;cases mx<;>simp only[hcl,if_true,Bool.false_eq_true,if_false]at h<;>(split at h;case h_2=>cases h)<;>exact⟨_,_,by assumption⟩
 have hstep:∀ (σ':St) {R:Type} (k:St->Option R),a0E c o σ' k=mmK mx (a0x σ' x) (a0x σ' y) fun t=>k (σ'.put o.dst t):=by
   intro σ' R k;unfold a0E;rw[ho];cases mx<;>simp only[hcl,hargs,if_true,Bool.false_eq_true,if_false]
 have hmem:∀ z,z=x∨z=y->z∈o.op.operands:=by
   intro z hz;have:z∈cl.args:=by
     have:z∈cl.args.toList:=by rw[hargs];rcases hz with rfl|rfl<;>simp
     simpa using this
   simp[ho,Op.operands,Call.operands,hcl,this]
 rw[hstep]at h;unfold mmK at h;split at h
 case h_2=>cases h
 rename_i kx p ky q hx hy;have key:∀ (t:TV),(∀ σ',Agree o σ σ'->∀ {R:Type} (k:St->Option R),a0E c o σ' k=k (σ'.put o.dst t))->(∀ r,t.uses r=false)->∃ N t,Local c o σ N t:=fun t h1 h2=>⟨[],t,.quiet h1 fun r hr=>by rw[h2 r]at hr;cases hr⟩;cases mx with
 | true=>exact key _ (fun σ' ha R k=>by rw[hstep,mmK,ha.tv x (hmem x (.inl rfl)),ha.tv y (hmem y (.inr rfl)),hx,hy]) fun r=>rfl
 | false=>exact key _ (fun σ' ha R k=>by rw[hstep,mmK,ha.tv x (hmem x (.inl rfl)),ha.tv y (hmem y (.inr rfl)),hx,hy]) fun r=>rfl
theorem b2k {r:Nat} {ts:List TV} (h:(a5n ts).uses r=true):TV.usesL r ts=true:=by
 match ts,h with
 | [],h=>simpa[a5n,TV.uses]using h
 | [t],h=>simp only[TV.usesL,Bool.or_false];exact h
 | t::t'::ts,h=>simpa[a5n,TV.uses]using h
theorem a7L {id:Nat} {s:Sig} {ld:Lend} {rr:Outs s.outs×Muts s.ps} {o:Oper} {σ:St} {q:St×List TV} (hl:a6X s ld=true) (h:a1j id s ld rr σ=some q) :
   ∀ σ' {R:Type} (k:St->Option R),a7K o k (a1j id s ld rr σ')=k ((a2j (a1h id s.outs rr.1).1 σ').put o.dst (a5n (a1h id s.outs rr.1).2)):=by
 intro σ' R k;rw[a6q hl]at h ⊢;rcases a8u s.ps rr.2 with hb|hb
 . rw[hb];rfl
 . rw[hb]at h;cases h
theorem a7Z {s:Sig} {l:Lend} (h:a6X s l=true):s.outs.length≤4:=by
 unfold a6X at h;simp only[Bool.and_eq_true]at h;have h1:=h.1;split at h1
 . exact Nat.le_of_ble_eq_true h1
 . cases h1
theorem a9x {c:Ctx} {o:Oper} {g:FuncId} {az:List TV} {σ:St}:∀ (l:List Callee) (σ1:St),a6h c g az σ l=true->a3G c o g az σ some l=some σ1 →
   ∃ (outs:List (OutK×Ty×Mode)) (d:Outs outs),outs.length≤4/\∀ σ',a2X σ σ' az->∀ {R:Type} (k:St->Option R),a3G c o g az σ' k l=k ((a2j (a1h (a3H o) outs d).1 σ').put o.dst (a5n (a1h (a3H o) outs d).2)):=by
 intro l;induction l with
 | nil=>intro σ1 h;cases h
 | cons e l ih =>
   intro σ1 hreg h;simp only[a6h]at hreg;simp only[a3G]at h ⊢;split at h
   . rename_i he heq;simp only[heq]at hreg;split at h
     . rename_i d ld hargs;rw[hargs]at hreg;simp only[]at hreg;split at h
       case h_2=>cases h
       rename_i hlend;cases hF:e.F d with
       | none=>rw[hF]at h;cases h
       | some rr =>
         rw[hF]at h;obtain⟨q,hq,-⟩:=a2l (show a7K o some (a1j (a3H o) e.s ld rr σ)=some σ1 from h);refine⟨e.s.outs,rr.1,a7Z hreg,fun σ' ha R k=>?_⟩;rw[a4C _ _ ha,hargs];simp only[hlend,hF,Option.bind_some];exact a7L hreg hq σ' k
     . rename_i hargs;rw[hargs]at hreg;obtain⟨outs,d,hlen,hh⟩:=ih σ1 hreg h;refine⟨outs,d,hlen,fun σ' ha R k=>?_⟩;rw[a4C _ _ ha,hargs];exact hh σ' ha k
   . rename_i he heq;simp only[heq]at hreg;obtain⟨outs,d,hlen,hh⟩:=ih σ1 hreg h;exact⟨outs,d,hlen,fun σ' ha R k=>hh σ' ha k⟩
theorem a7T {c:Ctx} {o:Oper} {cl:Call} {f:Operand} {σ:St} (ho:o.op = .call cl) (hcl:cl.callee = .value f) (hd:∃ d,o.dst=some d) {outs:List (OutK×Ty×Mode)} {d:Outs outs} (hlen:outs.length≤4)
   (h:∀ σ',Agree o σ σ'->∀ {R:Type} (k:St->Option R),a0E c o σ' k=k ((a2j (a1h (a3H o) outs d).1 σ').put o.dst (a5n (a1h (a3H o) outs d).2))):∃ N t,Local c o σ N t:=by
 obtain⟨h1,h2,h3⟩:=b3J outs (a3H o) d;obtain⟨dd,hd⟩:=hd;refine⟨_,_,h,fun r hr => .inr (h3 r (b2k hr)),fun p hp=>⟨by simp[adds,ho,hcl],dd,hd,?_⟩,h2⟩;have:=h1 p hp;simp only[a3H,hd]at this;exact⟨this.1,Nat.lt_of_lt_of_le this.2 (by omega)⟩
theorem b2v {c:Ctx} {o:Oper} {cl:Call} {f:Operand} {σ σ1:St} (ho:o.op = .call cl) (hcl:cl.callee = .value f) (hd:∃ d,o.dst=some d) (hreg:a4P c o σ=true) (h:a0E c o σ some=some σ1):∃ N t,Local c o σ N t:=by
 have hf:f∈o.op.operands:=by simp[ho,Op.operands,Call.operands,hcl]
 have hargs:∀ x∈cl.args.toList,x∈o.op.operands:=by
   intro x hx;have:x∈cl.args:=by simpa using hx
   simp[ho,Op.operands,Call.operands,hcl,this]
 have hev:∀ σ',Agree o σ σ'->cl.args.toList.map (a0x σ')=cl.args.toList.map (a0x σ):=fun σ' ha=>List.map_congr_left fun x hx=>ha.tv x (hargs x hx);have hag:∀ σ',Agree o σ σ'->a2X σ σ' (cl.args.toList.map (a0x σ)):=by
   intro σ' ha r hr;obtain⟨x,hx,hu⟩:=b0w _ hr;exact ha.rs x (hargs x hx) r hu
 simp only[a4P,ho,hcl]at hreg;simp only[a0E,ho,hcl]at h;cases hev0:a0x σ f with
 | fn g caps =>
   rw[hev0]at hreg h;cases hgt:b1t c.grows g with
   | some t=>simp only[hgt]at hreg;cases hreg
   | none =>
   simp only[hgt,Bool.and_eq_true]at hreg h;have hpre:∀ az,a7f g az c.callees=[]:=fun az=>b2I c.callees az hreg.1;simp only[b1l,hpre]at h;obtain⟨outs,d,hlen,hh⟩:=a9x (a1p c o) σ1 hreg.2 h;refine a7T ho hcl hd hlen (fun σ' ha R k=>?_) (outs:=outs) (d:=d);simp only[a0E,ho,hcl,ha.tv f hf,hev0,hev σ' ha,hgt,b1l,hpre];refine hh σ' (fun r hr=>?_) k;rcases b3h _ _ hr with hr|hr
   . exact hag σ' ha r hr
   . exact ha.rs f hf r (by rw[hev0];exact hr)
 | fnx s g =>
   rw[hev0]at hreg h;simp only[a8w]at h;simp only[]at hreg;split at h
   case h_2=>cases h
   rename_i d l hvals;rw[hvals]at hreg;simp only[]at hreg;cases hg:g d with
   | none=>rw[hg]at h;cases h
   | some rr =>
     rw[hg]at h;obtain⟨q,hq,-⟩:=a2l (show a7K o some (a1j (a3H o) ⟨[],s.outs⟩ ⟨l.1,l.2,[],[]⟩ (rr,()) σ)=some σ1 from h);refine a7T ho hcl hd (a7Z hreg) (fun σ' ha R k=>?_) (outs:=s.outs) (d:=rr);simp only[a0E,ho,hcl,ha.tv f hf,hev0,hev σ' ha,a8w,a7H _ _ (hag σ' ha),hvals,hg,Option.bind_some];exact a7L hreg hq σ' k
 | _=>rw[hev0]at hreg;cases hreg
theorem b2X {r:Nat} {σ:St} (xs:Array Operand) (h:TV.usesL r (xs.toList.map (a0x σ))=true):∃ x∈xs,(a0x σ x).uses r=true:=by
 obtain⟨x,hx,h⟩:=b0w _ h;exact⟨x,by simpa using hx,h⟩
theorem a7q {c:Ctx} {o:Oper} {fn:Fn} {first caps:Array Operand} {σ σ1:St} (ho:o.op = .makeFunc fn first caps) (h:a0E c o σ some=some σ1):∃ N t,Local c o σ N t:=by
 have hstep:∀ (σ':St) {R:Type} (k:St->Option R),a0E c o σ' k=a2F o fn first.toList caps.toList σ' k:=by intro σ' R k;simp[a0E,ho]
 rw[hstep]at h;unfold a2F at h;split at h
 case h_2=>cases h
 rename_i f hfirst;have hmem:∀ x∈caps,x∈o.op.operands:=fun x hx=>by simp[ho,Op.operands,hx]
 refine⟨[],.fn f (caps.toList.map (a0x σ)),.quiet (fun σ' ha R k=>?_) fun r hr=>?_⟩
 . rw[hstep];unfold a2F;simp only[hfirst];rw[List.map_congr_left (g:=a0x σ) fun x hx=>ha.tv x (hmem x (by simpa using hx))]
 . obtain⟨x,hx,h2⟩:=b2X caps hr;exact⟨x,hmem x hx,h2⟩
theorem a9N {σ σ':St} {cs:List Cell} {x:Operand} (h:a0x σ' x=a0x σ x):a7d σ' cs x=a7d σ cs x:=by
 unfold a7d;rw[h]
theorem a7g {σ σ':St} {i:TInfo}:∀ (l:List (Nat×Operand)) (cs:List Cell),(∀ p∈l,a0x σ' p.2=a0x σ p.2)->putF i σ' l cs=putF i σ l cs:=by
 intro l;induction l with
 | nil=>intro cs _;rfl
 | cons p l ih =>
   intro cs h;obtain⟨f,x⟩:=p;simp only[putF,a9N (h (f,x) (by simp)),ih _ fun q hq=>h q (by simp[hq])]
theorem putO_sh {c:Ctx} {i:TInfo} {σ:St}:∀ (l:List (Nat×Operand)) (cs:List Cell),b3n c σ l=true->∃ r:Option (List Cell),∀ σ',(∀ p∈l,a0x σ' p.2=a0x σ p.2)->putO c i l cs σ'=r.map fun cs=>(cs,σ'):=by
 intro l;induction l with
 | nil=>intro cs _;exact⟨some cs,fun σ' _=>rfl⟩
 | cons p l ih =>
   intro cs h;obtain⟨f,x⟩:=p;simp only[b3n,Bool.and_eq_true]at h;obtain⟨h1,h2⟩:=h;have hpart:∃ q:Option (List Cell),∀ (ds:List Cell),ds=cs.drop (match nth (i.fs.map some) f none with|some p=>p.1|none=>0)->∀ σ',a0x σ' x=a0x σ x->a2H c σ' ds x=q.map fun pc=>(pc,σ'):=by
     cases hn:nilO x with
     | true =>
       generalize cs.drop (match nth (i.fs.map some) f none with|some p=>p.1|none=>0)=ds;cases ds with
       | nil=>exact⟨none,fun ds hds σ' _=>by subst hds;simp[a2H,hn]⟩
       | cons d ds =>
         obtain⟨dt,dm,dx⟩:=d;cases dt with
         | sl t=>exact⟨some [⟨.sl t,.deep,[]⟩],fun ds hds σ' _=>by subst hds;simp[a2H,hn]⟩
         | _=>exact⟨none,fun ds hds σ' _=>by subst hds;simp[a2H,hn]⟩
     | false =>
       rw[hn]at h1;simp only[Bool.false_or]at h1;split at h1
       . rename_i ag pcs hs;exact⟨some pcs,fun ds _ σ' he=>by simp only[a2H,hn,a1H hs he,Option.map_some]⟩
       . cases h1
   obtain⟨q,hq⟩:=hpart;simp only[putO];cases hf:nth (i.fs.map some) f none with
   | none=>exact⟨none,fun σ' _=>rfl⟩
   | some tr =>
     obtain⟨off,sz,ag⟩:=tr;simp only[hf]at hq;cases q with
     | none=>exact⟨none,fun σ' he=>by simp only[hq _ rfl σ' (he (f,x) (by simp)),Option.map_none]⟩
     | some pcs =>
       by_cases hl:pcs.length=sz
       . by_cases hle:off+sz≤cs.length
         . obtain⟨r,hr⟩:=ih (cs.take off++(pcs++cs.drop (off+sz))) h2;refine⟨r,fun σ' he=>?_⟩;simp only[hq _ rfl σ' (he (f,x) (by simp)),Option.map_some];have e1:Nat.decEq pcs.length sz = .isTrue hl:=by cases Nat.decEq pcs.length sz with|isTrue _=>rfl|isFalse h=>exact absurd hl h
           have e2:Nat.decLe (off+sz) cs.length = .isTrue hle:=by cases Nat.decLe (off+sz) cs.length with|isTrue _=>rfl|isFalse h=>exact absurd hle h
           rw[e1,e2];exact hr σ' fun p hp=>he p (by simp[hp])
         . refine⟨none,fun σ' he=>?_⟩;simp only[hq _ rfl σ' (he (f,x) (by simp)),Option.map_some];have e2:Nat.decLe (off+sz) cs.length = .isFalse hle:=by cases Nat.decLe (off+sz) cs.length with|isTrue h=>exact absurd h hle|isFalse _=>rfl
           rw[e2];cases Nat.decEq pcs.length sz<;>rfl
       . refine⟨none,fun σ' he=>?_⟩;simp only[hq _ rfl σ' (he (f,x) (by simp)),Option.map_some];have e1:Nat.decEq pcs.length sz = .isFalse hl:=by cases Nat.decEq pcs.length sz with|isTrue h=>exact absurd h hl|isFalse _=>rfl
         rw[e1];rfl
theorem b0e {σ σ':St} {cs:List Cell} {x:Operand} (h:a0x σ' x=a0x σ x):a9P σ' cs x=a9P σ cs x:=by
 unfold a9P;rw[h]
theorem b1b {σ σ':St} {i:TInfo} {cs:List Cell}:∀ (l:List (Nat×Operand)) (j:Nat),(∀ p∈l,a0x σ' p.2=a0x σ p.2)->aggT i σ' cs j l=aggT i σ cs j l:=by
 intro l;induction l with
 | nil=>intro j _;rfl
 | cons p l ih =>
   intro j h;obtain⟨f,x⟩:=p;simp only[aggT,b0e (h (f,x) (by simp)),ih _ fun q hq=>h q (by simp[hq])]
theorem b2D {σ:St} {cs:List Cell} {x:Operand} {q:TV×Nat} (h:a9P σ cs x=some q) {r:Nat} (hu:q.1.uses r=true):(a0x σ x).uses r=true:=by
 unfold a9P at h;split at h
 . split at h
   . obtain rfl:=Option.some.inj h;cases hu
   . cases h
 . split at h
   . obtain rfl:=Option.some.inj h;cases hu
   . rename_i he;obtain rfl:=Option.some.inj h;rw[he];exact hu
   . cases h
theorem b2c {σ:St} {i:TInfo} {cs:List Cell}:∀ (l:List (Nat×Operand)) (j:Nat) (ts:List TV),aggT i σ cs j l=some ts->∀ r,TV.usesL r ts=true->∃ p∈l,(a0x σ p.2).uses r=true:=by
 intro l;induction l with
 | nil =>
   intro j ts h r hr;simp only[aggT]at h;split at h
   . obtain rfl:=Option.some.inj h;cases hr
   . cases h
 | cons p l ih =>
   intro j ts h r hr;obtain⟨f,x⟩:=p;simp only[aggT]at h;split at h
   . cases h
   split at h
   . cases h
   rename_i q hq;split at h
   case h_2=>cases h
   split at h
   case h_2=>cases h
   rename_i ts' hts;obtain rfl:=Option.some.inj h;simp only[TV.usesL,Bool.or_eq_true]at hr;rcases hr with hr|hr
   . exact⟨_,List.mem_cons_self,b2D hq hr⟩
   . obtain⟨p,hp,h2⟩:=ih _ _ hts r hr;exact⟨p,List.mem_cons_of_mem _ hp,h2⟩
theorem b0X {c:Ctx} {o:Oper} {T:TypeId} {parts:Array (Nat×Operand)} {σ σ1:St} (ho:o.op = .build T parts) (hreg:a4P c o σ=true) (h:a0E c o σ some=some σ1):∃ N t,Local c o σ N t:=by
 have hmem:∀ p∈parts.toList,p.2∈o.op.operands:=fun p hp=>by simp only[ho,Op.operands];simp;exact⟨p.1,by simpa using hp⟩
 cases hlit:a4m c o with
 | true =>
   have hstep:∀ (σ':St) {R:Type} (k:St->Option R),a0E c o σ' k=a6F c o T parts.toList σ' k:=by intro σ' R k;simp[a0E,ho,hlit]
   rw[hstep]at h;unfold a6F at h;split at h
   case h_2=>cases h
   rename_i t e f fs hT;split at h
   case h_2=>cases h
   rename_i ts hts;refine⟨[],.tup .a ts,.quiet (fun σ' ha R k=>?_) fun r hr=>?_⟩
   . rw[hstep];unfold a6F;simp only[hT,b1b parts.toList _ fun p hp=>ha.tv p.2 (hmem p hp),hts]
   . obtain⟨p,hp,h2⟩:=b2c _ _ _ hts r (by simpa[TV.uses]using hr);exact⟨p.2,hmem p hp,h2⟩
 | false =>
 have hstep:∀ (σ':St) {R:Type} (k:St->Option R),a0E c o σ' k=a4b c o T parts.toList σ' k:=by intro σ' R k;simp[a0E,ho,hlit]
 rw[hstep]at h;unfold a4b at h;split at h
 case h_2=>cases h
 rename_i t e f fs hT;simp only[a4P,ho,hT,hlit,Bool.or_eq_true]at hreg;have hev:∀ σ',Agree o σ σ'->∀ p∈parts.toList,a0x σ' p.2=a0x σ p.2:=fun σ' ha p hp=>ha.tv p.2 (by simp only[ho,Op.operands];simp;exact⟨p.1,by simpa using hp⟩);have hsf:∀ σ',Agree o σ σ'->a2z ⟨true,t,e,f::fs⟩ σ' parts.toList=a2z ⟨true,t,e,f::fs⟩ σ parts.toList:=by
   intro σ' ha;unfold a2z;rw[a7g parts.toList _ (hev σ' ha)]
 cases hcs:a2z ⟨true,t,e,f::fs⟩ σ parts.toList with
 | none =>
   rw[hcs]at hreg h;simp only[Option.isSome_none,Bool.false_eq_true,false_or]at hreg;obtain⟨r,hr⟩:=putO_sh (i:=⟨true,t,e,f::fs⟩) parts.toList (enc .deep t t.dflt) hreg;rw[hr σ fun _ _=>rfl]at h;cases hd:o.dst with
   | none=>rw[hd]at h;simp at h
   | some d =>
     cases r with
     | none=>rw[hd]at h;simp at h
     | some cs =>
       refine⟨[(4*d,⟨false,cs⟩)],.view (4*d) (.root 0) cs.length true,fun σ' ha R k=>?_,fun r hr => .inr ?_,fun p hp=>?_,by simp⟩
       . rw[hstep];unfold a4b;simp only[hT,hsf σ' ha,hcs,hd,hr σ' (hev σ' ha),Option.map_some];rfl
       . simp only[TV.uses]at hr;simp[(Nat.eq_of_beq_eq_true hr).symm]
       . simp only[List.mem_singleton]at hp;subst hp;exact⟨by simp[adds,ho],d,hd,Nat.le_refl _,by simp only[];omega⟩
 | some cs =>
   refine⟨[],.val true cs,.quiet (fun σ' ha R k=>?_) fun r hr=>by simp[TV.uses]at hr⟩;rw[hstep];unfold a4b;simp only[hT,hsf σ' ha,hcs]
theorem a8L {c:Ctx} {o:Oper} {S T:TypeId} {x:Operand} {σ σ1:St} (ho:o.op = .convert S T x) (h:a0E c o σ some=some σ1):∃ N t,Local c o σ N t:=by
 have hx:x∈o.op.operands:=by simp[ho,Op.operands]
 have hstep:∀ (σ':St) {R:Type} (k:St->Option R),a0E c o σ' k=a2s c S T (a0x σ' x) fun t=>k (σ'.put o.dst t):=by intro σ' R k;simp[a0E,ho]
 rw[hstep]at h;unfold a2s at h;split at h
 case h_2=>cases h
 rename_i k1 e1 f1 kd e2 f2 k3 n hS hT hax;refine⟨[],.val false [⟨.int kd,.sh,kd.wrap n⟩],.quiet (fun σ' ha R k=>?_) fun r hr=>by simp[TV.uses]at hr⟩;rw[hstep,ha.tv x hx,a2s,hS,hT,hax]
theorem a5T {σ σ':St} {x:Option Operand} {d:Int} (h:∀ y,x=some y->a0x σ' y=a0x σ y):a4w σ' x d=a4w σ x d:=by
 cases x with
 | none=>rfl
 | some y=>simp only[a4w,h y rfl]
theorem b0Y {c:Ctx} {o:Oper} {T:TypeId} {x:Operand} {lo hi mx:Option Operand} {σ σ1:St} (ho:o.op = .slice T x lo hi mx) (hreg:a4P c o σ=true) (h:a0E c o σ some=some σ1):∃ N t,Local c o σ N t:=by
 have hx:x∈o.op.operands:=by simp[ho,Op.operands]
 have hlo:∀ y,lo=some y->y∈o.op.operands:=fun y hy=>by simp[ho,Op.operands,hy]
 have hhi:∀ y,hi=some y->y∈o.op.operands:=fun y hy=>by simp[ho,Op.operands,hy]
 simp only[a4P,ho,Bool.and_eq_true,Bool.not_eq_true']at hreg;obtain⟨hl,hreg⟩:=hreg;have hstep:∀ (σ':St) {R:Type} (k:St->Option R),a0E c o σ' k=a6o c o T x lo hi mx σ' k:=by intro σ' R k;simp[a0E,ho,hl]
 rw[hstep]at h;unfold a6o at h;split at h
 case h_2=>cases h
 rename_i t e fs hna hT;obtain⟨r1,hr1⟩:=a9R (t := .sl t) [x] hreg;rw[hr1 σ fun _ _=>rfl]at h;split at h
 case h_2=>cases h
 rename_i xs σ2 hps;split at h
 case h_2=>cases h
 rename_i l hh hl hhh;split at h
 case isFalse=>cases h
 rename_i hb;cases r1 with
 | none=>cases hps
 | some ys =>
   simp only[Option.map_some,Option.some.injEq,Prod.mk.injEq]at hps;obtain⟨rfl,rfl⟩:=hps;refine⟨[],.val false [⟨.sl t,.sh,cutL (α:=t.den) xs l hh⟩],.quiet (fun σ' ha R k=>?_) fun r hr=>by simp[TV.uses]at hr⟩;have hna':a9I σ' x=true:=by rw[<-hna];unfold a9I;rw[ha.tv x hx]
   rw[hstep];unfold a6o;simp only[hna',hT,hr1 σ' fun y hy=>by simp only[List.mem_singleton]at hy;rw[hy];exact ha.tv x hx,Option.map_some];rw[a5T (σ:=σ) fun y hy=>ha.tv y (hlo y hy),a5T (σ:=σ) fun y hy=>ha.tv y (hhi y hy),hl,hhh];simp only[if_pos hb]
theorem b1G {c:Ctx} {o:Oper} {σ σ1:St} (hd:∃ d,o.dst=some d) (hreg:a4P c o σ=true) (h:a0E c o σ some=some σ1):∃ N t,Local c o σ N t:=by
 cases ho:o.op with
 | move x=>exact a7S (.inl ⟨ho,rfl⟩) (by simp[ho]) (by simp) (by simpa[a0E,ho]using h)
 | assign x =>
   simp only[a4P,ho,Bool.and_eq_true,Bool.not_eq_true',Bool.or_eq_true]at hreg;exact a7S (.inr ⟨ho,rfl⟩) (fun _=>hreg.1) (fun ha=>hreg.2.resolve_left (by rw[Bool.not_eq_true']at ha;simp[ha])) (by simpa[a0E,ho]using h)
 | pick x y z=>exact b2q ho h
 | alloc T=>exact b0W ho h
 | box T x =>
   simp only[a4P,ho]at hreg;split at hreg
   . rename_i ag cs hs;exact b3w ho hs h
   . cases hreg
 | load T x=>exact b2j ho h
 | nilCheck x=>exact a7w ho h
 | binOp op T x y T'=>exact b3q ho h
 | unOp op T x=>exact b4D ho h
 | makeSlice T x y=>exact a6V ho h
 | buildSlice T len parts=>exact a5l ho hreg h
 | makeFunc fn first caps=>exact a7q ho h
 | build T parts=>exact b0X ho hreg h
 | convert S T x=>exact a8L ho h
 | slice T x lo hi mx=>exact b0Y ho hreg h
 | fieldAddr T x f=>exact a6T ho h
 | indexAddr T x y=>exact a6U ho h
 | extract x i=>exact a8M ho h
 | call cl =>
   have hreg':=hreg;simp only[a4P,ho]at hreg;split at hreg
   . rename_i hcl;exact b3k ho hcl h
   . rename_i hcl;exact b1F (mx:=false) ho hcl h
   . rename_i hcl;exact b1F (mx:=true) ho hcl h
   . rename_i f hcl;exact b2v ho hcl hd hreg' h
   . cases hreg
 | _=>simp[a4P,ho]at hreg
end Go.Vm
end
section
namespace Go.Vm
theorem b1K (r:Nat) (ts:List TV) (τ:Nat):nth (kill r ts) τ .dead=if (nth ts τ .dead).uses r=true then .dead else nth ts τ .dead:=by
 rw[a0l,a0l,kill,List.getElem?_map];cases h:ts[τ]? with
 | none=>simp[TV.uses]
 | some t =>
   simp only[Option.map_some,Option.getD_some];cases hu:t.uses r<;>simp
theorem a9k {σ:St} {q:Nat} {x:Operand} (h:(a0x σ x).uses q=false):a0x (σ.del q) x=a0x σ x:=by
 cases x with
 | tmp τ =>
   show nth (kill q σ.ts) τ .dead=nth σ.ts τ .dead;have h:(nth σ.ts τ .dead).uses q=false:=h;rw[b1K,if_neg (by simp[h])]
 | _=>rfl
theorem hasN_iff {l:List Nat} {r:Nat}:hasN l r=true↔r∈l:=by
 constructor
 . exact a0Q
 . intro h;induction l with
   | nil=>cases h
   | cons x l ih =>
     simp only[List.mem_cons]at h;simp only[hasN,Bool.or_eq_true];rcases h with rfl|h
     . exact .inl (Nat.beq_refl _)
     . exact .inr (ih h)
theorem a6Y {q:Nat} {M:List Nat} (h:a1Z (q::M)=true):q∉M/\a1Z M=true:=by
 simp only[a1Z,Bool.and_eq_true,Bool.not_eq_true']at h;refine⟨fun hm=>?_,h.2⟩;rw[hasN_iff.2 hm]at h;cases h.1
theorem a2V {c:Ctx} {σ:St} {T:TypeId} {x:Operand} {s:Src} (h:a1C c σ T x=some s) :
   (∃ ag cs,s = .sh ag cs/\(∀ r,(a0x σ x).uses r=false)/\∀ σ',a0x σ' x=a0x σ x->a1C c σ' T x=some (.sh ag cs)) ∨
   (∃ q ag cs τ,s = .mv q ag cs/\x = .tmp τ/\(∀ r,(a0x σ x).uses r=true↔r=q)/\∀ σ',a0x σ' x=a0x σ x->rget σ'.rs q=rget σ.rs q->a1C c σ' T x=some (.mv q ag cs)):=by
 unfold a1C at h;split at h
 . split at h
   . rename_i hT;obtain rfl:=Option.some.inj h;refine .inl ⟨_,_,rfl,fun r=>rfl,fun σ' _=>?_⟩;unfold a1C;simp only[hT]
   . cases h
 . rename_i hx;split at h
   . rename_i ag cs he;obtain rfl:=Option.some.inj h;refine .inl ⟨_,_,rfl,fun r=>by rw[he];rfl,fun σ' he'=>a1H (σ:=σ) ?_ he'⟩;unfold a1C;split
     . exact absurd rfl hx
     . simp only[he]
   . rename_i q n ag he;split at h
     . rename_i mem cs hq;split at h
       . rename_i hn hdec;obtain rfl:=Option.some.inj h;have hxt:∃ τ,x = .tmp τ:=by
           cases x with
           | tmp τ=>exact⟨τ,rfl⟩
           | const v=>cases v<;>simp[a0x,b0c]at he
           | global g=>simp[a0x]at he
           | func f=>simp[a0x]at he
         obtain⟨τ,rfl⟩:=hxt;refine .inr ⟨q,ag,cs,τ,rfl,rfl,fun r=>?_,fun σ' he' hrs=>?_⟩
         . rw[he];show Nat.beq q r=true↔r=q;exact⟨fun h=>(Nat.eq_of_beq_eq_true h).symm,fun h=>by rw[h];exact Nat.beq_refl _⟩
         . unfold a1C;simp only[he',he,hrs,hq,hdec]
       . cases h
     . cases h
   . cases h
theorem b2E {c:Ctx} {e:TypeId} {t:Ty} {σ:St}:∀ (l:List Operand) (ys:List t.den) (M:List Nat),a5J c e t l σ=some (ys,M) →
   (∀ x∈l,∀ r,(a0x σ x).uses r=true->r∈M)/\(∀ r∈M,∃ τ,.tmp τ∈l/\(a0x σ (.tmp τ)).uses r=true) ∧
   (a1Z M=true->∀ σ',(∀ x∈l,a0x σ' x=a0x σ x)->(∀ q∈M,rget σ'.rs q=rget σ.rs q)->a3I c e t l σ'=some (ys,a0G M σ')):=by
 intro l;induction l with
 | nil =>
   intro ys M h;simp only[a5J,Option.some.injEq,Prod.mk.injEq]at h;obtain⟨rfl,rfl⟩:=h;exact⟨by simp,by simp,fun _ σ' _ _=>rfl⟩
 | cons x l ih =>
   intro ys M h;simp only[a5J]at h;split at h
   . rename_i ag cs hs;split at h
     . rename_i y q hy hq;simp only[Option.some.injEq,Prod.mk.injEq]at h;obtain⟨rfl,rfl⟩:=h;obtain⟨i1,i2,i3⟩:=ih q.1 q.2 hq;rcases a2V hs with⟨_,_,hss,hu,hsrc⟩|⟨_,_,_,_,hss,_⟩
       . cases hss;refine⟨fun z hz r hr=>?_,fun r hr=>?_,fun hn σ' he hrs=>?_⟩
         . simp only[List.mem_cons]at hz;rcases hz with rfl|hz
           . rw[hu r]at hr;cases hr
           . exact i1 z hz r hr
         . obtain⟨τ,h1,h2⟩:=i2 r hr;exact⟨τ,by simp[h1],h2⟩
         . simp only[a3I,hsrc σ' (he x (by simp)),hy,i3 hn σ' (fun z hz=>he z (by simp[hz])) hrs]
       . cases hss
     . cases h
   . rename_i r ag cs hs;split at h
     . rename_i y q hy hq;simp only[Option.some.injEq,Prod.mk.injEq]at h;obtain⟨rfl,rfl⟩:=h;obtain⟨i1,i2,i3⟩:=ih q.1 q.2 hq;rcases a2V hs with⟨_,_,hss,_⟩|⟨q',_,_,τ,hss,hx,hu,hsrc⟩
       . cases hss
       . cases hss;refine⟨fun z hz r' hr=>?_,fun r' hr=>?_,fun hn σ' he hrs=>?_⟩
         . simp only[List.mem_cons]at hz ⊢;rcases hz with rfl|hz
           . exact .inl ((hu r').1 hr)
           . exact .inr (i1 z hz r' hr)
         . simp only[List.mem_cons]at hr;rcases hr with rfl|hr
           . exact⟨τ,by simp[hx],by rw[<-hx];exact(hu _).2 rfl⟩
           . obtain⟨τ',h1,h2⟩:=i2 r' hr;exact⟨τ',by simp[h1],h2⟩
         . obtain⟨hn1,hn2⟩:=a6Y hn;have hev:∀ z∈l,a0x (σ'.del r) z=a0x σ z:=fun z hz=>by
             rw[<-he z (by simp[hz])];refine a9k ?_;rw[he z (by simp[hz])];cases hzu:(a0x σ z).uses r with
             | false=>rfl
             | true=>exact absurd (i1 z hz r hzu) hn1
           simp only[a3I,hsrc σ' (he x (by simp)) (hrs r (by simp)),hy,i3 hn2 (σ'.del r) hev (fun q' hq'=>by
             simp only[St.del,a0C];rw[if_neg (fun e=>hn1 (by rw[<-e];exact hq'))];exact hrs q' (by simp[hq']))]
           rfl
     . cases h
   . cases h
theorem b2C {c:Ctx} {σ:St} {cs:List Cell} {x:Operand} {p:List Cell×List Nat} (h:b3K c σ cs x=some p) :
   (∀ r,(a0x σ x).uses r=true->r∈p.2)/\(∀ r∈p.2,∃ τ,x = .tmp τ/\(a0x σ x).uses r=true)/\p.2.length≤1 ∧
   ∀ σ',a0x σ' x=a0x σ x->(∀ q∈p.2,rget σ'.rs q=rget σ.rs q)->a2H c σ' cs x=some (p.1,a0G p.2 σ'):=by
 unfold b3K at h;cases hn:nilO x with
 | true =>
   rw[hn]at h;simp only[]at h;split at h
   . obtain rfl:=Option.some.inj h;have hx:∀ r,(a0x σ x).uses r=false:=by
       intro r;unfold nilO at hn;split at hn
       . rfl
       . cases hn
     refine⟨fun r hr=>(by rw[hx r]at hr;cases hr),by simp,by simp,fun σ' _ _=>?_⟩;simp only[a2H,hn];rfl
   . cases h
 | false =>
   rw[hn]at h;simp only[]at h;split at h
   . rename_i ag pcs hs;obtain rfl:=Option.some.inj h;rcases a2V hs with⟨_,_,hss,hu,hsrc⟩|⟨_,_,_,_,hss,_⟩
     . cases hss;refine⟨fun r hr=>(by rw[hu r]at hr;cases hr),by simp,by simp,fun σ' he _=>?_⟩;simp only[a2H,hn,hsrc σ' he];rfl
     . cases hss
   . rename_i q ag pcs hs;obtain rfl:=Option.some.inj h;rcases a2V hs with⟨_,_,hss,_⟩|⟨q',_,_,τ,hss,hx,hu,hsrc⟩
     . cases hss
     . cases hss;refine⟨fun r hr=>by simp[(hu r).1 hr],fun r hr=>⟨τ,hx,?_⟩,by simp,fun σ' he hrs=>?_⟩
       . simp only[List.mem_singleton]at hr;exact(hu r).2 hr
       . simp only[a2H,hn,hsrc σ' he (hrs q (by simp))];rfl
   . cases h
theorem a8C (l l':List Nat):∀ σ:St,a0G (l++l') σ=a0G l' (a0G l σ):=by
 induction l with
 | nil=>intro σ;rfl
 | cons r l ih=>intro σ;exact ih _
theorem a9H {l l':List Nat} (h:a1Z (l++l')=true):a1Z l'=true/\∀ r∈l,r∉l':=by
 induction l with
 | nil=>exact⟨h,by simp⟩
 | cons x l ih =>
   obtain⟨h1,h2⟩:=a6Y h;obtain⟨h3,h4⟩:=ih h2;refine⟨h3,fun r hr=>?_⟩;simp only[List.mem_cons]at hr;rcases hr with rfl|hr
   . exact fun hm=>h1 (by simp[hm])
   . exact h4 r hr
theorem b4P {c:Ctx} {i:TInfo} {σ:St}:∀ (l:List (Nat×Operand)) (cs:List Cell) (cs':List Cell) (M:List Nat),b3M c i l cs σ=some (cs',M) →
   (∀ x∈l,∀ r,(a0x σ x.2).uses r=true->r∈M)/\(∀ r∈M,∃ f τ,(f,.tmp τ)∈l/\(a0x σ (.tmp τ)).uses r=true) ∧
   (a1Z M=true->∀ σ',(∀ x∈l,a0x σ' x.2=a0x σ x.2)->(∀ q∈M,rget σ'.rs q=rget σ.rs q)->putO c i l cs σ'=some (cs',a0G M σ')):=by
 intro l;induction l with
 | nil =>
   intro cs cs' M h;simp only[b3M,Option.some.injEq,Prod.mk.injEq]at h;obtain⟨rfl,rfl⟩:=h;exact⟨by simp,by simp,fun _ σ' _ _=>rfl⟩
 | cons p l ih =>
   intro cs cs' M h;obtain⟨f,x⟩:=p;simp only[b3M]at h;cases hfs:nth (i.fs.map some) f none with
   | none=>rw[hfs]at h;cases h
   | some q =>
   obtain⟨off,sz,ag⟩:=q;rw[hfs]at h;simp only[]at h;split at h
   . cases h
   rename_i q hp;split at h
   case h_2=>cases h
   rename_i hs hle hds hdl;split at h
   case h_2=>cases h
   rename_i q' hq';simp only[Option.some.injEq,Prod.mk.injEq]at h;obtain⟨rfl,rfl⟩:=h;obtain⟨i1,i2,i3⟩:=ih _ q'.1 q'.2 hq';obtain⟨j1,j2,j3,j4⟩:=b2C hp;refine⟨fun z hz r hr=>?_,fun r hr=>?_,fun hn σ' he hrs=>?_⟩
   . simp only[List.mem_cons]at hz;simp only[List.mem_append];rcases hz with rfl|hz
     . exact .inl (j1 r hr)
     . exact .inr (i1 z hz r hr)
   . simp only[List.mem_append]at hr;rcases hr with hr|hr
     . obtain⟨τ,hx,hu⟩:=j2 r hr;exact⟨f,τ,by simp[hx],by rw[<-hx];exact hu⟩
     . obtain⟨f',τ,h1,h2⟩:=i2 r hr;exact⟨f',τ,by simp[h1],h2⟩
   . obtain⟨hn1,hn2⟩:=a9H hn;have h1:=j4 σ' (he (f,x) (by simp)) fun q hq=>hrs q (by simp[hq]);have hev:∀ z∈l,a0x (a0G q.2 σ') z.2=a0x σ z.2:=by
       intro z hz;rw[<-he z (by simp[hz])]
       match hq2:q.2,j3 with
       | [],_=>rfl
       | [r],_ =>
         refine a9k ?_;rw[he z (by simp[hz])];cases hzu:(a0x σ z.2).uses r with
         | false=>rfl
         | true=>exact absurd (i1 z hz r hzu) (hn2 r (by simp[hq2]))
       | a::b::m,h=>simp at h
     have hrs2:∀ q''∈q'.2,rget (a0G q.2 σ').rs q''=rget σ.rs q'':=by
       intro q'' hq''
       match hq2:q.2,j3 with
       | [],_=>exact hrs q'' (by simp[hq''])
       | [r],_ =>
         simp only[a0G,St.del,a0C];rw[if_neg (fun e=>hn2 r (by simp[hq2]) (by rw[<-e];exact hq''))];exact hrs q'' (by simp[hq''])
       | a::b::m,h=>simp at h
     simp only[putO,hfs,h1,hds,hdl,i3 hn1 _ hev hrs2,a8C]
theorem b4G {c:Ctx} {o:Oper} {σ:St} {q:List Nat×(Nat×Root)×TV} (h:mvOp c o σ=some q):LocM c o σ q.1 [q.2.1] q.2.2:=by
 unfold mvOp at h;split at h
 . cases h
 rename_i d hd;have one:∀ (M:List Nat) (x:Root) (n:Nat) (ag:Bool),hasN M (4*d)=false->adds o=true->(∀ r∈M,∃ τ,.tmp τ∈o.op.operands/\(a0x σ (.tmp τ)).uses r=true) →
     (∀ σ',Agree o σ σ'->∀ {R:Type} (k:St->Option R),a0E c o σ' k=k (((a0G M σ').new (4*d) x).put (some d) (.view (4*d) (.root 0) n ag)))->LocM c o σ M [(4*d,x)] (.view (4*d) (.root 0) n ag):=by
   intro M x n ag hM ha hmv hk;refine⟨fun σ' h R k=>?_,fun r hr => .inr ?_,fun p hp=>?_,by simp,fun r hr=>?_,hmv⟩
   . rw[hk σ' h,hd];rfl
   . simp only[TV.uses]at hr;simp[(Nat.eq_of_beq_eq_true hr).symm]
   . simp only[List.mem_singleton]at hp;subst hp;exact⟨ha,d,hd,Nat.le_refl _,by simp only[];omega⟩
   . have hne:r≠4*d:=fun e=>by
       subst e;rw[hasN_iff.2 hr]at hM;cases hM
     refine⟨?_,by simpa using hne⟩;show Nat.beq (4*d) r=false;cases hb:Nat.beq (4*d) r with
     | false=>rfl
     | true=>exact absurd (Nat.eq_of_beq_eq_true hb).symm hne
 split at h
 . rename_i T len parts ho;split at h
   case h_2=>cases h
   rename_i t e fs xs hlit hT hxs;split at h
   case h_2=>cases h
   rename_i r hlen hr;split at h
   case h_2=>cases h
   rename_i hc;obtain rfl:=Option.some.inj h;simp only[Bool.and_eq_true,Bool.not_eq_true']at hc;obtain⟨i1,i2,i3⟩:=b2E xs r.1 r.2 hr;have hmem:∀ x∈xs,x∈o.op.operands:=by
     intro x hx;obtain⟨j,hj⟩:=a6c _ _ _ hxs x hx;have hj':(j,x)∈parts:=by simpa using hj
     simp only[ho,Op.operands];simp;exact⟨j,hj'⟩
   refine one r.2 _ _ _ hc.2 (by simp[adds,ho]) (fun q hq=>?_) fun σ' ha R k=>?_
   . obtain⟨τ,h1,h2⟩:=i2 q hq;exact⟨τ,hmem _ h1,h2⟩
   . have hp:=i3 hc.1 σ' (fun x hx=>ha.tv x (hmem x hx)) fun q hq=>by
       obtain⟨τ,h1,h2⟩:=i2 q hq;exact ha.rs _ (hmem _ h1) q h2
     simp only[a0E,ho,hlit,a1z,hd,hT,hxs,hlen,hp,a5q]
 . rename_i T parts ho;split at h
   case h_2=>cases h
   rename_i t e f fs hlit hT;split at h
   . cases h
   rename_i hsh;split at h
   case h_2=>cases h
   rename_i r hr;split at h
   case h_2=>cases h
   rename_i hc;obtain rfl:=Option.some.inj h;simp only[Bool.and_eq_true,Bool.not_eq_true']at hc;obtain⟨i1,i2,i3⟩:=b4P parts.toList _ r.1 r.2 hr;have hmem:∀ p∈parts.toList,p.2∈o.op.operands:=by
     intro p hp;have hp':p∈parts:=by simpa using hp
     simp only[ho,Op.operands];simp;exact⟨p.1,hp'⟩
   refine one r.2 _ _ _ hc.2 (by simp[adds,ho]) (fun q hq=>?_) fun σ' ha R k=>?_
   . obtain⟨f',τ,h1,h2⟩:=i2 q hq;exact⟨τ,hmem _ h1,h2⟩
   . have hp:=i3 hc.1 σ' (fun x hx=>ha.tv x.2 (hmem x hx)) fun q hq=>by
       obtain⟨f',τ,h1,h2⟩:=i2 q hq;exact ha.rs _ (hmem _ h1) q h2
     have hsh':a2z ⟨true,t,e,f::fs⟩ σ' parts.toList=none:=by
       have:a2z ⟨true,t,e,f::fs⟩ σ' parts.toList=a2z ⟨true,t,e,f::fs⟩ σ parts.toList:=by
         unfold a2z;rw[a7g _ _ fun p hp=>ha.tv p.2 (hmem p hp)]
       rw[this,hsh]
     simp only[a0E,ho,hlit,a4b,hT,hsh',hd,hp]
 . cases h
end Go.Vm
end
section
namespace Go.Vm
def a8p (T:List (List Nat)):List Edge->List Nat
 | []=>[]
 | e::es=>match Region.binds .any e with
   | true=>e.on::(nth T e.on []++a8p T es)
   | false=>a8p T es
def ancT:List Oper->List (List Nat)->List (List Nat)
 | [],T=>T
 | o::l,T=>ancT l (T++[a8p T o.after.toList])
def a0a (all:List Oper) (o:Oper):List Nat :=
 (o.op.operands.toList.filterMap fun | .tmp t=>some t|_=>none)++(match o.guard with
  | some (g,_)=>((nth (all.map some) g none).bind (·.dst)).toList
  | none=>[])
def hasO (l:List Nat):Option Nat->Bool
 | some d=>hasN l d
 | none=>false
def a5N:Option Nat->Option Nat->Bool
 | some d,some e=>Nat.beq d e
 | _,_=>false
def allB {α:Type} (p:α->Bool):List α->Bool
 | []=>true
 | x::l=>match p x with
   | true=>allB p l
   | false=>false
def numb {α:Type}:Nat->List α->List (Nat×α)
 | _,[]=>[]
 | i,x::l=>(i,x)::numb (i+1) l
def a1F (all:List Oper) (m n:Nat):Bool :=
 let T:=ancT all [];let os:=numb 0 all
 allB (fun p:Nat×Oper =>
   let A:=nth T p.1 [];let L:=a0a all p.2
   allB (fun e=>match Region.binds .any e with
     | true=>Nat.blt e.on p.1
     | false=>true) p.2.after.toList &&
   (match Nat.blt p.1 m with
    | true=>(match p.2.dst with
       | some d=>Nat.blt d n
       | none=>false) &&
      allB (fun q:Nat×Oper=>match Nat.blt q.1 p.1 with
       | false=>true
       | true=>!a5N q.2.dst p.2.dst&&(match hasO L q.2.dst||hasO (a0a all q.2) p.2.dst with
         | true=>hasN A q.1
         | false=>true)) os
    | false=>allB (fun q:Nat×Oper=>match Nat.blt q.1 p.1 with
       | false=>true
       | true=>hasN A q.1) os)) os
def a4u (all:List Oper) (m n:Nat):Bool :=
 let T:=ancT all [];let os:=numb 0 all
 allB (fun p:Nat×Oper =>
   let A:=nth T p.1 [];let L:=a0a all p.2
   allB (fun e=>match Region.binds .any e with
     | true=>Nat.blt e.on p.1
     | false=>true) p.2.after.toList &&
   (match Nat.blt p.1 m with
    | true=>(match p.2.dst with
       | some d=>Nat.blt d n
       | none=>false) &&
      allB (fun q:Nat×Oper=>match Nat.blt q.1 p.1 with
       | false=>true
       | true=>!a5N q.2.dst p.2.dst&&(match hasO L q.2.dst||hasO (a0a all q.2) p.2.dst with
         | true=>hasN A q.1
         | false=>true)) os
    | false=>allB (fun q:Nat×Oper=>match Nat.blt q.1 m with
       | false=>true
       | true=>hasN A q.1) os)) os
def a5z (all:List Oper) (m n:Nat):Bool :=
 let T:=ancT all [];let os:=numb 0 all
 allB (fun p:Nat×Oper =>
   let A:=nth T p.1 [];let L:=a0a all p.2
   allB (fun e=>match Region.binds .any e with
     | true=>Nat.blt e.on p.1
     | false=>true) p.2.after.toList &&
   (match Nat.blt p.1 m with
    | true=>(match p.2.dst with
       | some d=>Nat.blt d n
       | none=>false) &&
      allB (fun q:Nat×Oper=>match Nat.blt q.1 p.1 with
       | false=>true
       | true=>!a5N q.2.dst p.2.dst&&(match hasO L q.2.dst||hasO (a0a all q.2) p.2.dst with
         | true=>hasN A q.1
         | false=>true)) os
    | false=>Nat.beq p.1 m||allB (fun q:Nat×Oper=>match Nat.blt q.1 p.1 with
       | false=>true
       | true=>hasN A q.1) os)) os
inductive Anc (all:List Oper):Nat->Nat->Prop
 | edge {i:Nat} {o:Oper} {e:Edge} (ho:all[i]? = some o) (he:e∈o.after) (hb:Region.binds .any e=true):Anc all i e.on
 | trans {i j l:Nat} (h:Anc all i j) (k:Anc all j l):Anc all i l
theorem b1g {T:List (List Nat)}:∀ (es:List Edge) (a:Nat),a∈a8p T es->∃ e∈es,Region.binds .any e=true/\(a=e.on∨a∈nth T e.on []):=by
 intro es;induction es with
 | nil=>intro a h;cases h
 | cons e es ih =>
   intro a h;simp only[a8p]at h;cases hb:Region.binds .any e with
   | true =>
     rw[hb]at h;simp only[List.mem_cons,List.mem_append]at h;rcases h with rfl|h|h
     . exact⟨e,by simp,hb,.inl rfl⟩
     . exact⟨e,by simp,hb,.inr h⟩
     . obtain⟨e',h1,h2⟩:=ih a h;exact⟨e',by simp[h1],h2⟩
   | false =>
     rw[hb]at h;obtain⟨e',h1,h2⟩:=ih a h;exact⟨e',by simp[h1],h2⟩
theorem a2y (all:List Oper):∀ (l:List Oper) (T:List (List Nat)),(∃ pre,all=pre++l/\T.length=pre.length)->(∀ i a,a∈nth T i []->Anc all i a)->∀ i a,a∈nth (ancT l T) i []->Anc all i a:=by
 intro l;induction l with
 | nil=>intro T _ h;exact h
 | cons o l ih =>
   rintro T ⟨pre,he,hl⟩ h;refine ih _ ⟨pre++[o],by simp[he],by simp[hl]⟩ fun i a ha=>?_;rw[a0l,List.getElem?_append]at ha;split at ha
   . exact h i a (by rw[a0l];exact ha)
   . rename_i hi;by_cases hii:i-T.length=0
     . rw[hii]at ha;have hie:i=pre.length:=by omega
       simp only[List.getElem?_cons_zero,Option.getD_some]at ha;obtain⟨e,h1,h2,h3⟩:=b1g _ _ ha;have ho:all[i]? = some o:=by rw[he,hie];simp
       have h1':e∈o.after:=by simpa using h1
       rcases h3 with rfl|h3
       . exact .edge ho h1' h2
       . exact .trans (.edge ho h1' h2) (h _ _ h3)
     . rw[List.getElem?_cons]at ha;simp[hii]at ha
theorem a0H {α:Type} {p:α->Bool}:∀ {l:List α},allB p l=true->∀ x∈l,p x=true:=by
 intro l;induction l with
 | nil=>intro _ x hx;cases hx
 | cons y l ih =>
   intro h x hx;simp only[allB]at h;split at h
   . rename_i hy;simp only[List.mem_cons]at hx;rcases hx with rfl|hx
     . exact hy
     . exact ih h x hx
   . cases h
theorem a0h {α:Type}:∀ (l:List α) (n i:Nat) (x:α),l[i]? = some x->(n+i,x)∈numb n l:=by
 intro l;induction l with
 | nil=>intro n i x h;simp at h
 | cons y l ih =>
   intro n i x h;cases i with
   | zero =>
     simp only[List.getElem?_cons_zero,Option.some.injEq]at h;subst h;simp[numb]
   | succ i =>
     simp only[List.getElem?_cons_succ]at h;have:=ih (n+1) i x h;simp only[numb,List.mem_cons];right;rw[show n+(i+1)=n+1+i by omega];exact this
structure OrdOK (all:List Oper) (m n:Nat):Prop where
 early:∀ i o,all[i]? = some o->∀ e∈o.after,Region.binds .any e=true->e.on<i
 dst:∀ i o,all[i]? = some o->i<m->∃ d,o.dst=some d/\d<n
 diff:∀ i j oi oj d,all[i]? = some oi->all[j]? = some oj->j<i->i<m->oi.dst=some d->oj.dst=some d->False
 conf:∀ i j oi oj,all[i]? = some oi->all[j]? = some oj->j<i->i<m->(∃ d,oj.dst=some d/\d∈a0a all oi)∨(∃ d,oi.dst=some d/\d∈a0a all oj)->Anc all i j
theorem a3y {l:List Nat} {r:Nat} (h:r∈l):hasN l r=true:=by
 induction l with
 | nil=>cases h
 | cons x l ih =>
   simp only[List.mem_cons]at h;simp only[hasN,Bool.or_eq_true];rcases h with rfl|h
   . exact .inl (Nat.beq_refl _)
   . exact .inr (ih h)
theorem a1o {all:List Oper} {m n:Nat} (h:a1F all m n=true):∀ i j oi oj,all[i]? = some oi->all[j]? = some oj->j<i->m≤i->Anc all i j:=by
 have hanc:∀ i a,a∈nth (ancT all []) i []->Anc all i a:=a2y all all [] ⟨[],rfl,rfl⟩ (fun i a ha=>by simp[nth]at ha);have base:∀ i o,all[i]? = some o->_:=fun i o ho=>a0H h (i,o) (by simpa using a0h all 0 i o ho);simp only[Bool.and_eq_true]at base;have lt:∀ {a b:Nat},Nat.blt a b=true->a<b:=fun h=>Nat.le_of_ble_eq_true h;have blt:∀ {a b:Nat},a<b->Nat.blt a b=true:=fun h=>Nat.ble_eq_true_of_le h;intro i j oi oj hi hj hji him;have:=(base i oi hi).2;have hb:Nat.blt i m=false:=by
   cases hb:Nat.blt i m with
   | false=>rfl
   | true=>have:=lt hb;omega
 rw[hb]at this;have h2:=a0H this (j,oj) (by simpa using a0h all 0 j oj hj);simp only[blt hji]at h2;exact hanc i j (a0Q h2)
theorem a2Q {all:List Oper} {m n:Nat} (h:a1F all m n=true):OrdOK all m n:=by
 have hanc:∀ i a,a∈nth (ancT all []) i []->Anc all i a:=a2y all all [] ⟨[],rfl,rfl⟩ (fun i a ha=>by simp[nth]at ha);have base:∀ i o,all[i]? = some o->_:=fun i o ho=>a0H h (i,o) (by simpa using a0h all 0 i o ho);simp only[Bool.and_eq_true]at base;have lt:∀ {a b:Nat},Nat.blt a b=true->a<b:=fun h=>Nat.le_of_ble_eq_true h;have blt:∀ {a b:Nat},a<b->Nat.blt a b=true:=fun h=>Nat.ble_eq_true_of_le h;refine⟨fun i o ho e he hb=>?_,fun i o ho hi=>?_,fun i j oi oj d hi hj hji him hdi hdj=>?_,fun i j oi oj hi hj hji him hc=>?_⟩
 . have:=a0H (base i o ho).1 e (by simpa using he);rw[hb]at this;exact lt this
 . have:=(base i o ho).2;rw[blt hi]at this;simp only[Bool.and_eq_true]at this;cases hd:o.dst with
   | none=>rw[hd]at this;simp at this
   | some d=>rw[hd]at this;exact⟨d,rfl,lt this.1⟩
 . have:=(base i oi hi).2;rw[blt him]at this;simp only[Bool.and_eq_true]at this;have h2:=a0H this.2 (j,oj) (by simpa using a0h all 0 j oj hj);simp only[blt hji,Bool.and_eq_true,hdi,hdj,a5N]at h2;have:=h2.1;rw[Nat.beq_refl]at this;cases this
 . have:=(base i oi hi).2;rw[blt him]at this;simp only[Bool.and_eq_true]at this;have h2:=a0H this.2 (j,oj) (by simpa using a0h all 0 j oj hj);simp only[blt hji,Bool.and_eq_true]at h2;have h3:=h2.2;have hcc:(hasO (a0a all oi) oj.dst||hasO (a0a all oj) oi.dst)=true:=by
     simp only[Bool.or_eq_true];rcases hc with⟨d,hd,hm⟩|⟨d,hd,hm⟩
     . left;rw[hd];exact a3y hm
     . right;rw[hd];exact a3y hm
   rw[hcc]at h3;exact hanc i j (a0Q h3)
theorem a8S {all:List Oper} {m n:Nat} (h:a4u all m n=true):OrdOK all m n:=by
 have hanc:∀ i a,a∈nth (ancT all []) i []->Anc all i a:=a2y all all [] ⟨[],rfl,rfl⟩ (fun i a ha=>by simp[nth]at ha);have base:∀ i o,all[i]? = some o->_:=fun i o ho=>a0H h (i,o) (by simpa using a0h all 0 i o ho);simp only[Bool.and_eq_true]at base;have lt:∀ {a b:Nat},Nat.blt a b=true->a<b:=fun h=>Nat.le_of_ble_eq_true h;have blt:∀ {a b:Nat},a<b->Nat.blt a b=true:=fun h=>Nat.ble_eq_true_of_le h;refine⟨fun i o ho e he hb=>?_,fun i o ho hi=>?_,fun i j oi oj d hi hj hji him hdi hdj=>?_,fun i j oi oj hi hj hji him hc=>?_⟩
 . have:=a0H (base i o ho).1 e (by simpa using he);rw[hb]at this;exact lt this
 . have:=(base i o ho).2;rw[blt hi]at this;simp only[Bool.and_eq_true]at this;cases hd:o.dst with
   | none=>rw[hd]at this;simp at this
   | some d=>rw[hd]at this;exact⟨d,rfl,lt this.1⟩
 . have:=(base i oi hi).2;rw[blt him]at this;simp only[Bool.and_eq_true]at this;have h2:=a0H this.2 (j,oj) (by simpa using a0h all 0 j oj hj);simp only[blt hji,Bool.and_eq_true,hdi,hdj,a5N]at h2;have:=h2.1;rw[Nat.beq_refl]at this;cases this
 . have:=(base i oi hi).2;rw[blt him]at this;simp only[Bool.and_eq_true]at this;have h2:=a0H this.2 (j,oj) (by simpa using a0h all 0 j oj hj);simp only[blt hji,Bool.and_eq_true]at h2;have h3:=h2.2;have hcc:(hasO (a0a all oi) oj.dst||hasO (a0a all oj) oi.dst)=true:=by
     simp only[Bool.or_eq_true];rcases hc with⟨d,hd,hm⟩|⟨d,hd,hm⟩
     . left;rw[hd];exact a3y hm
     . right;rw[hd];exact a3y hm
   rw[hcc]at h3;exact hanc i j (a0Q h3)
theorem a8T {all:List Oper} {m n:Nat} (h:a4u all m n=true):∀ i j oi oj,all[i]? = some oi->all[j]? = some oj->j<m->m≤i->Anc all i j:=by
 have hanc:∀ i a,a∈nth (ancT all []) i []->Anc all i a:=a2y all all [] ⟨[],rfl,rfl⟩ (fun i a ha=>by simp[nth]at ha);have base:∀ i o,all[i]? = some o->_:=fun i o ho=>a0H h (i,o) (by simpa using a0h all 0 i o ho);simp only[Bool.and_eq_true]at base;have lt:∀ {a b:Nat},Nat.blt a b=true->a<b:=fun h=>Nat.le_of_ble_eq_true h;have blt:∀ {a b:Nat},a<b->Nat.blt a b=true:=fun h=>Nat.ble_eq_true_of_le h;intro i j oi oj hi hj hji him;have:=(base i oi hi).2;have hb:Nat.blt i m=false:=by
   cases hb:Nat.blt i m with
   | false=>rfl
   | true=>have:=lt hb;omega
 rw[hb]at this;have h2:=a0H this (j,oj) (by simpa using a0h all 0 j oj hj);simp only[blt hji]at h2;exact hanc i j (a0Q h2)
theorem a8U {all:List Oper} {m n:Nat} (h:a5z all m n=true):OrdOK all m n:=by
 have hanc:∀ i a,a∈nth (ancT all []) i []->Anc all i a:=a2y all all [] ⟨[],rfl,rfl⟩ (fun i a ha=>by simp[nth]at ha);have base:∀ i o,all[i]? = some o->_:=fun i o ho=>a0H h (i,o) (by simpa using a0h all 0 i o ho);simp only[Bool.and_eq_true]at base;have lt:∀ {a b:Nat},Nat.blt a b=true->a<b:=fun h=>Nat.le_of_ble_eq_true h;have blt:∀ {a b:Nat},a<b->Nat.blt a b=true:=fun h=>Nat.ble_eq_true_of_le h;refine⟨fun i o ho e he hb=>?_,fun i o ho hi=>?_,fun i j oi oj d hi hj hji him hdi hdj=>?_,fun i j oi oj hi hj hji him hc=>?_⟩
 . have:=a0H (base i o ho).1 e (by simpa using he);rw[hb]at this;exact lt this
 . have:=(base i o ho).2;rw[blt hi]at this;simp only[Bool.and_eq_true]at this;cases hd:o.dst with
   | none=>rw[hd]at this;simp at this
   | some d=>rw[hd]at this;exact⟨d,rfl,lt this.1⟩
 . have:=(base i oi hi).2;rw[blt him]at this;simp only[Bool.and_eq_true]at this;have h2:=a0H this.2 (j,oj) (by simpa using a0h all 0 j oj hj);simp only[blt hji,Bool.and_eq_true,hdi,hdj,a5N]at h2;have:=h2.1;rw[Nat.beq_refl]at this;cases this
 . have:=(base i oi hi).2;rw[blt him]at this;simp only[Bool.and_eq_true]at this;have h2:=a0H this.2 (j,oj) (by simpa using a0h all 0 j oj hj);simp only[blt hji,Bool.and_eq_true]at h2;have h3:=h2.2;have hcc:(hasO (a0a all oi) oj.dst||hasO (a0a all oj) oi.dst)=true:=by
     simp only[Bool.or_eq_true];rcases hc with⟨d,hd,hm⟩|⟨d,hd,hm⟩
     . left;rw[hd];exact a3y hm
     . right;rw[hd];exact a3y hm
   rw[hcc]at h3;exact hanc i j (a0Q h3)
theorem a6b {all:List Oper} {m n:Nat} (h:a5z all m n=true):∀ i j oi oj,all[i]? = some oi->all[j]? = some oj->j<i->m<i->Anc all i j:=by
 have hanc:∀ i a,a∈nth (ancT all []) i []->Anc all i a:=a2y all all [] ⟨[],rfl,rfl⟩ (fun i a ha=>by simp[nth]at ha);have base:∀ i o,all[i]? = some o->_:=fun i o ho=>a0H h (i,o) (by simpa using a0h all 0 i o ho);simp only[Bool.and_eq_true]at base;have lt:∀ {a b:Nat},Nat.blt a b=true->a<b:=fun h=>Nat.le_of_ble_eq_true h;have blt:∀ {a b:Nat},a<b->Nat.blt a b=true:=fun h=>Nat.ble_eq_true_of_le h;intro i j oi oj hi hj hji him;have:=(base i oi hi).2;have hb:Nat.blt i m=false:=by
   cases hb:Nat.blt i m with
   | false=>rfl
   | true=>have:=lt hb;omega
 have hne:Nat.beq i m=false:=by
   cases hb:Nat.beq i m with
   | false=>rfl
   | true=>have:=Nat.eq_of_beq_eq_true hb;omega
 rw[hb]at this;simp only[hne,Bool.false_or]at this;have h2:=a0H this (j,oj) (by simpa using a0h all 0 j oj hj);simp only[blt hji]at h2;exact hanc i j (a0Q h2)
def a1g:List Nat->TV->Bool
 | [],_=>false
 | r::l,t=>t.uses r||a1g l t
def freeO (all:List Oper) (mvd:List Nat) (σ:St) (o:Oper):Bool:=match mvd with
 | []=>true
 | q::l=>allB (fun τ=>!a1g (q::l) (nth σ.ts τ .dead)) (a0a all o)
def b5j (all:List Oper) (i r:Nat):Bool:=!allB (fun p:Nat×Oper=>!(Nat.blt p.1 i&&adds p.2&&a5N p.2.dst (some (r/4)))) (numb 0 all)
def sepB (all:List Oper) (i:Nat) (M:List Nat) (σ:St):Bool :=
 let A:=nth (ancT all []) i []
 allB (fun r=>b5j all i r&&allB (fun p:Nat×Oper=>Nat.beq p.1 i||hasN A p.1||allB (fun τ=>!(nth σ.ts τ .dead).uses r) (a0a all p.2)) (numb 0 all)) M
theorem a8m {l:List Nat} {t:TV} (h:a1g l t=false):∀ r∈l,t.uses r=false:=by
 induction l with
 | nil=>simp
 | cons x l ih =>
   simp only[a1g,Bool.or_eq_false_iff]at h;intro r hr;simp only[List.mem_cons]at hr;rcases hr with rfl|hr
   . exact h.1
   . exact ih h.2 r hr
theorem b1s {all:List Oper} {mvd:List Nat} {σ:St} {o:Oper} (h:freeO all mvd σ o=true):∀ τ∈a0a all o,∀ r∈mvd,(nth σ.ts τ .dead).uses r=false:=by
 intro τ hτ r hr;cases mvd with
 | nil=>cases hr
 | cons q l =>
   have:=a0H h τ hτ;simp only[Bool.not_eq_true']at this;exact a8m this r hr
theorem b1e {α:Type} {p:α->Bool}:∀ {l:List α},allB p l=false->∃ x∈l,p x=false:=by
 intro l;induction l with
 | nil=>intro h;cases h
 | cons y l ih =>
   intro h;simp only[allB]at h;cases hy:p y with
   | true=>rw[hy]at h;obtain⟨x,hx,h2⟩:=ih h;exact⟨x,by simp[hx],h2⟩
   | false=>exact⟨y,by simp,hy⟩
theorem b0b {α:Type}:∀ (l:List α) (n:Nat) (q:Nat×α),q∈numb n l->∃ i,q.1=n+i/\l[i]? = some q.2:=by
 intro l;induction l with
 | nil=>intro n q h;cases h
 | cons y l ih =>
   intro n q h;simp only[numb,List.mem_cons]at h;rcases h with rfl|h
   . exact⟨0,rfl,rfl⟩
   . obtain⟨i,h1,h2⟩:=ih (n+1) q h;exact⟨i+1,by omega,by simpa using h2⟩
theorem b3W {all:List Oper} {i:Nat} {M:List Nat} {σ:St} (h:sepB all i M σ=true) {r:Nat} (hr:r∈M) :
   (∃ (j:Nat) (oj:Oper),j<i/\all[j]? = some oj/\adds oj=true/\oj.dst=some (r/4))/\∀ (j:Nat) (oj:Oper),all[j]? = some oj->j≠i->Anc all i j∨∀ τ∈a0a all oj,(nth σ.ts τ .dead).uses r=false:=by
 have hanc:∀ i a,a∈nth (ancT all []) i []->Anc all i a:=a2y all all [] ⟨[],rfl,rfl⟩ (fun i a ha=>by simp[nth]at ha);have h1:=a0H h r hr;simp only[Bool.and_eq_true]at h1;refine⟨?_,fun j oj hj hji=>?_⟩
 . have h2:=h1.1;simp only[b5j,Bool.not_eq_true']at h2;obtain⟨q,hq,h3⟩:=b1e h2;obtain⟨j,h4,h5⟩:=b0b all 0 q hq;simp only[Bool.not_eq_false',Bool.and_eq_true]at h3;obtain⟨⟨h6,h7⟩,h8⟩:=h3;refine⟨j,q.2,?_,h5,h7,?_⟩
   . have:q.1<i:=Nat.le_of_ble_eq_true h6;omega
   . cases hd:q.2.dst with
     | none=>rw[hd]at h8;cases h8
     | some d=>rw[hd]at h8;rw[Nat.eq_of_beq_eq_true h8]
 . have h2:=a0H h1.2 (j,oj) (by simpa using a0h all 0 j oj hj);simp only[Bool.or_eq_true]at h2;rcases h2 with(h2|h2)|h2
   . exact absurd (Nat.eq_of_beq_eq_true h2) hji
   . exact .inl (hanc i j (a0Q h2))
   . right;intro τ hτ;have:=a0H h2 τ hτ;simpa using this
def b4e {α:Type} (p:α->Bool) (l:List α):Bool:=!allB (fun x=>!p x) l
def b1C (o:Oper):Bool:=match o.op with
 | .select _ _=>true
 | _=>false
def a1U (all:List Oper):Nat->List TV->List Nat
 | _,[]=>[]
 | i,t::l=>match (asInt t).isSome&&allB (fun o:Oper=>!a5N o.dst (some i)) all with
   | true=>i::a1U all (i+1) l
   | false=>a1U all (i+1) l
def b3C (o:Oper):Option Nat:=match o.guard,o.op with
 | none,.move (.tmp τ)=>some τ
 | _,_=>none
def b1B (S:List Nat) (os:List (Nat×Oper)) (o:Oper) (z:Operand):Bool:=match z with
 | .tmp d=>b4e (fun p:Nat×Oper=>a5N p.2.dst (some d)&&((match b3C p.2 with
     | some τ=>hasN S τ
     | none=>false)&&b4e (fun e:Edge=>Region.binds .any e&&Nat.beq e.on p.1) o.after.toList)) os
 | _=>false
def a4l (S:List Nat) (os:List (Nat×Oper)) (o:Oper):Bool:=match o.guard,o.dst,o.op with
 | none,some _,.move _=>true
 | none,some _,.extract _ _=>true
 | none,some _,.binOp .add _ x y _=>b1B S os o x&&b1B S os o y
 | _,_,_=>false
def a4K (S:List Nat) (os:List (Nat×Oper)) (A:List Nat) (i:Nat):List (Nat×Oper)->List Nat->List Nat
 | [],G=>G
 | p :: l,G=>match Nat.blt p.1 i&&(a4l S os p.2&&allB (fun e=>match Region.binds .any e with
     | true=>hasN G e.on||hasN A e.on
     | false=>true) p.2.after.toList)with
   | true=>a4K S os A i l (p.1::G)
   | false=>a4K S os A i l G
def b1q (S:List Nat) (all:List Oper) (t:Nat) (i:Nat) (o:Oper):List Nat:=match Nat.blt i t with
 | true=>[]
 | false=>a4K S (numb 0 all) (nth (ancT all []) i []) i (numb 0 all) []
def a4r (S:List Nat) (all:List Oper) (t:Nat) (p:Nat×Oper):Oper :=
 ⟨p.2.dst,p.2.op,p.2.type,p.2.pos,p.2.after++((b1q S all t p.1 p.2).map fun f=>(⟨f,.phase⟩:Edge)).toArray,p.2.guard⟩
def b4v (S:List Nat) (all:List Oper) (n:Nat):Bool :=
 let T:=ancT all [];let os:=numb 0 all
 allB (fun p:Nat×Oper=>!b1C p.2&&(allB (fun e=>match Region.binds .any e with
     | true=>Nat.blt e.on p.1
     | false=>true) p.2.after.toList &&
   (match a4l S os p.2 with
   | false=>true
   | true=>(match p.2.dst with
       | some d=>Nat.blt d n
       | none=>false)&&allB (fun q:Nat×Oper=>match Nat.beq q.1 p.1 with
     | true=>!hasO (a0a all p.2) p.2.dst
     | false=>!a5N q.2.dst p.2.dst&&((!hasO (a0a all q.2) p.2.dst||hasN (nth T q.1 []) p.1)&&(!hasO (a0a all p.2) q.2.dst||(hasN (nth T p.1 []) q.1||hasN (nth T q.1 []) p.1)))) os))) os
def a1S (t:Nat) (all:List Oper) (ts:List TV):Option (List Oper):=match b4v (a1U all 0 ts) all ts.length with
 | true=>some ((numb 0 all).map (a4r (a1U all 0 ts) all t))
 | false=>none
def a1x (ops:List Oper) (m:Nat) (τ:Nat):Option Nat:=(List.range m).find? fun i=>match ops[i]? with
 | some o=>match o.dst with
   | some d=>Nat.beq d τ
   | none=>false
 | none=>false
def a2B:List Nat->List (List Nat)
 | []=>[[]]
 | x::l=>a2B l++(a2B l).map fun u=>x::u
theorem a3i (p:Nat->Bool):∀ l:List Nat,l.filter p∈a2B l
 | []=>by simp[a2B]
 | x::l=>by
   simp only[a2B,List.filter_cons,List.mem_append,List.mem_map];cases p x with
   | true=>exact .inr ⟨_,a3i p l,rfl⟩
   | false=>exact .inl (a3i p l)
def a2a (all:List Oper) (m:Nat):List Nat:=(List.range m).filter fun j=>!hasN (nth (ancT all []) m []) j
def okU (all:List Oper) (m:Nat) (U:List Nat):Bool:=allB (fun i=>hasN U i||allB (fun a=>!hasN U a) (nth (ancT all []) i [])) (List.range m)
def a5X (all:List Oper) (m:Nat) (U:List Nat) (τ:Nat):Bool:=match a1x all m τ with
 | some i=>hasN U i
 | none=>false
def a4o (all:List Oper) (m:Nat) (U:List Nat) (σ0:St):Nat->List TV->List TV
 | _,[]=>[]
 | τ,t::l=>(match a5X all m U τ with
   | true=>nth σ0.ts τ .dead
   | false=>t)::a4o all m U σ0 (τ+1) l
def b1H (all:List Oper) (m:Nat) (U:List Nat) (σ0 σ:St):St:=⟨a4o all m U σ0 0 σ.ts,σ.rs.filter fun p=>!a5X all m U (p.1/4)||(rget σ0.rs p.1).isSome⟩
end Go.Vm
end
section
namespace Go.Vm
mutual
def TV.within (l:List Nat):TV->Bool
 | .ref r _=>hasN l r
 | .view r _ _ _=>hasN l r
 | .fn _ caps=>TV.withinL l caps
 | .tup _ ts=>TV.withinL l ts
 | .pfn t=>TV.within l t
 | _=>true
def TV.withinL (l:List Nat):List TV->Bool
 | []=>true
 | t::ts=>TV.within l t&&TV.withinL l ts
end
def a5W (lt lr:List Nat):Nat->List TV->List TV
 | _,[]=>[]
 | i,t::ts=>(match hasN lt i&&t.within lr with
   | true=>t
   | false => .dead)::a5W lt lr (i+1) ts
def a5a (rs:List (Nat×Root)):List Nat->List (Nat×Root)
 | []=>[]
 | r::l=>match rget rs r with
   | some x=>(r,x)::a5a rs l
   | none=>a5a rs l
def b3t (l:List Nat×List Nat) (σ:St):St:=⟨a5W l.1 l.2 0 σ.ts,a5a σ.rs l.2⟩
def a1W:Code->Option Nat
 | .region id _ _=>some id
 | .seq a b=>match a1W a with
   | some i=>some i
   | none=>a1W b
 | .block _ b=>a1W b
 | .loop b=>a1W b
 | .cond _ a b=>match a1W a with
   | some i=>some i
   | none=>a1W b
 | _=>none
structure Cfg where
 c:Ctx
 kp:List Nat
 cuts:List Nat
 live:Nat->List Nat×List Nat
 weak:Nat->List Nat
def a8k (g:Cfg) (c:Code) (σ:St):St:=match a1W c with
 | some i=>b3t (g.live i) (a5P (g.weak i) σ)
 | none=>σ
variable {R:Type}
def a1M (kp:List Nat):List Oper->Bool
 | []=>true
 | o::l=>(match o.dst with
   | some d=>!hasN kp d
   | none=>true)&&a1M kp l
def a2C (r:Nat) (σ:St):St:=match rget σ.rs r with
 | some _=>σ.del r
 | none=>σ
def a0c:List Oper->St->St
 | [],σ=>σ
 | o::l,σ=>match adds o,o.dst with
   | true,some d=>a0c l (a2C (4*d) (a2C (4*d+1) (a2C (4*d+2) (a2C (4*d+3) σ))))
   | _,_=>a0c l σ
def a5f (c:Ctx) (all:List Oper) (i:Nat) (mvd:List Nat) (o:Oper) (σ:St) (k:List Nat->St->Option R):Option R:=match a4P c o σ with
 | true=>a0E c o σ (k mvd)
 | false=>match mvOp c o σ with
   | some q=>match sepB all i q.1 σ with
     | true=>k (q.1++mvd) ((a2j [q.2.1] σ).put o.dst q.2.2)
     | false=>none
   | none=>none
def a4j (c : Ctx) (all:List Oper):List Oper->Nat->List Nat->St->(St->Option R)->Option R
 | [],_,mvd,σ,k=>k (a0G mvd σ)
 | o :: l, i,mvd,σ,k=>match freeO all mvd σ o with
   | false=>none
   | true => match o.guard with
     | none=>a5f c all i mvd o σ fun mvd' σ'=>a4j c all l (i+1) mvd' σ' k
     | some (j,want)=>match (nth (all.map some) j none).bind (·.dst)with
       | none=>none
       | some t=>match b0U (nth σ.ts t .dead)with
         | true=>a4j c all l (i+1) mvd (σ.put o.dst und) k
         | false=>match asBool (nth σ.ts t .dead)with
           | none=>none
           | some b=>if b=true then(match want with
               | true=>a5f c all i mvd o ⟨upd σ.ts t (vB true),σ.rs⟩ fun mvd' σ'=>a4j c all l (i+1) mvd' σ' k
               | false=>a4j c all l (i+1) mvd ((⟨upd σ.ts t (vB true),σ.rs⟩:St).put o.dst und) k)
             else(match want with
               | false=>a5f c all i mvd o ⟨upd σ.ts t (vB false),σ.rs⟩ fun mvd' σ'=>a4j c all l (i+1) mvd' σ' k
               | true=>a4j c all l (i+1) mvd ((⟨upd σ.ts t (vB false),σ.rs⟩:St).put o.dst und) k)
def a5g (c:Ctx) (o:Oper) (σ:St) (k:St->Option R):Option R:=match a4P c o σ with
 | true=>a0E c o σ k
 | false=>none
def a4M (c : Ctx) (all:List Oper):List Oper->St->(St->Option R)->Option R
 | [],σ,k=>k σ
 | o :: l, σ,k=>match o.guard with
     | none=>a5g c o σ fun σ'=>a4M c all l σ' k
     | some (j,want)=>match (nth (all.map some) j none).bind (·.dst)with
       | none=>none
       | some t=>match b0U (nth σ.ts t .dead)with
         | true=>a4M c all l (σ.put o.dst und) k
         | false=>match asBool (nth σ.ts t .dead)with
           | none=>none
           | some b=>if b=true then(match want with
               | true=>a5g c o ⟨upd σ.ts t (vB true),σ.rs⟩ fun σ'=>a4M c all l σ' k
               | false=>a4M c all l ((⟨upd σ.ts t (vB true),σ.rs⟩:St).put o.dst und) k)
             else(match want with
               | false=>a5g c o ⟨upd σ.ts t (vB false),σ.rs⟩ fun σ'=>a4M c all l σ' k
               | true=>a4M c all l ((⟨upd σ.ts t (vB false),σ.rs⟩:St).put o.dst und) k)
def writes (lv:Nat) (o:Oper):Bool:=match o.op with
 | .store _ _ _=>true
 | .assign _=>!Nat.beq lv 0
 | .call cl=>match cl.callee with
   | .builtin .append=>true
   | .builtin .copy=>true
   | .builtin .clear=>true
   | .builtin _=>false
   | _=>Nat.beq lv 2
 | _=>false
def a1P (lv:Nat):List Oper->Nat
 | []=>0
 | o::l=>match writes lv o with
   | true=>0
   | false=>a1P lv l+1
def pickM (all:List Oper) (n:Nat):Option Nat:=match a1F all (a1P 1 all) n with
 | true=>some (a1P 1 all)
 | false=>match a1F all (a1P 0 all) n with
   | true=>some (a1P 0 all)
   | false=>match a1F all (a1P 2 all) n with
     | true=>some (a1P 2 all)
     | false=>none
def a6d (t:Nat) (all:List Oper) (ts:List TV):Option (Nat×List Oper):=match a1S t all ts with
 | some all'=>match a1F all' t ts.length with
   | true=>some (t,all')
   | false=>none
 | none=>none
def pickF (all:List Oper) (ts:List TV):Option (Nat×List Oper):=match pickM all ts.length with
 | some m=>some (m,all)
 | none=>match a6d (a1P 1 all) all ts with
   | some q=>some q
   | none=>match a6d (a1P 0 all) all ts with
     | some q=>some q
     | none=>a6d (a1P 2 all) all ts
def b5E (c:Ctx) (o:Oper):Bool:=match o.op with
 | .call cl=>match cl.callee with
   | .value (.func g)=>!a9G g c.callees
   | _=>false
 | _=>false
def b2g (c:Ctx):List Oper->Bool
 | []=>false
 | o::l=>b5E c o||b2g c l
def a7p (c:Ctx):List Oper->Nat
 | []=>0
 | o::l=>match b5E c o with
   | true=>0
   | false=>a7p c l+1
def b5B (g:FuncId):List Callee->Bool
 | []=>false
 | e::l=>match Nat.decEq e.f g with
   | .isTrue _=>!a3Q e.s.outs
   | .isFalse _=>b5B g l
def b1A (t:Nat):List Oper->Bool
 | []=>false
 | o :: l=>(match o.dst,o.op with
   | some d,.call cl=>Nat.beq d t&&(match cl.callee with
     | .value (.func _)=>true
     | _=>false)
   | _,_=>false)||b1A t l
def b0G (all:List Oper):List Operand->Bool
 | []=>false
 | .tmp t::l=>b1A t all||b0G all l
 | _::l=>b0G all l
def lendOp (c:Ctx) (all:List Oper) (o:Oper):Bool:=match o.op with
 | .call cl=>match cl.callee with
   | .value (.func g)=>b5B g c.callees&&b0G all cl.args.toList
   | _=>false
 | _=>false
def b5q (c:Ctx) (all:List Oper):List Oper->Nat->Option Nat
 | [],_=>none
 | o::l,i=>match lendOp c all o with
   | true=>some i
   | false=>b5q c all l (i+1)
def pickL (c:Ctx) (all:List Oper) (ts:List TV):Option (Nat×List Oper):=match b5q c all all 0 with
 | none=>none
 | some t=>match Nat.ble t all.length with
   | false=>none
   | true=>match a1F all t ts.length with
     | true=>some (t,all)
     | false=>a6d t all ts
def pickG (c:Ctx) (all:List Oper) (ts:List TV):Option (Nat×List Oper):=match b2g c all with
 | true=>match a1F all (a7p c all) ts.length with
   | true=>some (a7p c all,all)
   | false=>a6d (a7p c all) all ts
 | false=>match pickL c all ts with
   | some q=>some q
   | none=>pickF all ts
noncomputable def both (a b:Option R):Option R:=@ite _ (a=b) (Classical.propDecidable _) a none
theorem a6E {a b:Option R} {r:R} (h:both a b=some r):a=some r/\b=some r:=by
 unfold both at h;split at h
 . rename_i he;exact⟨h,he▸h⟩
 . cases h
theorem b2n {a b:Option R} {r:R} (h1:a=some r) (h2:b=some r):both a b=some r:=by
 unfold both;rw[h1,h2,if_pos rfl]
noncomputable def b0J:List (Option R)->Option R
 | []=>none
 | a::l=>match l with
   | []=>a
   | _::_=>both a (b0J l)
theorem a3N:∀ {l:List (Option R)} {r:R},b0J l=some r->∀ a∈l,a=some r
 | [],_,h=>by cases h
 | [a],r,h=>by
   intro b hb;rw[List.mem_singleton.1 hb];exact h
 | a::b::l,r,h=>by
   obtain⟨h1,h2⟩:=a6E h;intro x hx;rcases List.mem_cons.1 hx with rfl|hx
   . exact h1
   . exact a3N h2 x hx
theorem a8q:∀ {l:List (Option R)} {r:R},l≠[]->(∀ a∈l,a=some r)->b0J l=some r
 | [],_,h,_=>absurd rfl h
 | [a],r,_,h=>h a (by simp)
 | a::b::l,r,_,h=>b2n (h a (by simp)) (a8q (by simp) fun x hx=>h x (by simp[hx]))
def b0l (rest:List (Nat×Oper)) (o:Oper):Bool:=allB (fun e=>match Region.binds .any e with
 | true=>!hasN (rest.map (·.1)) e.on
 | false=>true) o.after.toList
def outN (i:Nat) (rest:List (Nat×Oper)):List (Nat×Oper):=rest.filter fun p=>!Nat.beq p.1 i
noncomputable def a5o (c:Ctx) (all:List Oper):Nat->List (Nat×Oper)->St->(St->Option R)->Option R
 | 0,rest,σ,k=>match rest with
   | []=>k σ
   | _::_=>none
 | n+1,rest,σ,k=>match rest with
   | []=>k σ
   | _::_=>b0J ((rest.filter fun p=>b0l rest p.2).map fun p=>opsK c all [p.2] σ fun σ'=>a5o c all n (outN p.1 rest) σ' k)
def b2G (all:List Oper) (ts:List TV):Nat->Option (Nat×List Oper)
 | 0 => match a1S 0 all ts with
   | some all'=>match a4u all' 0 ts.length with
     | true=>some (0,all')
     | false=>none
   | none=>none
 | t + 1=>match a1S (t+1) all ts with
   | some all'=>match a4u all' (t+1) ts.length with
     | true=>some (t+1,all')
     | false=>b2G all ts t
   | none=>b2G all ts t
def b3S (all:List Oper) (m:Nat) (U:List Nat):List (Nat×Oper):=(numb 0 all).filter fun p=>hasN U p.1||Nat.ble m p.1
noncomputable def midK (c:Ctx) (all:List Oper) (m:Nat) (U:List Nat) (σ0 σ:St) (k:St->Option R):Option R:=match U with
 | []=>a5o c all all.length (b3S all m []) σ k
 | u::us=>match nth (all.map some) m none with
   | some o=>opsK c all [o] (b1H all m (u::us) σ0 σ) fun σ'=>a5o c all all.length (outN m (b3S all m (u::us))) σ' k
   | none=>none
def pickY (all:List Oper) (ts:List TV):Option (Nat×List Oper):=match a1S (a1P 0 all) all ts with
 | some all'=>match a5z all' (a1P 0 all) ts.length&&Nat.blt (a1P 0 all) all.length&&Nat.ble (a2a all' (a1P 0 all)).length 6 with
   | true=>some (a1P 0 all,all')
   | false=>none
 | none=>none
noncomputable def drawY (c:Ctx) (q:Nat×List Oper) (σ:St) (k:St->Option R):Option R :=
 a4M c q.2 (q.2.take q.1) (a0c (q.2.take q.1) σ) fun σ'=>b0J (((a2B (a2a q.2 q.1)).filter (okU q.2 q.1)).map fun U=>midK c q.2 q.1 U (a0c (q.2.take q.1) σ) σ' k)
noncomputable def b4z (c:Ctx) (all:List Oper) (σ:St) (k:St->Option R):Option R:=match pickG c all σ.ts with
 | none=>match pickY all σ.ts with
  | some q=>drawY c q σ k
  | none=>match b2G all σ.ts (a1P 0 all)with
   | none=>none
   | some q=>a4j c q.2 (q.2.take q.1) 0 [] (a0c (q.2.take q.1) σ) fun σ'=>a5o c q.2 q.2.length ((numb 0 q.2).drop q.1) σ' k
 | some q=>a4j c q.2 (q.2.take q.1) 0 [] (a0c (q.2.take q.1) σ) fun σ'=>opsK c q.2 (q.2.drop q.1) σ' k
def b0Z (c:Ctx) (o:Oper) (σ:St):Option (Bool×Nat):=match o.op,o.guard with
 | .binOp .eql T x y _,none=>match nilO y,c.tab T,lenOf σ (a0x σ x)with
   | true,some ⟨false,.sl _,_,_⟩,some n=>some (true,n)
   | _,_,_=>none
 | .binOp .neq T x y _,none=>match nilO y,c.tab T,lenOf σ (a0x σ x)with
   | true,some ⟨false,.sl _,_,_⟩,some n=>some (false,n)
   | _,_,_=>none
 | _,_=>none
noncomputable def opsU (c:Ctx) (all:List Oper):List Oper->St->(St->Option R)->Option R
 | [],σ,k=>k σ
 | o::l,σ,k=>match b0Z c o σ with
   | some p=>if 0<p.2 then opsU c all l (σ.put o.dst (vB (!p.1))) k else both (opsU c all l (σ.put o.dst (vB true)) k) (opsU c all l (σ.put o.dst (vB false)) k)
   | none=>opsK c all [o] σ fun σ'=>opsU c all l σ' k
noncomputable def a4Q (g:Cfg) (ops:Array Oper) (draw:Bool) (σ:St) (k:St->Option R):Option R:=match a1M g.kp ops.toList with
 | false=>none
 | true=>match draw with
   | false=>opsU g.c ops.toList ops.toList σ k
   | true=>b4z g.c ops.toList σ k
noncomputable def a1O (g:Cfg) (fin:St->Option R) (O:List Item->St->Option R):Nat->List Item->St->Option R
 | 0,_,_=>none
 | _+1,[],σ=>fin σ
 | s+1,.inBlock _::t,σ=>a1O g fin O s t σ
 | _+1,.inLoop c::t,σ=>O (.inLoop c::t) (a8k g c σ)
 | s + 1,.code c::t,σ=>match c with
   | .skip=>a1O g fin O s t σ
   | .label _=>a1O g fin O s t σ
   | .region id ops draw=>match hasN g.cuts id with
     | true=>O (.code (.region id ops draw)::t) (b3t (g.live id) σ)
     | false=>a4Q g ops draw σ fun σ'=>a1O g fin O s t σ'
   | .seq x y=>a1O g fin O s (.code x :: .code y::t) σ
   | .cond b x y=>match asBool (a0x σ b)with
     | some v=>if v=true then a1O g fin O s (.code x::t) σ else a1O g fin O s (.code y::t) σ
     | none=>none
   | .block id x=>a1O g fin O s (.code x :: .inBlock id::t) σ
   | .loop x=>O (.inLoop x::t) (a8k g x σ)
   | .exit id=>match exitTo id t with
     | some t'=>a1O g fin O s t' σ
     | none=>none
   | .ret=>fin σ
   | _=>none
 | _+1,_::_,_=>none
def big:Nat:=4096
noncomputable def runT (g:Cfg) (fin:St->Option R):Nat->List Item->St->Option R
 | 0,_,_=>none
 | k+1,.inLoop c::t,σ=>a1O g fin (runT g fin k) big (.code c :: .inLoop c::t) σ
 | k+1,.code (.region _ ops draw)::t,σ=>a4Q g ops draw σ fun σ'=>a1O g fin (runT g fin k) big t σ'
 | _+1,_,_=>none
theorem a7u (o:Oper) (k:St->Option R) (x:Option (St×List TV)):a7K o k x=(a7K o some x).bind k:=by cases x<;>rfl
theorem a6G (c:Ctx) (o:Oper) (g:FuncId) (az:List TV) (σ:St) (k:St->Option R) (l:List Callee):a3G c o g az σ k l=(a3G c o g az σ some l).bind k:=by
 induction l with
 | nil=>rfl
 | cons e l ih =>
   simp only[a3G];split
   . split
     . split
       . rw[Option.bind_assoc];congr 1;funext r;exact a7u _ _ _
       . rfl
     . exact ih
   . exact ih
theorem a7W (c:Ctx) (asg:Bool) (o:Oper) (x:Operand) (σ:St) (k:St->Option R):a5m c asg o x σ k=(a5m c asg o x σ some).bind k:=by
 unfold a5m
 repeat' split
 all_goals rfl
theorem b2F (o:Oper) (x y z:Operand) (σ:St) (k:St->Option R):a7B o x y z σ k=(a7B o x y z σ some).bind k:=by
 unfold a7B
 repeat' split
 all_goals rfl
theorem a4z (c : Ctx) (o:Oper) (σ:St) (k:St->Option R):a0E c o σ k=(a0E c o σ some).bind k:=by
 unfold a0E;split
 . exact a7W _ _ _ _ _ _
 . exact a7W _ _ _ _ _ _
 . exact b2F _ _ _ _ _ _
 . unfold a6k;repeat' split
   all_goals rfl
 . unfold boxK;repeat' split
   all_goals rfl
 . unfold a6S;repeat' split
   all_goals rfl
 . split
   . unfold b1V;repeat' split
     all_goals first|rfl|(unfold a6v;repeat' split)
     all_goals rfl
   . rfl
 . unfold a2G;repeat' split
   all_goals rfl
 . unfold binC;split
   . unfold b0x;repeat' split
     all_goals rfl
   . split
     . unfold binK;repeat' split
       all_goals rfl
     unfold eqK;repeat' split
     all_goals first|rfl|(unfold eqB;split<;>rfl)
 . unfold unK;repeat' split
   all_goals rfl
 . unfold a1i;repeat' split
   all_goals rfl
 . unfold a1Y;repeat' split
   all_goals rfl
 . unfold a0p;repeat' split
   all_goals rfl
 . unfold b1w;repeat' split
   all_goals rfl
 . unfold a2t;repeat' split
   all_goals rfl
 . split
   . unfold litK;repeat' split
     all_goals rfl
   . unfold a1z;repeat' split
     all_goals rfl
 . unfold a2F;repeat' split
   all_goals rfl
 . split
   . unfold a6F;repeat' split
     all_goals rfl
   . unfold a4b;repeat' split
     all_goals rfl
 . unfold a2s;repeat' split
   all_goals rfl
 . split
   . unfold subK;repeat' split
     all_goals rfl
   . unfold a6o;repeat' split
     all_goals rfl
 . split
   . split
     . split
       . unfold lenK;repeat' split
         all_goals rfl
       . rfl
     . rfl
   . split
     . split
       . unfold a8x;repeat' split
         all_goals rfl
       . rfl
     . rfl
   . split
     . unfold mmK;repeat' split
       all_goals rfl
     . rfl
   . split
     . unfold mmK;repeat' split
       all_goals rfl
     . rfl
   . split
     . split
       . split
         . unfold b4q;split
           . split
             . split
               . unfold a8w;split
                 . simp only[Option.bind_some];exact a7u _ _ _
                 . rfl
               . rfl
             . rfl
           . rfl
         . rfl
       . unfold b1l;split
         . exact a6G _ _ _ _ _ _ _
         . split
           . exact a6G _ _ _ _ _ _ _
           . rfl
     . unfold a8w;split
       . rw[Option.bind_assoc];congr 1
       . rfl
     . rfl
   . rfl
 . rfl
def Le {A:Type} (f h:A->Option R):Prop:=∀ x r,f x=some r->h x=some r
theorem a5B {c:Ctx} {o:Oper} {σ:St} {k k':St->Option R} (hk:Le k k') {r:R} (h:a0E c o σ k=some r):a0E c o σ k'=some r:=by
 rw[a4z]at h ⊢;cases hs:a0E c o σ some with
 | none=>rw[hs]at h;cases h
 | some σ'=>rw[hs]at h;exact hk _ _ h
theorem a6Z {c:Ctx} {all:List Oper} {k k':St->Option R} (hk:Le k k'):∀ (l:List Oper) (σ:St) {r:R},opsK c all l σ k=some r->opsK c all l σ k'=some r:=by
 intro l;induction l with
 | nil=>intro σ r h;exact hk _ _ h
 | cons o l ih =>
   intro σ r h;simp only[opsK]at h ⊢;split at h
   . exact a5B (fun σ' r' h'=>ih σ' h') h
   . split at h
     . cases h
     . split at h
       . exact ih _ h
       . split at h
         . cases h
         rename_i b hb;cases b with
         | true =>
           simp only[if_true]at h ⊢;split at h
           . exact a5B (fun σ' r' h'=>ih σ' h') h
           . exact ih _ h
         | false =>
           simp only[Bool.false_eq_true,if_false]at h ⊢;split at h
           . exact a5B (fun σ' r' h'=>ih σ' h') h
           . exact ih _ h
theorem a6r {c:Ctx} {all:List Oper} {i:Nat} {mvd:List Nat} {o:Oper} {σ:St} {k k':List Nat->St->Option R} (hk:∀ m,Le (k m) (k' m)) {r:R} (h:a5f c all i mvd o σ k=some r):a5f c all i mvd o σ k'=some r:=by
 unfold a5f at h ⊢;split at h
 . exact a5B (hk _) h
 . split at h
   . split at h
     . exact hk _ _ _ h
     . cases h
   . cases h
theorem b1L {c:Ctx} {all:List Oper} {k k':St->Option R} (hk:Le k k'):∀ (l:List Oper) (i:Nat) (mvd:List Nat) (σ:St) {r:R},a4j c all l i mvd σ k=some r->a4j c all l i mvd σ k'=some r:=by
 intro l;induction l with
 | nil=>intro i mvd σ r h;exact hk _ _ h
 | cons o l ih =>
   intro i mvd σ r h;simp only[a4j]at h ⊢;split at h
   . cases h
   split at h
   . exact a6r (fun m σ' r' h'=>ih _ m σ' h') h
   . split at h
     . cases h
     . split at h
       . exact ih _ _ _ h
       . split at h
         . cases h
         rename_i b hb;cases b with
         | true =>
           simp only[if_true]at h ⊢;split at h
           . exact a6r (fun m σ' r' h'=>ih _ m σ' h') h
           . exact ih _ _ _ h
         | false =>
           simp only[Bool.false_eq_true,if_false]at h ⊢;split at h
           . exact a6r (fun m σ' r' h'=>ih _ m σ' h') h
           . exact ih _ _ _ h
theorem a6s {c:Ctx} {o:Oper} {σ:St} {k k':St->Option R} (hk:Le k k') {r:R} (h:a5g c o σ k=some r):a5g c o σ k'=some r:=by
 unfold a5g at h ⊢;split at h
 . exact a5B hk h
 . cases h
theorem b4J {c:Ctx} {all:List Oper} {k k':St->Option R} (hk:Le k k'):∀ (l:List Oper) (σ:St) {r:R},a4M c all l σ k=some r->a4M c all l σ k'=some r:=by
 intro l;induction l with
 | nil=>intro σ r h;exact hk _ _ h
 | cons o l ih =>
   intro σ r h;simp only[a4M]at h ⊢;split at h
   . exact a6s (fun σ' r' h'=>ih σ' h') h
   . split at h
     . cases h
     . split at h
       . exact ih _ h
       . split at h
         . cases h
         rename_i b hb;cases b with
         | true =>
           simp only[if_true]at h ⊢;split at h
           . exact a6s (fun σ' r' h'=>ih σ' h') h
           . exact ih _ h
         | false =>
           simp only[Bool.false_eq_true,if_false]at h ⊢;split at h
           . exact a6s (fun σ' r' h'=>ih σ' h') h
           . exact ih _ h
theorem a8h {c:Ctx} {all:List Oper} {k k':St->Option R} (hk:Le k k'):∀ (n:Nat) (rest:List (Nat×Oper)) (σ:St) {r:R},a5o c all n rest σ k=some r->a5o c all n rest σ k'=some r:=by
 intro n;induction n with
 | zero =>
   intro rest σ r h;cases rest with
   | nil=>exact hk _ _ h
   | cons p rest=>cases h
 | succ n ih =>
   intro rest σ r h;cases rest with
   | nil=>exact hk _ _ h
   | cons p rest =>
     simp only[a5o]at h ⊢;have h1:=a3N h;refine a8q (fun e=>?_) fun a ha=>?_
     . rw[List.map_eq_nil_iff]at e;rw[e]at h;cases h
     . obtain⟨q,hq,rfl⟩:=List.mem_map.1 ha;exact a6Z (fun σ' r' h'=>ih _ σ' h') _ _ (h1 _ (List.mem_map.2 ⟨q,hq,rfl⟩))
theorem opsU_le {c:Ctx} {all:List Oper} {k k':St->Option R} (hk:Le k k'):∀ (l:List Oper) (σ:St) {r:R},opsU c all l σ k=some r->opsU c all l σ k'=some r:=by
 intro l;induction l with
 | nil=>intro σ r h;exact hk _ _ h
 | cons o l ih =>
   intro σ r h;simp only[opsU]at h ⊢;split at h
   . split at h
     . rename_i h0;simp only[if_pos h0];exact ih _ h
     . rename_i h0;simp only[if_neg h0];obtain⟨h1,h2⟩:=a6E h;exact b2n (ih _ h1) (ih _ h2)
   . exact a6Z (fun σ' r' h'=>ih σ' h') _ _ h
theorem a7l {g:Cfg} {ops:Array Oper} {draw:Bool} {σ:St} {k k':St->Option R} (hk:Le k k') {r:R} (h:a4Q g ops draw σ k=some r):a4Q g ops draw σ k'=some r:=by
 unfold a4Q at h ⊢;split at h
 . cases h
 cases draw with
 | false=>exact opsU_le hk _ _ h
 | true =>
   simp only[b4z]at h ⊢;split at h
   . split at h
     . unfold drawY at h ⊢;refine b4J (fun σ' r' h'=>?_) _ _ h;have h1:=a3N h';refine a8q (fun e=>?_) fun a ha=>?_
       . rw[List.map_eq_nil_iff]at e;rw[e]at h';cases h'
       . obtain⟨U,hU,rfl⟩:=List.mem_map.1 ha;have h2:=h1 _ (List.mem_map.2 ⟨U,hU,rfl⟩);unfold midK at h2 ⊢;cases U with
         | nil=>exact a8h hk _ _ _ h2
         | cons u us =>
           simp only[]at h2 ⊢;split at h2
           . exact a6Z (fun σ2 r2 h3=>a8h hk _ _ _ h3) _ _ h2
           . cases h2
     split at h
     . cases h
     . exact b1L (fun σ' r' h'=>a8h hk _ _ _ h') _ _ _ _ h
   . exact b1L (fun σ' r' h'=>a6Z hk _ _ h') _ _ _ _ h
def Le2 {A B:Type} (f h:A->B->Option R):Prop:=∀ x y r,f x y=some r->h x y=some r
theorem a6t {g:Cfg} {fin:St->Option R} {O O':List Item->St->Option R} (hO:Le2 O O'):∀ (s:Nat) (t:List Item) (σ:St) (r:R),a1O g fin O s t σ=some r->a1O g fin O' s t σ=some r:=by
 intro s;induction s with
 | zero=>intro t σ r h;cases h
 | succ s ih =>
   intro t σ r h;cases t with
   | nil=>exact h
   | cons x t =>
     cases x with
     | code c =>
       cases c with
       | skip=>exact ih _ _ _ h
       | label l=>exact ih _ _ _ h
       | region id ops draw =>
         simp only[a1O]at h ⊢;cases hc:hasN g.cuts id with
         | true=>rw[hc]at h;exact hO _ _ _ h
         | false=>rw[hc]at h;exact a7l (fun σ' r' h'=>ih _ _ _ h') h
       | seq a b=>exact ih _ _ _ h
       | cond b x y =>
         simp only[a1O]at h ⊢;split at h
         . rename_i v hv;cases v with
           | true=>exact ih _ _ _ h
           | false=>exact ih _ _ _ h
         . cases h
       | block id b=>exact ih _ _ _ h
       | loop b=>exact hO _ _ _ h
       | exit id =>
         simp only[a1O]at h ⊢;split at h
         . exact ih _ _ _ h
         . cases h
       | ret=>exact h
       | _=>cases h
     | inBlock id=>exact ih _ _ _ h
     | inLoop c=>exact hO _ _ _ h
     | _=>cases h
theorem a9o {g:Cfg} {fin:St->Option R}:∀ k,Le2 (runT g fin k) (runT g fin (k+1)):=by
 intro k;induction k with
 | zero=>intro t σ r h;cases h
 | succ k ih =>
   intro t σ r h
   match t,h with
   | .inLoop c::t,h=>exact a6t ih _ _ _ _ h
   | .code (.region id ops draw)::t,h=>exact a7l (fun σ' r' h'=>a6t ih _ _ _ _ h') h
theorem runT_le {g:Cfg} {fin:St->Option R} {k k':Nat} (h:k≤k'):Le2 (runT g fin k) (runT g fin k'):=by
 induction h with
 | refl=>intro t σ r h;exact h
 | step _ ih=>intro t σ r h;exact a9o _ _ _ _ (ih _ _ _ h)
end Go.Vm
end
section
namespace Go.Vm
variable {P:Program} {R:Type}
theorem a9h (rs:List (Nat×Root)):∀ (l:List Nat) (q:Nat),rget (a5a rs l) q=if q∈l then rget rs q else none:=by
 intro l;induction l with
 | nil=>intro q;simp[a5a,rget]
 | cons r l ih =>
   intro q;simp only[a5a];cases hr:rget rs r with
   | none =>
     simp only[ih,List.mem_cons];by_cases hq:q=r
     . subst hq;simp[hr]
     . simp[hq]
   | some x =>
     simp only[rget];cases hd:Nat.decEq r q with
     | isTrue h=>subst h;simp[hr]
     | isFalse h=>simp only[ih,List.mem_cons,Ne.symm h,false_or]
mutual
theorem a4V {rs rs':List (Nat×Root)} {G:Nat->RG} {w:World} {l:List Nat} (hrs:∀ q,q∈l->rget rs' q=rget rs q) :
   ∀ (t:TV) (v:Value) (S A:List Nat),t.within l=true->TRep P rs G w t v S A->TRep P rs' G w t v S A
 | .dead,_,_,_,_,h=>h
 | .val agg cs,v,S,A,_,h=>h
 | .rptr s cs,v,S,A,_,h=>h
 | .ref q p,v,S,A,hu,h=>by
   obtain⟨rfl,rfl,x,ad,us,hx,hp,hl,rfl⟩:=h;exact⟨rfl,rfl,x,ad,us,by rw[hrs q (a0Q hu)];exact hx,hp,hl,rfl⟩
 | .view q p n agg,v,S,A,hu,h=>by
   obtain⟨rfl,rfl,x,ad,us,hx,hp,hl,h1,h2⟩:=h;exact⟨rfl,rfl,x,ad,us,by rw[hrs q (a0Q hu)];exact hx,hp,hl,h1,h2⟩
 | .fn f caps,v,S,A,hu,h=>by
   obtain⟨vs,rfl,h⟩:=h;exact⟨vs,rfl,a3c hrs caps vs S A (by simpa[TV.within]using hu) h⟩
 | .fnx s g,v,S,A,_,h=>h
 | .tup k ts,v,S,A,hu,h=>by
   obtain⟨vs,hv,h⟩:=h;exact⟨vs,hv,a3c hrs ts vs S A (by simpa[TV.within]using hu) h⟩
 | .pfn t,v,S,A,hu,h=>by
   obtain⟨ad,u,S0,rfl,hc,hlt,h,rfl⟩:=h;exact⟨ad,u,S0,rfl,hc,hlt,a4V hrs t u S0 A (by simpa[TV.within]using hu) h,rfl⟩
theorem a3c {rs rs':List (Nat×Root)} {G:Nat->RG} {w:World} {l:List Nat} (hrs:∀ q,q∈l->rget rs' q=rget rs q) :
   ∀ (ts:List TV) (vs:List Value) (S A:List Nat),TV.withinL l ts=true->a1k P rs G w ts vs S A->a1k P rs' G w ts vs S A
 | [],_,_,_,_,h=>h
 | t::ts,vs,S,A,hu,h=>by
   obtain⟨v,vs',S1,S2,A1,A2,rfl,rfl,rfl,h1,h2⟩:=h;simp only[TV.withinL,Bool.and_eq_true]at hu;exact⟨v,vs',S1,S2,A1,A2,rfl,rfl,rfl,a4V hrs t v S1 A1 hu.1 h1,a3c hrs ts vs' S2 A2 hu.2 h2⟩
end
theorem b2z (lt lr:List Nat):∀ (ts:List TV) (n i:Nat) (t':TV),(a5W lt lr n ts)[i]? = some t'->t' = .dead∨(ts[i]? = some t'/\t'.within lr=true):=by
 intro ts;induction ts with
 | nil=>intro n i t' h;simp[a5W]at h
 | cons t ts ih =>
   intro n i t' h;cases i with
   | zero =>
     simp only[a5W,List.getElem?_cons_zero,Option.some.injEq]at h;cases hb:(hasN lt n&&t.within lr)with
     | true =>
       rw[hb]at h;subst h;simp only[Bool.and_eq_true]at hb;exact .inr ⟨rfl,hb.2⟩
     | false=>rw[hb]at h;exact .inl h.symm
   | succ i =>
     simp only[a5W,List.getElem?_cons_succ]at h ⊢;exact ih _ _ _ h
theorem a8J (lt lr:List Nat):∀ (ts:List TV) (n:Nat),(a5W lt lr n ts).length=ts.length:=by
 intro ts;induction ts with
 | nil=>intro n;rfl
 | cons t ts ih=>intro n;simp[a5W,ih]
theorem a6H {E:Env} {σ:St} {a:Act} {w:World} {G:Nat->RG} (h:Rel P E σ a w G) (l:List Nat×List Nat):Rel P E (b3t l σ) a w G:=by
 have hrs:∀ q,q∈l.2->rget (a5a σ.rs l.2) q=rget σ.rs q:=fun q hq=>by rw[a9h,if_pos hq]
 refine⟨h.defers,?_,a6z h.r fun q x hx=>?_⟩
 . refine a1v h.temps (by rw[b3t];exact a8J _ _ _ _) fun i t' ht'=>?_;rcases b2z _ _ _ _ _ _ ht' with rfl|⟨h1,h2⟩
   . exact .inl rfl
   . exact .inr ⟨t',h1,fun v S A hS hf=>⟨a4V hrs t' v S A h2 hS,hf⟩⟩
 . have hx:rget (a5a σ.rs l.2) q=some x:=hx;rw[a9h]at hx;split at hx
   . exact hx
   . cases hx
theorem a4d {E:Env} {σ:St} {a:Act} {w:World} {G:Nat->RG} (h:Rel P E σ a w G) (g:Cfg) (c:Code):∃ G',Rel P E (a8k g c σ) a w G':=by
 unfold a8k;split
 . obtain⟨G',h'⟩:=a5k _ σ G h;exact⟨G',a6H h' _⟩
 . exact⟨G,h⟩
theorem Oper.wp_put {o:Oper} {a:Act} {w:World} {K:Act->World->Prop} {Q:Exit->Act->World->Prop} (h:o.wp P a w K Q):o.wp P a w (fun a' w'=>K a' w'/\∃ v ds,a'.tmps=(({ a with defers:=ds }:Act).put o.dst v).tmps) Q:=by
 unfold Oper.wp at *;generalize (execOp a.eval o).run P w=r at *;have e:∀ v,(a.put o.dst v).tmps=(({ a with defers:=a.defers }:Act).put o.dst v).tmps:=fun v=>rfl;cases r with
 | ok n w' =>
   cases n<;>simp only[Oper.upon]at h ⊢
   case value v=>exact⟨h,v,a.defers,rfl⟩
   case skip=>exact⟨h,undef,a.defers,rfl⟩
   case defer d=>exact⟨h,undef,d::a.defers,rfl⟩
   case enter f args=>exact Calls.mono h (fun e w'' he=>by cases e<;>first|exact⟨he,_,a.defers,rfl⟩|exact he)
   case row row args=>exact Rows.mono h (fun v w'' he=>⟨he,v,a.defers,rfl⟩)
 | halt x w'=>cases x<;>simp only[Oper.upon]at h ⊢<;>exact h
def Keep (kv:List (Nat×Value)) (a:Act):Prop:=∀ p∈kv,a.tmps[p.1]? = some p.2
theorem a3v {kv:List (Nat×Value)} {a a':Act} (h:Keep kv a) {d:Option Tmp} {v:Value} {ds:List Deferred} (ha:a'.tmps=(({ a with defers:=ds }:Act).put d v).tmps) (hd:∀ e,d=some e->e∉kv.map (·.1)):Keep kv a':=by
 intro p hp;rw[ha,b4R];cases d with
 | none=>exact h p hp
 | some e =>
   have hne:e≠p.1:=fun he=>hd e rfl (he▸List.mem_map.2 ⟨p,hp,rfl⟩);simp only[];rw[Array.getElem?_setIfInBounds_ne hne];exact h p hp
def a2o (P:Program) (E:Env) (kv:List (Nat×Value)) (k:St->Option R) (r:R) (e:Exit) (a:Act) (w:World):Prop:=e = .normal/\Keep kv a/\∃ σ G,Rel P E σ a w G/\k σ=some r
theorem a1X {kp:List Nat}:∀ {l:List Oper},a1M kp l=true->∀ o∈l,∀ d,o.dst=some d->d∉kp:=by
 intro l;induction l with
 | nil=>intro _ o ho;cases ho
 | cons x l ih =>
   intro h o ho d hd;simp only[a1M,Bool.and_eq_true]at h;simp only[List.mem_cons]at ho;rcases ho with rfl|ho
   . rw[hd]at h;exact a3m (by simpa using h.1)
   . exact ih h.2 o ho d hd
theorem vB_of {σ:St} {t:Nat} {b:Bool} (h:asBool (nth σ.ts t .dead)=some b):nth σ.ts t .dead=vB b/\t<σ.ts.length:=by
 rw[a0l]at h ⊢;cases ht:σ.ts[t]? with
 | none=>rw[ht]at h;cases h
 | some tv =>
   rw[ht]at h;have hl:t<σ.ts.length:=by
     rcases Nat.lt_or_ge t σ.ts.length with h|h
     . exact h
     . rw[List.getElem?_eq_none h]at ht;cases ht
   refine⟨?_,hl⟩;simp only[Option.getD_some]at h ⊢;unfold asBool at h;split at h
   . obtain rfl:=Option.some.inj h;rfl
   . cases h
theorem b1a {l:List TV} {i:Nat} {x:TV} (h:nth l i .dead=x) (hl:i<l.length):upd l i x=l:=by
 rw[a5h];rw[a0l,List.getElem?_eq_getElem hl]at h;simp only[Option.getD_some]at h;rw[<-h];exact List.set_getElem_self hl
theorem b1Z (rs:List (Nat×Root)) (G:Nat->RG) (w:World):TRep P rs G w und undef [] []:=⟨[],rfl,rfl,rfl,rfl⟩
theorem und_get {E:Env} {σ:St} {a:Act} {w:World} {G:Nat->RG} (h:Rel P E σ a w G) {t:Nat} (hu:b0U (nth σ.ts t .dead)=true):a.tmps[t]? = some undef:=by
 rw[a0l]at hu;cases ht:σ.ts[t]? with
 | none=>rw[ht]at hu;cases hu
 | some tv =>
   rw[ht]at hu;simp only[Option.getD_some]at hu;obtain⟨v,S,A,hv,hr,-⟩:=h.temps.2 t tv ht;unfold b0U at hu;split at hu
   . obtain⟨vs,rfl,h1,-⟩:=hr;subst h1;exact hv
   . cases hu
theorem b0q {E:Env} {σ:St} {a:Act} {w:World} {G:Nat->RG} (h:Rel P E σ a w G) {t:Nat} (hu:b0U (nth σ.ts t .dead)=true):(match (some t).bind (a.tmps[·]?)with
   | some (.bool b)=>some b
   | _=>none)=none:=by
 simp only[Option.bind_some,und_get h hu];rfl
theorem b3G {E:Env} {c:Ctx} (hctx:CtxOK P c) {ops:Array Oper} {K:St->Option R} {r:R} {X:Exit->Act->World->Prop} {kv:List (Nat×Value)} (hkp:a1M (kv.map (·.1)) ops.toList=true) (o:Oper) (i:Nat) (is:List Nat) (σ:St) (a:Act) (w:World) (G:Nat->RG) (hi:ops[i]? = some o)
   (h:opsK c ops.toList [o] σ K=some r) (hrel:Rel P E σ a w G) (hkeep:Keep kv a) (hK:∀ σ' a' w' G',K σ'=some r->Rel P E σ' a' w' G'->Keep kv a'->wpOps P ops X is a' w'):wpOps P ops X (i::is) a w:=by
 have hmem:o∈ops.toList:=by
   have:=Array.mem_of_getElem? hi;simpa using this
 have hd:=a1X hkp o hmem;have run:∀ σ',Rel P E σ' a w G->(a0E c o σ' K)=some r->o.wp P a w (wpOps P ops X is) X:=by
   intro σ' hrel' h;refine Oper.wp_mono (fun a' w' h'=>?_) (Oper.wp_put (a7t hctx hrel' h X));obtain⟨⟨σ2,G2,h1,h2⟩,v,ds,h3⟩:=h';exact hK σ2 a' w' G2 h2 h1 (a3v hkeep h3 hd)
 simp only[opsK]at h;simp only[wpOps,hi];cases hg:o.guard with
 | none =>
   rw[hg]at h;have hw:Region.wanted o (yielded ops a.tmps)=true:=by simp[Region.wanted,hg]
   rw[if_pos hw];exact .inl (run σ hrel h)
 | some gw =>
   obtain⟨j,want⟩:=gw;rw[hg]at h;simp only[]at h;split at h
   . cases h
   rename_i t ht;have hdst:(ops[j]?).bind (·.dst)=some t:=by
     rw[a0l,List.getElem?_map]at ht;cases hoj:ops[j]? with
     | none=>simp[hoj]at ht
     | some oj=>simpa[hoj]using ht
   have skip:∀ σ',Rel P E σ' a w G->K (σ'.put o.dst und)=some r->wpOps P ops X is (a.put o.dst undef) w:=by
     intro σ' hrel' h';exact hK _ _ w G h' (a0A hrel' o.dst (t:=und) (b1Z _ _ _) (Fine2.nil _ _)) (a3v hkeep (ds:=a.defers) rfl hd)
   split at h
   . rename_i hu;have hyield:yielded ops a.tmps j=none:=by
       unfold yielded;rw[hdst];exact b0q hrel hu
     have hwanted:Region.wanted o (yielded ops a.tmps)=false:=by
       simp only[Region.wanted,hg,hyield];rfl
     rw[hwanted];exact skip σ hrel h
   split at h
   . cases h
   rename_i b hb;obtain⟨htv,htl⟩:=vB_of hb;have hself:=b1a htv htl;obtain⟨v,S,A,hv,hr,hf⟩:=hrel.temps.2 t (vB b) (by rw[a0l,List.getElem?_eq_getElem htl]at htv;rw[List.getElem?_eq_getElem htl];simpa using htv);have hvb:=a2K hr rfl;subst hvb;have hyield:yielded ops a.tmps j=some b:=by
     unfold yielded;rw[hdst];simp[hv]
   have hwanted:Region.wanted o (yielded ops a.tmps)=(b==want):=by
     simp only[Region.wanted,hg,hyield];cases b<;>cases want<;>rfl
   cases b with
   | true =>
     simp only[if_true]at h;rw[hself]at h;cases want with
     | true=>rw[hwanted];exact .inl (run σ hrel h)
     | false=>rw[hwanted];exact skip σ hrel h
   | false =>
     simp only[Bool.false_eq_true,if_false]at h;rw[hself]at h;cases want with
     | false=>rw[hwanted];exact .inl (run σ hrel h)
     | true=>rw[hwanted];exact skip σ hrel h
theorem b3V (w:World) (d:Nat) (t e:TypeId) (a:Option Addr) (l c:Nat) (h:P.underlying t=some (.slice e)):(Op.equalIn (d+1) t (.slice a l c) (.slice none 0 0)).run P w = .ok a.isNone w:=by
 cases a<;>simp[Op.equalIn,run_underlying h]
theorem b0z (w:World) (t e:TypeId) (a:Option Addr) (l c:Nat) (h:P.underlying t=some (.slice e)):(Op.equal t (.slice a l c) (.slice none 0 0)).run P w = .ok a.isNone w:=b3V w 9999 t e a l c h
theorem b4b (w:World) (t e:TypeId) (a:Option Addr) (l c:Nat) (h:P.underlying t=some (.slice e)):(binOp .eql t (.slice a l c) (.slice none 0 0)).run P w = .ok (.bool a.isNone) w:=by
 simp only[binOp];simp[b0z w t e a l c h]
theorem b4c (w:World) (t e:TypeId) (a:Option Addr) (l c:Nat) (h:P.underlying t=some (.slice e)):(binOp .neq t (.slice a l c) (.slice none 0 0)).run P w = .ok (.bool (!a.isNone)) w:=by
 simp only[binOp];simp[b0z w t e a l c h]
theorem b3D {E:Env} {c:Ctx} (ht:TabOK P c.tab) {o:Oper} {σ:St} {a:Act} {w:World} {G:Nat->RG} {p:Bool×Nat} (h:Rel P E σ a w G) (hn:b0Z c o σ=some p) :
   o.guard=none/\∃ b:Bool,(execOp a.eval o).run P w = .ok (.value (.bool b)) w/\(0<p.2->b=!p.1):=by
 have val:∀ (x:Operand) (n:Nat),lenOf σ (a0x σ x)=some n->∃ A cc,a.eval x = .slice A n cc/\(0<n->A≠none):=by
   intro x n hl;obtain⟨S1,A1,hx,hf⟩:=a0q h x;unfold lenOf at hl;split at hl
   . rename_i t0 m xs he;obtain rfl:=Option.some.inj hl;rw[he]at hx;obtain⟨rfl,vs,hr,hs⟩:=hx;obtain⟨u,us,F1,F2,T1,T2,rfl,hF,rfl,hc,h2⟩:=a0V hr;obtain⟨rfl,-,-⟩:=h2;simp only[a0F,Bool.false_eq_true,if_false,List.cons.injEq,and_true]at hs;subst hs;obtain⟨A,cc,us',Fe,Se,hv,-,-,hne,-⟩:=a3u (t:=t0) (m:=m) (xs:=xs) hc;exact⟨A,cc,hv,fun h0=>hne (by omega)⟩
   . rename_i q p he;split at hl
     . cases hl
     rename_i root hroot;split at hl
     . rename_i t0 m xs rest hg;obtain rfl:=Option.some.inj hl;rw[he]at hx;obtain⟨rfl,rfl,y,ad0,us,hy,hp,hlc,hn1,hs⟩:=hx;rw[hy]at hroot;obtain rfl:=Option.some.inj hroot;obtain⟨F,S,hrep,-⟩:=a1G (h.r.roots q y hy) (h.r.nodup q) hp hlc;rw[hg]at hrep;obtain⟨u,us',F1,F2,T1,T2,rfl,-,-,hc,-⟩:=a0V hrep;simp only[a0F,Bool.false_eq_true,if_false,List.take_succ_cons,List.take_zero,List.cons.injEq,and_true]at hs;obtain⟨A,cc,us',Fe,Se,hv,-,-,hne,-⟩:=a3u (t:=t0) (m:=m) (xs:=xs) hc;exact⟨A,cc,hs▸hv,fun h0=>hne (by omega)⟩
     . cases hl
   . cases hl
 have nil:∀ y,nilO y=true->a.eval y = .slice none 0 0:=by
   intro y hy;rw[a4L hy];rfl
 unfold b0Z at hn;split at hn
 . rename_i T x y T' ho hg;split at hn
   . rename_i t e fs n hy hT hl;obtain rfl:=Option.some.inj hn;obtain⟨hu,-⟩:=ht.slice T _ e fs hT;obtain⟨A,cc,hv,hA⟩:=val x _ hl;refine⟨hg,A.isNone,?_,fun h0=>?_⟩
     . simp only[execOp,ho,hv,nil y hy,Sem.run_bind];simp[eqGuard,b4b w T e A _ cc hu]
     . have:=hA h0;cases A with
       | none=>exact absurd rfl this
       | some ad=>rfl
   . cases hn
 . rename_i T x y T' ho hg;split at hn
   . rename_i t e fs n hy hT hl;obtain rfl:=Option.some.inj hn;obtain⟨hu,-⟩:=ht.slice T _ e fs hT;obtain⟨A,cc,hv,hA⟩:=val x _ hl;refine⟨hg,!A.isNone,?_,fun h0=>?_⟩
     . simp only[execOp,ho,hv,nil y hy,Sem.run_bind];simp[eqGuard,b4c w T e A _ cc hu]
     . have:=hA h0;cases A with
       | none=>exact absurd rfl this
       | some ad=>rfl
   . cases hn
 . cases hn
theorem b2A {E:Env} {c:Ctx} (hctx:CtxOK P c) {ops:Array Oper} {k:St->Option R} {r:R} {kv:List (Nat×Value)} (hkp:a1M (kv.map (·.1)) ops.toList=true):∀ (l:List Oper) (is:List Nat) (σ:St) (a:Act) (w:World) (G:Nat->RG),is.map (ops[·]?)=l.map some →
   opsU c ops.toList l σ k=some r->Rel P E σ a w G->Keep kv a->wpOps P ops (a2o P E kv k r) is a w:=by
 intro l;induction l with
 | nil =>
   intro is σ a w G his h hrel hkeep;have:is=[]:=by simpa using his
   subst this;exact⟨rfl,hkeep,σ,G,hrel,h⟩
 | cons o l ih =>
   intro is σ a w G his h hrel hkeep;cases is with
   | nil=>simp at his
   | cons i is =>
     simp only[List.map_cons,List.cons.injEq]at his;obtain⟨hi,his⟩:=his;simp only[opsU]at h;split at h
     . rename_i p hp;obtain⟨hg,b,hrun,hb⟩:=b3D hctx.tab hrel hp;have hmem:o∈ops.toList:=by
         have:=Array.mem_of_getElem? hi;simpa using this
       have hd:=a1X hkp o hmem;have hk:opsU c ops.toList l (σ.put o.dst (vB b)) k=some r:=by
         split at h
         . rename_i h0;rw[hb h0];exact h
         . obtain⟨h1,h2⟩:=a6E h;cases b
           . exact h2
           . exact h1
       have hgood:Good P E o a w (fun σ'=>opsU c ops.toList l σ' k) r:=a0v hrun (a0A hrel o.dst (a2L _ _ _ _) (Fine2.nil _ _)) hk;simp only[wpOps,hi];have hw:Region.wanted o (yielded ops a.tmps)=true:=by simp[Region.wanted,hg]
       rw[if_pos hw];refine .inl (Oper.wp_mono (fun a' w' h'=>?_) (Oper.wp_put (hgood (a2o P E kv k r))));obtain⟨⟨σ2,G2,h1,h2⟩,v,ds,h3⟩:=h';exact ih is σ2 a' w' G2 his h2 h1 (a3v hkeep h3 hd)
     . exact b3G hctx hkp o i is σ a w G hi h hrel hkeep fun σ' a' w' G' h1 h2 h3=>ih is σ' a' w' G' his h1 h2 h3
end Go.Vm
end
section
namespace Go.Vm
variable {P:Program} {R:Type}
structure Ent where
 w:Bool
 N:List (Nat×Root)
 t:TV
 M:List Nat
def a2Z (all:List Oper) (σ:St) (o:Oper):Option Bool:=match o.guard with
 | none=>some true
 | some (j,want)=>match (nth (all.map some) j none).bind (·.dst)with
   | none=>none
   | some t=>match b0U (nth σ.ts t .dead)with
     | true=>some false
     | false=>match asBool (nth σ.ts t .dead)with
       | none=>none
       | some b=>some (b==want)
def b2Y (c:Ctx) (all:List Oper) (i:Nat) (mvd:List Nat) (o:Oper) (σ:St) (e:Ent):Prop :=
 a2Z all σ o=some e.w/\freeO all mvd σ o=true/\(e.w=true/\LocM c o σ e.M e.N e.t/\(∀ r∈e.M,sepB all i e.M σ=true)∨e.w=false/\e.N=[]/\e.M=[]/\e.t=und)
def next (o:Oper) (e:Ent) (σ:St):St:=(a2j e.N σ).put o.dst e.t
inductive TextRun (c:Ctx) (all:List Oper):List Oper->Nat->List Nat->St->List Ent->List St->Prop
 | nil (i:Nat) (mvd:List Nat) (σ:St):TextRun c all [] i mvd σ [] [σ]
 | cons {o:Oper} {l:List Oper} {i:Nat} {mvd:List Nat} {σ:St} {e:Ent} {es:List Ent} {ss:List St} (h:b2Y c all i mvd o σ e) (k:TextRun c all l (i+1) (e.M++mvd) (next o e σ) es ss):TextRun c all (o::l) i mvd σ (e::es) (σ::ss)
theorem a1a {σ:St} {t:Nat} {b:Bool} (h:asBool (nth σ.ts t .dead)=some b):(⟨upd σ.ts t (vB b),σ.rs⟩:St)=σ:=by
 obtain⟨h1,h2⟩:=vB_of h;rw[b1a h1 h2]
theorem a6a {c:Ctx} {all:List Oper} {k:St->Option R} {r:R}:∀ (l:List Oper) (i:Nat) (mvd:List Nat) (σ:St),(∀ o∈l,∃ d,o.dst=some d)->a4j c all l i mvd σ k=some r →
   ∃ es ss σn mvn,TextRun c all l i mvd σ es ss/\ss.getLast? = some σn/\k (a0G mvn σn)=some r/\∀ q,q∈mvn↔q∈mvd∨∃ (j:Nat) (e:Ent),es[j]? = some e/\q∈e.M:=by
 intro l;induction l with
 | nil=>intro i mvd σ _ h;exact⟨[],[σ],σ,mvd,.nil i mvd σ,rfl,h,fun q=>by simp⟩
 | cons o l ih =>
   intro i mvd σ hd h;have hdl:∀ o∈l,∃ d,o.dst=some d:=fun o ho=>hd o (by simp[ho]);have fin:∀ (e:Ent),b2Y c all i mvd o σ e->a4j c all l (i+1) (e.M++mvd) (next o e σ) k=some r →
       ∃ es ss σn mvn,TextRun c all (o::l) i mvd σ es ss/\ss.getLast? = some σn/\k (a0G mvn σn)=some r/\∀ q,q∈mvn↔q∈mvd∨∃ (j:Nat) (e:Ent),es[j]? = some e/\q∈e.M:=by
     intro e he h;obtain⟨es,ss,σn,mvn,h1,h2,h3,h4⟩:=ih _ _ _ hdl h;refine⟨e::es,σ::ss,σn,mvn,.cons he h1,?_,h3,fun q=>?_⟩
     . cases ss with
       | nil=>cases h2
       | cons s ss=>rw[List.getLast?_cons_cons];exact h2
     . rw[h4,List.mem_append];constructor
       . rintro((h5|h5)|⟨j,e',h5,h6⟩)
         . exact .inr ⟨0,e,rfl,h5⟩
         . exact .inl h5
         . exact .inr ⟨j+1,e',by simpa using h5,h6⟩
       . rintro(h5|⟨j,e',h5,h6⟩)
         . exact .inl (.inr h5)
         . cases j with
           | zero =>
             simp only[List.getElem?_cons_zero,Option.some.injEq]at h5;subst h5;exact .inl (.inl h6)
           | succ j=>exact .inr ⟨j,e',by simpa using h5,h6⟩
   simp only[a4j]at h;split at h
   . cases h
   rename_i hfree;have run:a2Z all σ o=some true->(a5f c all i mvd o σ fun mvd' σ'=>a4j c all l (i+1) mvd' σ' k)=some r →
       ∃ es ss σn mvn,TextRun c all (o::l) i mvd σ es ss/\ss.getLast? = some σn/\k (a0G mvn σn)=some r/\∀ q,q∈mvn↔q∈mvd∨∃ (j:Nat) (e:Ent),es[j]? = some e/\q∈e.M:=by
     intro hw h;unfold a5f at h;split at h
     . rename_i hreg;have h0:=h;rw[a4z]at h;cases hs:a0E c o σ some with
       | none=>rw[hs]at h;cases h
       | some σ1 =>
         obtain⟨N,t,hloc⟩:=b1G (hd o (by simp)) hreg hs;have:=hloc.step σ ⟨fun x _=>rfl,fun x _ r _=>rfl⟩ (fun σ'=>a4j c all l (i+1) mvd σ' k);rw[this]at h0;exact fin ⟨true,N,t,[]⟩ ⟨hw,hfree,.inl ⟨rfl,hloc.locM,by simp⟩⟩ h0
     . split at h
       . rename_i q hq;split at h
         . rename_i hsep;exact fin ⟨true,[q.2.1],q.2.2,q.1⟩ ⟨hw,hfree,.inl ⟨rfl,b4G hq,fun _ _=>hsep⟩⟩ h
         . cases h
       . cases h
   cases hg:o.guard with
   | none =>
     rw[hg]at h;exact run (by simp[a2Z,hg]) h
   | some gw =>
     obtain⟨j,want⟩:=gw;rw[hg]at h;simp only[]at h;split at h
     . cases h
     rename_i t ht;split at h
     . rename_i hu;exact fin ⟨false,[],und,[]⟩ ⟨by simp only[a2Z,hg,ht,hu],hfree,.inr ⟨rfl,rfl,rfl,rfl⟩⟩ h
     rename_i hu;split at h
     . cases h
     rename_i b hb;have hw:a2Z all σ o=some (b==want):=by simp only[a2Z,hg,ht,hb,hu]
     cases b with
     | true =>
       simp only[if_true]at h;rw[a1a hb]at h;cases want with
       | true=>exact run hw h
       | false=>exact fin ⟨false,[],und,[]⟩ ⟨hw,hfree,.inr ⟨rfl,rfl,rfl,rfl⟩⟩ h
     | false =>
       simp only[Bool.false_eq_true,if_false]at h;rw[a1a hb]at h;cases want with
       | false=>exact run hw h
       | true=>exact fin ⟨false,[],und,[]⟩ ⟨hw,hfree,.inr ⟨rfl,rfl,rfl,rfl⟩⟩ h
theorem b3H {c:Ctx} {all:List Oper} {k:St->Option R} {r:R}:∀ (l:List Oper) (i:Nat) (σ:St),(∀ o∈l,∃ d,o.dst=some d)->a4M c all l σ k=some r →
   ∃ es ss σn,TextRun c all l i [] σ es ss/\ss.getLast? = some σn/\k σn=some r/\∀ e∈es,e.M=[]:=by
 intro l;induction l with
 | nil=>intro i σ _ h;exact⟨[],[σ],σ,.nil i [] σ,rfl,h,fun e he=>by cases he⟩
 | cons o l ih =>
   intro i σ hd h;have hdl:∀ o∈l,∃ d,o.dst=some d:=fun o ho=>hd o (by simp[ho]);have fin:∀ (e:Ent),e.M=[]->b2Y c all i [] o σ e->a4M c all l (next o e σ) k=some r →
       ∃ es ss σn,TextRun c all (o::l) i [] σ es ss/\ss.getLast? = some σn/\k σn=some r/\∀ e∈es,e.M=[]:=by
     intro e hM he h;obtain⟨es,ss,σn,h1,h2,h3,h4⟩:=ih (i+1) _ hdl h;refine⟨e::es,σ::ss,σn,.cons he (by rw[hM];exact h1),?_,h3,fun e' he'=>?_⟩
     . cases ss with
       | nil=>cases h2
       | cons s ss=>rw[List.getLast?_cons_cons];exact h2
     . rcases List.mem_cons.1 he' with rfl|he'
       . exact hM
       . exact h4 e' he'
   simp only[a4M]at h;have run:a2Z all σ o=some true->(a5g c o σ fun σ'=>a4M c all l σ' k)=some r →
       ∃ es ss σn,TextRun c all (o::l) i [] σ es ss/\ss.getLast? = some σn/\k σn=some r/\∀ e∈es,e.M=[]:=by
     intro hw h;unfold a5g at h;split at h
     . rename_i hreg;have h0:=h;rw[a4z]at h;cases hs:a0E c o σ some with
       | none=>rw[hs]at h;cases h
       | some σ1 =>
         obtain⟨N,t,hloc⟩:=b1G (hd o (by simp)) hreg hs;have:=hloc.step σ ⟨fun x _=>rfl,fun x _ r _=>rfl⟩ (fun σ'=>a4M c all l σ' k);rw[this]at h0;exact fin ⟨true,N,t,[]⟩ rfl ⟨hw,rfl,.inl ⟨rfl,hloc.locM,by simp⟩⟩ h0
     . cases h
   cases hg:o.guard with
   | none =>
     rw[hg]at h;exact run (by simp[a2Z,hg]) h
   | some gw =>
     obtain⟨j,want⟩:=gw;rw[hg]at h;simp only[]at h;split at h
     . cases h
     rename_i t ht;split at h
     . rename_i hu;exact fin ⟨false,[],und,[]⟩ rfl ⟨by simp only[a2Z,hg,ht,hu],rfl,.inr ⟨rfl,rfl,rfl,rfl⟩⟩ h
     rename_i hu;split at h
     . cases h
     rename_i b hb;have hw:a2Z all σ o=some (b==want):=by simp only[a2Z,hg,ht,hb,hu]
     cases b with
     | true =>
       simp only[if_true]at h;rw[a1a hb]at h;cases want with
       | true=>exact run hw h
       | false=>exact fin ⟨false,[],und,[]⟩ rfl ⟨hw,rfl,.inr ⟨rfl,rfl,rfl,rfl⟩⟩ h
     | false =>
       simp only[Bool.false_eq_true,if_false]at h;rw[a1a hb]at h;cases want with
       | false=>exact run hw h
       | true=>exact fin ⟨false,[],und,[]⟩ rfl ⟨hw,rfl,.inr ⟨rfl,rfl,rfl,rfl⟩⟩ h
theorem TextRun.get {c:Ctx} {all:List Oper}:∀ {l:List Oper} {i0:Nat} {mv0:List Nat} {σ:St} {es:List Ent} {ss:List St},TextRun c all l i0 mv0 σ es ss->es.length=l.length/\ss.length=l.length+1/\ss[0]? = some σ ∧
   ∀ (i:Nat) (o:Oper),l[i]? = some o->∃ e s,es[i]? = some e/\ss[i]? = some s/\ss[i+1]? = some (next o e s)/\∃ mvd,b2Y c all (i0+i) mvd o s e/\∀ q,q∈mvd↔q∈mv0∨∃ (j:Nat) (e':Ent),j<i/\es[j]? = some e'/\q∈e'.M:=by
 intro l i0 mv0 σ es ss h;induction h with
 | nil i mvd σ=>exact⟨rfl,rfl,rfl,fun i o h=>by simp at h⟩
 | @cons o l i1 mvd σ e es ss h k ih =>
   obtain⟨h1,h2,h3,h4⟩:=ih;refine⟨by simp[h1],by simp[h2],rfl,fun i o' ho=>?_⟩;cases i with
   | zero =>
     simp only[List.getElem?_cons_zero,Option.some.injEq]at ho;subst ho;exact⟨e,σ,rfl,rfl,by simpa using h3,mvd,h,fun q=>by simp⟩
   | succ i =>
     simp only[List.getElem?_cons_succ]at ho ⊢;obtain⟨e',s,g1,g2,g3,mvd',g4,g5⟩:=h4 i o' ho;refine⟨e',s,g1,g2,g3,mvd',by rw[show i1+(i+1)=i1+1+i by omega];exact g4,fun q=>?_⟩;rw[g5,List.mem_append];constructor
     . rintro((h5|h5)|⟨j,e2,h5,h6,h7⟩)
       . exact .inr ⟨0,e,by omega,rfl,h5⟩
       . exact .inl h5
       . exact .inr ⟨j+1,e2,by omega,by simpa using h6,h7⟩
     . rintro(h5|⟨j,e2,h5,h6,h7⟩)
       . exact .inl (.inr h5)
       . cases j with
         | zero =>
           simp only[List.getElem?_cons_zero,Option.some.injEq]at h6;subst h6;exact .inl (.inl h7)
         | succ j=>exact .inr ⟨j,e2,by omega,by simpa using h6,h7⟩
section
variable (ops:List Oper) (m:Nat) (es:List Ent) (σ0:St)
def valD (D:Nat->Bool) (τ:Nat):TV:=match a1x ops m τ with
 | some i=>if D i=true then(match es[i]? with
   | some e=>e.t
   | none => .dead)else nth σ0.ts τ .dead
 | none=>nth σ0.ts τ .dead
def a9i (D:Nat->Bool) (r:Nat):Option Root:=match a1x ops m (r/4)with
 | some i=>if D i=true then(match es[i]? with
   | some e=>(rget e.N r).or (rget σ0.rs r)
   | none=>rget σ0.rs r)else rget σ0.rs r
 | none=>rget σ0.rs r
structure Mid (D:Nat->Bool) (s:St):Prop where
 len:s.ts.length=σ0.ts.length
 ts:∀ τ,nth s.ts τ .dead=valD ops m es σ0 D τ
 rs:∀ r,rget s.rs r=a9i ops m es σ0 D r
end
theorem a0X {ops:List Oper} {m τ i:Nat} (h:a1x ops m τ=some i):i<m/\∃ o,ops[i]? = some o/\o.dst=some τ:=by
 unfold a1x at h;have h1:=List.find?_some h;have h2:=List.mem_of_find?_eq_some h;refine⟨by simpa using h2,?_⟩
 try simp only[]at h1
 split at h1
 . rename_i o ho;split at h1
   . rename_i d hd;exact⟨o,ho,by rw[hd,Nat.eq_of_beq_eq_true h1]⟩
   . cases h1
 . cases h1
theorem a7v {ops:List Oper} {m n:Nat} (hok:OrdOK ops m n) {i:Nat} {o:Oper} {τ:Nat} (hi:i<m) (ho:ops[i]? = some o) (hd:o.dst=some τ):a1x ops m τ=some i:=by
 cases hw:a1x ops m τ with
 | none =>
   unfold a1x at hw;rw[List.find?_eq_none]at hw;have:=hw i (by simpa using hi);simp[ho,hd]at this
 | some j =>
   obtain⟨hj,oj,hoj,hdj⟩:=a0X hw;rcases Nat.lt_trichotomy i j with h|h|h
   . exact absurd (hok.diff j i oj o τ hoj ho h hj hdj hd) id
   . rw[h]
   . exact absurd (hok.diff i j o oj τ ho hoj h hi hd hdj) id
theorem rget_ids {N:List (Nat×Root)} {r:Nat}:rget N r≠none↔r∈N.map (·.1):=by
 induction N with
 | nil=>simp[rget]
 | cons p N ih =>
   obtain⟨i,x⟩:=p;simp only[rget,List.map_cons,List.mem_cons];cases hd:Nat.decEq i r with
   | isTrue h=>simp[h]
   | isFalse h =>
     simp only[];rw[ih];constructor
     . exact .inr
     . rintro(e|e)
       . exact absurd e.symm h
       . exact e
theorem a3s {r:Nat}:∀ (N:List (Nat×Root)) (σ:St),(N.map (·.1)).Nodup->rget (a2j N σ).rs r=(rget N r).or (rget σ.rs r):=by
 intro N;induction N with
 | nil=>intro σ _;simp[a2j,rget]
 | cons p N ih =>
   intro σ hn;obtain⟨i,x⟩:=p;simp only[List.map_cons,List.nodup_cons]at hn;simp only[a2j,ih _ hn.2,St.new,a0j,rget];cases hd:Nat.decEq i r with
   | isTrue h =>
     subst h;have:rget N i=none:=by
       cases hx:rget N i with
       | none=>rfl
       | some y=>exact absurd (rget_ids.1 (by rw[hx];simp)) hn.1
     simp[this]
   | isFalse h=>simp[Ne.symm h]
theorem b3z {r:Nat} {ts:List TV} (h:∀ t∈ts,t.uses r=false):kill r ts=ts:=by
 unfold kill
 conv=>rhs;rw[<-List.map_id ts]
 exact List.map_congr_left fun t ht=>by simp[h t ht]
theorem a8N:∀ (N:List (Nat×Root)) (σ:St),(∀ t∈σ.ts,∀ p∈N,t.uses p.1=false)->(a2j N σ).ts=σ.ts:=by
 intro N;induction N with
 | nil=>intro σ _;rfl
 | cons p N ih =>
   intro σ h;have hk:kill p.1 σ.ts=σ.ts:=b3z fun t ht=>h t ht p (by simp);simp only[a2j];rw[ih]
   . exact hk
   . intro t ht q hq;simp only[St.new]at ht;rw[hk]at ht;exact h t ht q (by simp[hq])
structure Walk (c:Ctx) (ops:List Oper) (m n:Nat) (σ0:St) (es:List Ent) (ss:List St):Prop where
 ok:OrdOK ops m n
 nlen:n=σ0.ts.length
 run:∀ i o,i<m->ops[i]? = some o->∃ e s,es[i]? = some e/\ss[i]? = some s/\ss[i+1]? = some (next o e s)/\∃ mvd,b2Y c ops i mvd o s e/\∀ q,q∈mvd↔∃ (j:Nat) (e':Ent),j<i/\es[j]? = some e'/\q∈e'.M
 zero:ss[0]? = some σ0
 closed:∀ t∈σ0.ts,∀ r,t.uses r=true->rget σ0.rs r≠none
 fresh:∀ i o d,i<m->ops[i]? = some o->adds o=true->o.dst=some d->∀ q,q<4->rget σ0.rs (4*d+q)=none
 mle:m≤ops.length
 elen:∀ (k:Nat) (e:Ent),es[k]? = some e->k<m
theorem a6B {all:List Oper} {m n:Nat} (h:OrdOK all m n) {i a:Nat} (k:Anc all i a):a<i:=by
 induction k with
 | edge ho he hb=>exact h.early _ _ ho _ he hb
 | trans h1 h2 ih1 ih2=>omega
def a4q (ops:List Oper) (D:Nat->Bool):Prop:=∀ i a,D i=true->Anc ops i a->D a=true
def a1L (D:Nat->Bool) (i:Nat):Nat->Bool:=fun j=>D j||Nat.beq j i
def a4a (ops:List Oper) (m:Nat) (σ0:St) (es:List Ent) (j:Nat):Prop :=
 ∀ e,es[j]? = some e->∀ r,e.t.uses r=true->rget σ0.rs r≠none∨∃ j' e',(j'=j∨Anc ops j j')/\es[j']? = some e'/\r∈e'.N.map (·.1)
section
variable {c:Ctx} {ops:List Oper} {m n:Nat} {σ0:St} {es:List Ent} {ss:List St}
theorem Walk.oper (W:Walk c ops m n σ0 es ss) {i:Nat} (h:i<m):∃ o,ops[i]? = some o:=by
 have:=W.mle;exact⟨ops[i],by simp[show i<ops.length by omega]⟩
theorem Walk.ids (W:Walk c ops m n σ0 es ss) {i:Nat} {o:Oper} {e:Ent} (hi:i<m) (ho:ops[i]? = some o) (he:es[i]? = some e):(e.N.map (·.1)).Nodup/\∀ r∈e.N.map (·.1),rget σ0.rs r=none/\a1x ops m (r/4)=some i:=by
 obtain⟨e',s,h1,h2,h3,mvd,⟨h4,h4b,h5⟩,-⟩:=W.run i o hi ho;rw[he]at h1;obtain rfl:=Option.some.inj h1;rcases h5 with⟨hw,hl,_⟩|⟨_,hN,_⟩
 . refine⟨hl.nodup,fun r hr=>?_⟩;obtain⟨p,hp,rfl⟩:=List.mem_map.1 hr;obtain⟨ha,d,hd,hlo,hhi⟩:=hl.ids p hp;have hq:=W.fresh i o d hi ho ha hd (p.1-4*d) (by omega);have hlo2:4*d≤p.fst:=hlo;have hhi2:p.fst<4*d+4:=hhi;have hx:4*d+(p.1-4*d)=p.1:=Nat.add_sub_cancel' hlo2 |> fun h=>by rw[Nat.add_comm];exact Nat.sub_add_cancel hlo2
   rw[hx]at hq;have hdiv:p.1/4=d:=by
     apply Nat.div_eq_of_lt_le
     . rw[Nat.mul_comm];exact hlo2
     . rw[Nat.mul_comm];exact Nat.lt_of_lt_of_eq hhi2 (by rfl)
   exact⟨hq,by rw[hdiv];exact a7v W.ok hi ho hd⟩
 . rw[hN];exact⟨by simp,by simp⟩
theorem b0a {ts:List TV} {τ r:Nat} (h:(nth ts τ .dead).uses r=true):nth ts τ .dead∈ts:=by
 rw[a0l]at h ⊢;cases hx:ts[τ]? with
 | none=>rw[hx]at h;cases h
 | some t=>simp only[Option.getD_some];exact List.mem_of_getElem? hx
theorem a5C (W:Walk c ops m n σ0 es ss) {D:Nat->Bool} (hU:∀ j,D j=true->j<m->a4a ops m σ0 es j) {τ r:Nat} (h:(valD ops m es σ0 D τ).uses r=true) :
   rget σ0.rs r≠none∨∃ j j' e',a1x ops m τ=some j/\D j=true/\(j'=j∨Anc ops j j')/\es[j']? = some e'/\r∈e'.N.map (·.1):=by
 unfold valD at h;have base:(nth σ0.ts τ .dead).uses r=true->rget σ0.rs r≠none:=fun h=>W.closed _ (b0a h) r h;split at h
 . rename_i i hi;split at h
   . rename_i hD;split at h
     . rename_i e he;rcases hU i hD (a0X hi).1 e he r h with h1|⟨j',e',h1,h2,h3⟩
       . exact .inl h1
       . exact .inr ⟨i,j',e',hi,hD,h1,h2,h3⟩
     . cases h
   . exact .inl (base h)
 . exact .inl (base h)
theorem b5k (W:Walk c ops m n σ0 es ss) {D:Nat->Bool} (hc:a4q ops D) (hU:∀ j,D j=true->j<m->a4a ops m σ0 es j) {s:St} (hM:Mid ops m es σ0 D s) {i:Nat} {o:Oper} {e:Ent} (hi:i<m) (ho:ops[i]? = some o) (he:es[i]? = some e) (hD:D i=false) :
   ∀ t∈s.ts,∀ p∈e.N,t.uses p.1=false:=by
 obtain⟨hnd,hids⟩:=W.ids hi ho he;intro t ht p hp;cases hu:t.uses p.1 with
 | false=>rfl
 | true =>
   obtain⟨τ,hτ⟩:=List.mem_iff_getElem?.1 ht;have hv:valD ops m es σ0 D τ=t:=by rw[<-hM.ts,a0l,hτ];rfl
   have hr:=hids p.1 (List.mem_map.2 ⟨p,hp,rfl⟩);rcases a5C W hU (by rw[hv];exact hu)with h1|⟨j,j',e',hj,hDj,hjj,he',hr'⟩
   . exact absurd hr.1 h1
   . have hj'm:j'<m:=by
       rcases hjj with rfl|h
       . exact(a0X hj).1
       . have:=a6B W.ok h;have:=(a0X hj).1;omega
     obtain⟨o',ho'⟩:=W.oper hj'm;have h2:=((W.ids hj'm ho' he').2 _ hr').2;rw[hr.2]at h2;obtain rfl:=Option.some.inj h2;have hDi:D i=true:=by
       rcases hjj with rfl|h
       . exact hDj
       . exact hc j i hDj h
     rw[hD]at hDi;cases hDi
theorem b1I (W:Walk c ops m n σ0 es ss) {D:Nat->Bool} (hc:a4q ops D) (hU:∀ j,D j=true->j<m->a4a ops m σ0 es j) {s:St} (hM:Mid ops m es σ0 D s) {i:Nat} {o:Oper} {e:Ent} (hi:i<m) (ho:ops[i]? = some o) (he:es[i]? = some e) (hD:D i=false) :
   Mid ops m es σ0 (a1L D i) (next o e s):=by
 obtain⟨hnd,hids⟩:=W.ids hi ho he;obtain⟨d,hd,hdn⟩:=W.ok.dst i o ho hi;have hw:a1x ops m d=some i:=a7v W.ok hi ho hd;have hnk:=b5k W hc hU hM hi ho he hD;have hts:=a8N e.N s hnk;have hwD:∀ j,a1L D i j=true↔D j=true∨j=i:=by
   intro j;simp only[a1L,Bool.or_eq_true];exact or_congr Iff.rfl ⟨Nat.eq_of_beq_eq_true,fun h=>by subst h;exact Nat.beq_refl _⟩
 refine⟨?_,fun τ=>?_,fun r=>?_⟩
 . simp only[next,hd,St.put,a5h,List.length_set,hts];exact hM.len
 . simp only[next,hd,St.put,hts];rw[a0l,a5h,List.getElem?_set];by_cases hτ:d=τ
   . subst hτ;rw[if_pos rfl,if_pos (by rw[hM.len,<-W.nlen];exact hdn)];simp only[Option.getD_some,valD,hw];rw[if_pos ((hwD i).2 (.inr rfl)),he]
   . rw[if_neg hτ,<-a0l,hM.ts];unfold valD;cases hwτ:a1x ops m τ with
     | none=>rfl
     | some j =>
       have hji:j≠i:=by
         rintro rfl;obtain⟨_,o2,h2,h3⟩:=a0X hwτ;rw[ho]at h2;obtain rfl:=Option.some.inj h2;rw[hd]at h3;exact hτ (Option.some.inj h3)
       have:(a1L D i j=true)=(D j=true):=propext ((hwD j).trans ⟨fun h=>h.resolve_right hji,.inl⟩);simp only[this]
 . simp only[next,hd,St.put];rw[a3s _ _ hnd,hM.rs];unfold a9i;have hno:a1x ops m (r/4)≠some i->rget e.N r=none:=by
     intro h;cases hx:rget e.N r with
     | none=>rfl
     | some y=>exact absurd (hids r (rget_ids.1 (by rw[hx];simp))).2 h
   cases hwr:a1x ops m (r/4)with
   | none=>simp[hno (by rw[hwr];simp)]
   | some j =>
     by_cases hji:j=i
     . subst hji;simp only[hD,Bool.false_eq_true,if_false];rw[if_pos ((hwD j).2 (.inr rfl)),he]
     . have:(a1L D i j=true)=(D j=true):=propext ((hwD j).trans ⟨fun h=>h.resolve_right hji,.inl⟩);simp only[this,hno (by rw[hwr];simpa using hji),Option.none_or]
end
end Go.Vm
end
section
namespace Go.Vm
variable {P:Program} {R:Type}
section
variable {c:Ctx} {ops:List Oper} {m n:Nat} {σ0:St} {es:List Ent} {ss:List St}
theorem a0g {all:List Oper} {o:Oper} {τ:Nat} (h:Operand.tmp τ∈o.op.operands):τ∈a0a all o:=by
 unfold a0a;refine List.mem_append_left _ (List.mem_filterMap.2 ⟨.tmp τ,by simpa using h,rfl⟩)
theorem a3h {σ:St} {x:Operand} {r:Nat} (h:(a0x σ x).uses r=true):∃ τ,x = .tmp τ:=by
 cases x with
 | tmp τ=>exact⟨τ,rfl⟩
 | const v=>cases v<;>simp[a0x,b0c,TV.uses]at h
 | global g=>simp[a0x,TV.uses]at h
 | func f=>simp[a0x,TV.uses,TV.usesL]at h
theorem a4v (W:Walk c ops m n σ0 es ss) {i j τ:Nat} {o:Oper} (hi:i<m) (ho:ops[i]? = some o) (hl:τ∈a0a ops o) (hw:a1x ops m τ=some j):(j<i->Anc ops i j)/\(i<j->Anc ops j i):=by
 obtain⟨hj,oj,hoj,hdj⟩:=a0X hw;exact⟨fun h=>W.ok.conf i j o oj ho hoj h hi (.inl ⟨τ,hdj,hl⟩),fun h=>W.ok.conf j i oj o hoj ho h hj (.inr ⟨τ,hdj,hl⟩)⟩
def upto (j:Nat):Nat->Bool:=fun i=>Nat.blt i j
theorem upto_iff {j i:Nat}:upto j i=true↔i<j:=⟨fun h=>Nat.le_of_ble_eq_true h,fun h=>Nat.ble_eq_true_of_le h⟩
theorem b0N (W:Walk c ops m n σ0 es ss) (j:Nat):a4q ops (upto j):=fun i a h k=>upto_iff.2 (Nat.lt_trans (a6B W.ok k) (upto_iff.1 h))
theorem a4p {D D':Nat->Bool} {s:St} (h:Mid ops m es σ0 D s) (hD:∀ i,i<m->D i=D' i):Mid ops m es σ0 D' s:=by
 refine⟨h.len,fun τ=>?_,fun r=>?_⟩
 . rw[h.ts];unfold valD;cases hw:a1x ops m τ with
   | none=>rfl
   | some i=>simp only[hD i (a0X hw).1]
 . rw[h.rs];unfold a9i;cases hw:a1x ops m (r/4)with
   | none=>rfl
   | some i=>simp only[hD i (a0X hw).1]
theorem a3j (W:Walk c ops m n σ0 es ss):∀ j,j≤m->(∃ s,ss[j]? = some s/\Mid ops m es σ0 (upto j) s)/\∀ i,i<j->a4a ops m σ0 es i:=by
 intro j;induction j with
 | zero =>
   intro _;refine⟨⟨σ0,W.zero,rfl,fun τ=>?_,fun r=>?_⟩,fun i hi=>by omega⟩
   . unfold valD;cases a1x ops m τ<;>simp[upto]
   . unfold a9i;cases a1x ops m (r/4)<;>simp[upto]
 | succ j ih =>
   intro hj;obtain⟨⟨s,hs,hM⟩,hU⟩:=ih (by omega);obtain⟨o,ho⟩:=W.oper (show j<m by omega);obtain⟨e,s',he,hs',hn,mvd,hok,-⟩:=W.run j o (by omega) ho;rw[hs]at hs';obtain rfl:=Option.some.inj hs';have hUj:∀ i,upto j i=true->i<m->a4a ops m σ0 es i:=fun i hi _=>hU i (upto_iff.1 hi);have huse:a4a ops m σ0 es j:=by
     intro e' he' r hr;rw[he]at he';obtain rfl:=Option.some.inj he';rcases hok.2.2 with⟨_,hl,_⟩|⟨_,_,_,ht⟩
     . rcases hl.uses r hr with⟨x,hx,hxr⟩|hN
       . obtain⟨τ,rfl⟩:=a3h hxr;have hxr:(nth s.ts τ .dead).uses r=true:=hxr;rw[hM.ts]at hxr;rcases a5C W hUj hxr with h1|⟨i,j',e',hi,hD,hjj,he',hr'⟩
         . exact .inl h1
         . have hij:=upto_iff.1 hD;have ha:=(a4v W (by omega) ho (a0g hx) hi).1 hij;refine .inr ⟨j',e',.inr ?_,he',hr'⟩;rcases hjj with rfl|h
           . exact ha
           . exact .trans ha h
       . exact .inr ⟨j,e,.inl rfl,he,hN⟩
     . rw[ht]at hr;cases hr
   refine⟨⟨_,hn,a4p (b1I W (b0N W j) hUj hM (by omega) ho he (by cases hu:upto j j with|false=>rfl|true=>exact absurd (upto_iff.1 hu) (Nat.lt_irrefl j))) fun i _=>?_⟩,fun i hi=>?_⟩
   . have:(a1L (upto j) j i=true)=(upto (j+1) i=true):=by
       apply propext;simp only[a1L,Bool.or_eq_true,upto_iff];constructor
       . rintro(h|h)
         . omega
         . have:=Nat.eq_of_beq_eq_true h;omega
       . intro h;by_cases hij:i=j
         . subst hij;exact .inr (Nat.beq_refl _)
         . exact .inl (by omega)
     cases h1:a1L (upto j) j i<;>cases h2:upto (j+1) i<;>simp_all
   . by_cases hij:i=j
     . subst hij;exact huse
     . exact hU i (by omega)
theorem a4x (W:Walk c ops m n σ0 es ss):∀ j,j<m->a4a ops m σ0 es j:=(a3j W m (Nat.le_refl _)).2
theorem a6w (W:Walk c ops m n σ0 es ss) {D:Nat->Bool} (hc:a4q ops D) {s:St} (hM:Mid ops m es σ0 D s) {i:Nat} {o:Oper} {si:St} (hi:i<m) (ho:ops[i]? = some o) (hsi:ss[i]? = some si) (hD:D i=false) (hA:∀ a,Anc ops i a->D a=true) :
   (∀ τ∈a0a ops o,nth s.ts τ .dead=nth si.ts τ .dead)/\Agree o si s:=by
 obtain⟨⟨s',hs',hMi⟩,_⟩:=a3j W i (by omega);rw[hsi]at hs';obtain rfl:=Option.some.inj hs';have hval:∀ τ∈a0a ops o,nth s.ts τ .dead=nth si.ts τ .dead:=by
   intro τ hτ;rw[hM.ts,hMi.ts];unfold valD;cases hw:a1x ops m τ with
   | none=>rfl
   | some j =>
     obtain⟨ha,hb⟩:=a4v W hi ho hτ hw;have:D j=upto i j:=by
       rcases Nat.lt_trichotomy j i with h|h|h
       . rw[hA j (ha h),upto_iff.2 h]
       . subst h;rw[hD];cases hu:upto j j with
         | false=>rfl
         | true=>have:=upto_iff.1 hu;omega
       . have h1:D j=false:=by
           cases hDj:D j with
           | false=>rfl
           | true=>have:=hc j i hDj (hb h);rw[hD]at this;cases this
         rw[h1];cases hu:upto i j with
         | false=>rfl
         | true=>have:=upto_iff.1 hu;omega
     simp only[this]
 refine⟨hval,fun x hx=>?_,fun x hx r hr=>?_⟩
 . cases x with
   | tmp τ=>exact hval τ (a0g hx)
   | _=>rfl
 . obtain⟨τ,rfl⟩:=a3h hr;have hr:(nth si.ts τ .dead).uses r=true:=hr;rw[hMi.ts]at hr;rw[hM.rs,hMi.rs];have hU:∀ j,upto i j=true->j<m->a4a ops m σ0 es j:=fun j _ hj=>a4x W j hj;rcases a5C W hU hr with h1|⟨j,j',e',hj,hDj,hjj,he',hr'⟩
   ·
     unfold a9i;cases hw:a1x ops m (r/4)with
     | none=>rfl
     | some k =>
       obtain⟨hk,ok,hok,_⟩:=a0X hw;obtain⟨ek,_,hek,_⟩:=W.run k ok hk hok;have hnone:rget ek.N r=none:=by
         cases hx:rget ek.N r with
         | none=>rfl
         | some y=>exact absurd ((W.ids hk hok hek).2 r (rget_ids.1 (by rw[hx];simp))).1 h1
       simp only[hek,hnone,Option.none_or,ite_self]
   . have hji:=upto_iff.1 hDj;have haj:=(a4v W hi ho (a0g hx) hj).1 hji;have haj':Anc ops i j':=by
       rcases hjj with rfl|h
       . exact haj
       . exact .trans haj h
     have hj'i:=a6B W.ok haj';obtain⟨oj',hoj'⟩:=W.oper (show j'<m by omega);have hw:=((W.ids (by omega) hoj' he').2 r hr').2;unfold a9i;simp only[hw,hA j' haj',upto_iff.2 hj'i]
end
theorem a9c {E:Env} {σ σ':St} {a:Act} {w:World} {G:Nat->RG} (h:Rel P E σ a w G) (hts:σ'.ts=σ.ts) (hrs:∀ r,rget σ'.rs r=rget σ.rs r):Rel P E σ' a w G:=by
 refine⟨h.defers,?_,a6z h.r fun q x hx=>by rw[<-hrs];exact hx⟩;rw[hts];refine a1v h.temps rfl fun i t' ht' => .inr ⟨t',ht',fun v S A hS hf=>⟨a2m (fun q x hx=>by rw[hrs];exact hx) (fun _ _=>rfl) t' v S A hS,hf⟩⟩
theorem b5w {ops:List Oper} {m:Nat} {es:List Ent} {σ0 s s':St} {D:Nat->Bool} (h:Mid ops m es σ0 D s) (h':Mid ops m es σ0 D s'):s'.ts=s.ts/\∀ r,rget s'.rs r=rget s.rs r:=by
 refine⟨List.ext_getElem? fun τ=>?_,fun r=>by rw[h.rs,h'.rs]⟩;have h1:=h.ts τ;have h2:=h'.ts τ;rw[a0l]at h1 h2;rcases Nat.lt_or_ge τ σ0.ts.length with hl|hl
 . have l1:τ<s.ts.length:=by rw[h.len];exact hl
   have l2:τ<s'.ts.length:=by rw[h'.len];exact hl
   rw[List.getElem?_eq_getElem l1]at h1 ⊢;rw[List.getElem?_eq_getElem l2]at h2 ⊢;simp only[Option.getD_some]at h1 h2;rw[h1,h2]
 . rw[List.getElem?_eq_none (by rw[h'.len];exact hl),List.getElem?_eq_none (by rw[h.len];exact hl)]
mutual
theorem a4U {rs:List (Nat×Root)} {G:Nat->RG} {w:World}:∀ (t:TV) (v:Value) (S A:List Nat),TRep P rs G w t v S A->∀ r,t.uses r=true->rget rs r≠none
 | .dead,_,_,_,_,r,hu=>by cases hu
 | .val agg cs,_,_,_,_,r,hu=>by cases hu
 | .rptr _ cs,_,_,_,_,r,hu=>by cases hu
 | .ref q p,v,S,A,h,r,hu=>by
   obtain⟨_,_,x,_,_,hx,_⟩:=h;have:q=r:=Nat.eq_of_beq_eq_true hu;subst this;rw[hx];simp
 | .view q p n agg,v,S,A,h,r,hu=>by
   obtain⟨_,_,x,_,_,hx,_⟩:=h;have:q=r:=Nat.eq_of_beq_eq_true hu;subst this;rw[hx];simp
 | .fn f caps,v,S,A,h,r,hu=>by
   obtain⟨vs,rfl,h⟩:=h;exact a3b caps vs S A h r (by simpa[TV.uses]using hu)
 | .fnx s g,v,S,A,h,r,hu=>by cases hu
 | .tup k ts,v,S,A,h,r,hu=>by
   obtain⟨vs,hv,h⟩:=h;exact a3b ts vs S A h r (by simpa[TV.uses]using hu)
 | .pfn t,v,S,A,h,r,hu=>by
   obtain⟨ad,u,S0,rfl,hc,hlt,h,rfl⟩:=h;exact a4U t u S0 A h r (by simpa[TV.uses]using hu)
theorem a3b {rs:List (Nat×Root)} {G:Nat->RG} {w:World}:∀ (ts:List TV) (vs:List Value) (S A:List Nat),a1k P rs G w ts vs S A->∀ r,TV.usesL r ts=true->rget rs r≠none
 | [],_,_,_,_,r,hu=>by cases hu
 | t::ts,vs,S,A,h,r,hu=>by
   obtain⟨v,vs',S1,S2,A1,A2,rfl,rfl,rfl,h1,h2⟩:=h;simp only[TV.usesL,Bool.or_eq_true]at hu;exact hu.elim (a4U t v S1 A1 h1 r) (a3b ts vs' S2 A2 h2 r)
end
theorem b2L {E:Env} {σ:St} {a:Act} {w:World} {G:Nat->RG} (h:Rel P E σ a w G):∀ t∈σ.ts,∀ r,t.uses r=true->rget σ.rs r≠none:=by
 intro t ht r hu;obtain⟨i,hi⟩:=List.mem_iff_getElem?.1 ht;obtain⟨v,S,A,_,hr,_⟩:=h.temps.2 i t hi;exact a4U t v S A hr r hu
end Go.Vm
end
section
namespace Go.Vm
variable {P:Program} {R:Type}
theorem ready_iff {ops:Array Oper} {listed:Array Bool} {i:Nat}:i∈Region.ready .any ops listed↔∃ o,ops[i]? = some o/\listed.getD i true=false/\∀ e∈o.after,Region.binds .any e=true->listed.getD e.on false=true:=by
 unfold Region.ready;simp only[List.mem_filter,List.mem_range,Bool.and_eq_true,Bool.not_eq_true'];constructor
 . rintro⟨h1,h2,h3⟩;refine⟨ops[i],by simp[h1],h2,fun e he hb=>?_⟩;simp only[h1,Array.getElem?_eq_getElem,Option.map_some,Option.getD_some]at h3;have:=Array.all_eq_true_iff_forall_mem.1 h3 e he;simpa[hb]using this
 . rintro⟨o,ho,h2,h3⟩;have hi:i<ops.size:=by
     rcases Nat.lt_or_ge i ops.size with h|h
     . exact h
     . rw[Array.getElem?_eq_none h]at ho;cases ho
   refine⟨hi,h2,?_⟩;simp only[ho,Option.map_some,Option.getD_some];refine Array.all_eq_true_iff_forall_mem.2 fun e he=>?_;cases hb:Region.binds .any e with
   | true=>simp[h3 e he hb]
   | false=>simp
def Dof (listed:Array Bool):Nat->Bool:=fun i=>listed.getD i false
theorem a4H {listed:Array Bool} {i:Nat} (hi:i<listed.size) (j:Nat):Dof (listed.setIfInBounds i true) j=a1L (Dof listed) i j:=by
 simp only[Dof,a1L];rw[Array.getD_eq_getD_getElem?,Array.getD_eq_getD_getElem?,Array.getElem?_setIfInBounds];by_cases h:i=j
 . subst h;simp[hi]
 . have hb:Nat.beq j i=false:=by
     cases hb:Nat.beq j i with
     | false=>rfl
     | true=>exact absurd (Nat.eq_of_beq_eq_true hb).symm h
   simp[h,hb]
theorem a8o {E:Env} {c:Ctx} (hctx:CtxOK P c) {ops:Array Oper} {i:Nat} {o:Oper} (hi:ops[i]? = some o) {σ:St} {a:Act} {w:World} {G:Nat->RG} (hrel:Rel P E σ a w G) {kv:List (Nat×Value)} (hkeep:Keep kv a) (hd:∀ d,o.dst=some d->d∉kv.map (·.1))
   {b:Bool} (hw:a2Z ops.toList σ o=some b) {Q:Exit->Act->World->Prop} {K:Act->World->Prop} {σ':St}
   (hrun:b=true->a0E c o σ some=some σ') (hskip:b=false->σ'=σ.put o.dst und) (hK:∀ a' w' G',Rel P E σ' a' w' G'->Keep kv a'->K a' w'):wpOp P ops Q i K a w:=by
 have hwanted:Region.wanted o (yielded ops a.tmps)=b:=by
   unfold a2Z at hw;cases hg:o.guard with
   | none=>rw[hg]at hw;simp only[Option.some.injEq]at hw;simp[Region.wanted,hg,hw]
   | some gw =>
     obtain⟨j,want⟩:=gw;rw[hg]at hw;simp only[]at hw;split at hw
     . cases hw
     rename_i t ht;have hdst:(ops[j]?).bind (·.dst)=some t:=by
       rw[a0l,List.getElem?_map]at ht;cases hoj:ops[j]? with
       | none=>simp[hoj]at ht
       | some oj=>simpa[hoj]using ht
     split at hw
     . rename_i hu;have hyield:yielded ops a.tmps j=none:=by
         unfold yielded;rw[hdst];exact b0q hrel hu
       simp only[Option.some.injEq]at hw;rw[<-hw];simp only[Region.wanted,hg,hyield];rfl
     split at hw
     . cases hw
     rename_i bb hb;obtain⟨htv,htl⟩:=vB_of hb;obtain⟨v,S,A,hv,hr,hf⟩:=hrel.temps.2 t (vB bb) (by rw[a0l,List.getElem?_eq_getElem htl]at htv;rw[List.getElem?_eq_getElem htl];simpa using htv);have hvb:=a2K hr rfl;subst hvb;have hyield:yielded ops a.tmps j=some bb:=by
       unfold yielded;rw[hdst];simp[hv]
     simp only[Option.some.injEq]at hw;rw[<-hw];simp only[Region.wanted,hg,hyield];cases bb<;>cases want<;>rfl
 unfold wpOp;simp only[hi,hwanted];cases b with
 | true =>
   simp only[if_true];left;have hs:=hrun rfl;refine Oper.wp_mono (fun a' w' h'=>?_) (Oper.wp_put (a7t hctx hrel hs Q));obtain⟨⟨σ2,G2,h1,h2⟩,v,ds,h3⟩:=h';obtain rfl:=Option.some.inj h2;exact hK a' w' G2 h1 (a3v hkeep h3 hd)
 | false =>
   simp only[Bool.false_eq_true,if_false];have:=hskip rfl;subst this;exact hK _ w G (a0A hrel o.dst (t:=und) (b1Z _ _ _) (Fine2.nil _ _)) (a3v hkeep (ds:=a.defers) rfl hd)
theorem b1y {all:List Oper} {σ σ':St} {o:Oper} (h:∀ τ∈a0a all o,nth σ'.ts τ .dead=nth σ.ts τ .dead):a2Z all σ' o=a2Z all σ o:=by
 unfold a2Z;cases hg:o.guard with
 | none=>rfl
 | some gw =>
   obtain⟨j,want⟩:=gw;simp only[];cases ht:(nth (all.map some) j none).bind (·.dst)with
   | none=>rfl
   | some t =>
     simp only[];rw[h t];unfold a0a;refine List.mem_append_right _ ?_;simp only[hg,ht];simp
theorem a8R {c:Ctx} {all l:List Oper} {o:Oper} {σ:St} {k:St->Option R} {r:R} (h:opsK c all (o::l) σ k=some r):∃ b σ',a2Z all σ o=some b/\(b=true->a0E c o σ some=some σ')/\(b=false->σ'=σ.put o.dst und)/\opsK c all l σ' k=some r:=by
 simp only[opsK]at h;have run:(a0E c o σ fun σ'=>opsK c all (l) σ' k)=some r->∃ σ',a0E c o σ some=some σ'/\opsK c all (l) σ' k=some r:=by
   intro h;rw[a4z]at h;cases hs:a0E c o σ some with
   | none=>rw[hs]at h;cases h
   | some σ'=>rw[hs]at h;exact⟨σ',rfl,h⟩
 cases hg:o.guard with
 | none =>
   rw[hg]at h;obtain⟨σ',h3,h4⟩:=run h;exact⟨true,σ',by simp[a2Z,hg],fun _=>h3,fun e=>(by cases e),h4⟩
 | some gw =>
   obtain⟨j,want⟩:=gw;rw[hg]at h;simp only[]at h;split at h
   . cases h
   rename_i t ht;split at h
   . rename_i hu;exact⟨false,_,by simp only[a2Z,hg,ht,hu],fun e=>(by cases e),fun _=>rfl,h⟩
   rename_i hu;split at h
   . cases h
   rename_i b hb;have hw:a2Z all σ o=some (b==want):=by simp only[a2Z,hg,ht,hb,hu]
   cases b with
   | true =>
     simp only[if_true]at h;rw[a1a hb]at h;cases want with
     | true=>obtain⟨σ',h3,h4⟩:=run h;exact⟨true,σ',hw,fun _=>h3,fun e=>(by cases e),h4⟩
     | false=>exact⟨false,_,hw,fun e=>(by cases e),fun _=>rfl,h⟩
   | false =>
     simp only[Bool.false_eq_true,if_false]at h;rw[a1a hb]at h;cases want with
     | false=>obtain⟨σ',h3,h4⟩:=run h;exact⟨true,σ',hw,fun _=>h3,fun e=>(by cases e),h4⟩
     | true=>exact⟨false,_,hw,fun e=>(by cases e),fun _=>rfl,h⟩
theorem b3p {E:Env} {c:Ctx} (hctx:CtxOK P c) {ops:Array Oper} {m n:Nat} (hok:OrdOK ops.toList m n) (hstr:∀ i j oi oj,ops.toList[i]? = some oi->ops.toList[j]? = some oj->j<i->m≤i->Anc ops.toList i j) {k:St->Option R} {r:R} {kv:List (Nat×Value)} (hkp:a1M (kv.map (·.1)) ops.toList=true) :
   ∀ (fuel j:Nat) (listed:Array Bool) (σ:St) (a:Act) (w:World) (G:Nat->RG),m≤j->j≤ops.size->ops.size-j≤fuel->listed.size=ops.size->(∀ i,i<ops.size->listed.getD i false=Nat.blt i j) →
     opsK c ops.toList (ops.toList.drop j) σ k=some r->Rel P E σ a w G->Keep kv a->wpAny P .any ops (a2o P E kv k r) fuel listed a w:=by
 have hgd:∀ (listed:Array Bool) (i:Nat),listed.size=ops.size->i<ops.size->listed.getD i true=listed.getD i false:=by
   intro listed i h1 h2;have:i<listed.size:=by omega
   simp[Array.getD_eq_getD_getElem?,this]
 have noReady:∀ (listed:Array Bool),listed.size=ops.size->(∀ i,i<ops.size->listed.getD i false=true)->Region.ready .any ops listed=[]:=by
   intro listed hl hall;rw[List.eq_nil_iff_forall_not_mem];intro i hi;obtain⟨o,ho,h1,_⟩:=ready_iff.1 hi;have hi':i<ops.size:=by
     rcases Nat.lt_or_ge i ops.size with h|h
     . exact h
     . rw[Array.getElem?_eq_none h]at ho;cases ho
   rw[hgd listed i hl hi',hall i hi']at h1;cases h1
 intro fuel;induction fuel with
 | zero =>
   intro j listed σ a w G hmj hj hf hl hD h hrel hkeep;have hjn:j=ops.size:=by omega
   subst hjn;refine⟨noReady listed hl fun i hi=>by rw[hD i hi];exact upto_iff.2 hi,rfl,hkeep,σ,G,hrel,?_⟩;rw[List.drop_of_length_le (by simp)]at h;exact h
 | succ fuel ih =>
   intro j listed σ a w G hmj hj hf hl hD h hrel hkeep;refine⟨fun hr=>?_,fun i hi=>?_⟩
   ·
     by_cases hjn:j=ops.size
     . subst hjn;rw[List.drop_of_length_le (by simp)]at h;exact⟨rfl,hkeep,σ,G,hrel,h⟩
     . exfalso;have hjlt:j<ops.size:=by omega
       have:j∈Region.ready .any ops listed:=by
         refine ready_iff.2 ⟨ops[j],by simp[hjlt],?_,fun e he hb=>?_⟩
         . rw[hgd listed j hl hjlt,hD j hjlt];cases hb:Nat.blt j j with
           | false=>rfl
           | true=>exact absurd (upto_iff.1 hb) (Nat.lt_irrefl j)
         . have hlt:=hok.early j ops[j] (by simp[hjlt]) e he hb;rw[hD e.on (by omega)];exact upto_iff.2 hlt
       rw[hr]at this;cases this
   . obtain⟨o,ho,h1,h2⟩:=ready_iff.1 hi;have hilt:i<ops.size:=by
       rcases Nat.lt_or_ge i ops.size with h|h
       . exact h
       . rw[Array.getElem?_eq_none h]at ho;cases ho
     have hij:¬ i<j:=by
       intro hlt;rw[hgd listed i hl hilt,hD i hilt]at h1;have:Nat.blt i j=true:=upto_iff.2 hlt;rw[this]at h1;cases h1
     have hcl:a4q ops.toList (Dof listed):=by
       intro x y hx hxy;have hxs:x<ops.size:=by
         rcases Nat.lt_or_ge x ops.size with h|h
         . exact h
         . simp[Dof,Array.getD_eq_getD_getElem?,Array.getElem?_eq_none (show listed.size≤x by omega)]at hx
       have hxj:x<j:=by
         have:Nat.blt x j=true:=by rw[<-hD x hxs];exact hx
         exact upto_iff.1 this
       have hyx:=a6B hok hxy;show listed.getD y false=true;rw[hD y (by omega)];exact upto_iff.2 (by omega)
     have hanc:∀ x y,x=i->Anc ops.toList x y->Dof listed y=true:=by
       intro x y hx hxy;induction hxy with
       | @edge x o' e ho' he hb =>
         subst hx;have:o'=o:=by
           have h3:ops[x]? = some o':=by simpa using ho'
           rw[ho]at h3;exact(Option.some.inj h3).symm
         subst this;exact h2 e he hb
       | trans h3 h4 ih3 ih4=>exact hcl _ _ (ih3 hx) h4
     have hie:i=j:=by
       by_cases hgt:j<i
       . have hjs:j<ops.size:=by omega
         have:=hanc i j rfl (hstr i j o ops[j] (by simpa using ho) (by simp[hjs]) hgt (by omega));have h3:Nat.blt j j=true:=by rw[<-hD j hjs];exact this
         exact absurd (upto_iff.1 h3) (Nat.lt_irrefl j)
       . omega
     subst hie;have hdrop:ops.toList.drop i=o::ops.toList.drop (i+1):=by
       rw[List.drop_eq_getElem_cons (by simpa using hilt)];congr 1;have:ops[i]? = some ops[i]:=by simp[hilt]
       rw[this]at ho;simpa using Option.some.inj ho
     rw[hdrop]at h;have hmem:o∈ops.toList:=by
       have:=Array.mem_of_getElem? ho;simpa using this
     have key:=a8R h;obtain⟨b,σ',hw,hrun,hskip,hrest⟩:=key;refine a8o hctx ho hrel hkeep (a1X hkp o hmem) hw hrun hskip fun a' w' G' hrel' hkeep'=>?_;refine ih (i+1) _ σ' a' w' G' (by omega) (by omega) (by omega) (by simpa using hl) (fun x hx=>?_) hrest hrel' hkeep';have:=a4H (listed:=listed) (i:=i) (by omega) x;simp only[Dof]at this;rw[this];simp only[a1L,Dof,hD x hx];have hx1:(Nat.blt x i||Nat.beq x i)=true↔Nat.blt x (i+1)=true:=by
       simp only[Bool.or_eq_true];constructor
       . rintro(h5|h5)
         . exact upto_iff.2 (Nat.lt_succ_of_lt (upto_iff.1 h5))
         . rw[Nat.eq_of_beq_eq_true h5];exact upto_iff.2 (Nat.lt_succ_self i)
       . intro h5;have:=upto_iff.1 h5;by_cases hxi:x=i
         . subst hxi;exact .inr (Nat.beq_refl _)
         . exact .inl (upto_iff.2 (by omega))
     cases h6:(Nat.blt x i||Nat.beq x i)<;>cases h7:Nat.blt x (i+1)<;>simp_all
theorem a4f {α:Type} {p q:α->Bool}:∀ {l:List α},(∀ x∈l,q x=true->p x=true)->(∃ x∈l,p x=true/\q x=false)->l.countP q<l.countP p:=by
 intro l;induction l with
 | nil=>rintro _ ⟨x,hx,_⟩;cases hx
 | cons y l ih =>
   intro h1 h2;have hle:l.countP q≤l.countP p:=List.countP_mono_left fun x hx hq=>h1 x (by simp[hx]) hq;rw[List.countP_cons,List.countP_cons];obtain⟨x,hx,hpx,hqx⟩:=h2;simp only[List.mem_cons]at hx;rcases hx with rfl|hx
   . simp only[hpx,hqx,if_true,Bool.false_eq_true,if_false];omega
   . have:=ih (fun x hx=>h1 x (by simp[hx])) ⟨x,hx,hpx,hqx⟩;have h3:=h1 y (by simp);cases hq:q y with
     | true=>simp only[h3 hq,if_true];omega
     | false=>cases hp:p y<;>simp only[if_true,Bool.false_eq_true,if_false]<;>omega
def left (n:Nat) (listed:Array Bool):Nat:=(List.range n).countP fun i=>!listed.getD i false
theorem a3n (τ:Nat):∀ (M:List Nat) (σ:St),nth (a0G M σ).ts τ .dead=if a1g M (nth σ.ts τ .dead)=true then .dead else nth σ.ts τ .dead:=by
 intro M;induction M with
 | nil=>intro σ;simp[a0G,a1g]
 | cons r M ih =>
   intro σ;have e:nth (σ.del r).ts τ .dead=if (nth σ.ts τ .dead).uses r=true then .dead else nth σ.ts τ .dead:=b1K r σ.ts τ
   have hd:∀ M:List Nat,a1g M .dead=false:=by
     intro M;induction M with
     | nil=>rfl
     | cons x M ih=>simp only[a1g,ih,Bool.or_false];rfl
   show nth (a0G M (σ.del r)).ts τ .dead=_;rw[ih,e];cases hu:(nth σ.ts τ .dead).uses r with
   | true=>simp[a1g,hu,hd]
   | false=>simp[a1g,hu]
theorem a4T (q:Nat):∀ (M:List Nat) (σ:St),rget (a0G M σ).rs q=if q∈M then none else rget σ.rs q:=by
 intro M;induction M with
 | nil=>intro σ;simp[a0G]
 | cons r M ih =>
   intro σ;show rget (a0G M (σ.del r)).rs q=_;rw[ih];simp only[St.del,a0C,List.mem_cons];by_cases h1:q∈M
   . simp[h1]
   . by_cases h2:q=r
     . simp[h2]
     . simp[h1,h2]
theorem a5F:∀ (M:List Nat) (σ:St),(a0G M σ).ts.length=σ.ts.length:=by
 intro M;induction M with
 | nil=>intro σ;rfl
 | cons r M ih=>intro σ;show(a0G M (σ.del r)).ts.length=_;rw[ih];exact a1y _ _
theorem usesAny_true {l:List Nat} {t:TV}:a1g l t=true↔∃ r∈l,t.uses r=true:=by
 induction l with
 | nil=>simp[a1g]
 | cons x l ih=>simp[a1g,ih]
theorem b5G {l l':List TV} (hl:l.length=l'.length) (h:∀ τ,nth l τ .dead=nth l' τ .dead):l=l':=by
 refine List.ext_getElem? fun τ=>?_;have h1:=h τ;rw[a0l,a0l]at h1;rcases Nat.lt_or_ge τ l.length with hl1|hl1
 . rw[List.getElem?_eq_getElem hl1,List.getElem?_eq_getElem (by omega)]at h1 ⊢;simp only[Option.getD_some]at h1;rw[h1]
 . rw[List.getElem?_eq_none hl1,List.getElem?_eq_none (by omega)]
def MvD (es:List Ent) (D:Nat->Bool) (q:Nat):Prop:=∃ (k:Nat) (e:Ent),D k=true/\es[k]? = some e/\q∈e.M
structure DelS (es:List Ent) (D:Nat->Bool) (s σr:St):Prop where
 len:σr.ts.length=s.ts.length
 keep:∀ τ,(∀ q,MvD es D q->(nth s.ts τ .dead).uses q=false)->nth σr.ts τ .dead=nth s.ts τ .dead
 gone:∀ τ q,MvD es D q->(nth s.ts τ .dead).uses q=true->nth σr.ts τ .dead = .dead
 rsK:∀ q,¬ MvD es D q->rget σr.rs q=rget s.rs q
 rsG:∀ q,MvD es D q->rget σr.rs q=none
theorem a4Z {es:List Ent} {D D':Nat->Bool} (h:∀ k,(∃ e,es[k]? = some e)->D k=D' k) (q:Nat):MvD es D q↔MvD es D' q :=
 ⟨fun⟨k,e,h1,h2,h3⟩=>⟨k,e,by rw[<-h k ⟨e,h2⟩];exact h1,h2,h3⟩,fun⟨k,e,h1,h2,h3⟩=>⟨k,e,by rw[h k ⟨e,h2⟩];exact h1,h2,h3⟩⟩
theorem b1o {es:List Ent} {D D':Nat->Bool} {s σr:St} (h:DelS es D s σr) (hD:∀ k,(∃ e,es[k]? = some e)->D k=D' k):DelS es D' s σr :=
 ⟨h.len,fun τ k=>h.keep τ fun q hq=>k q ((a4Z hD q).1 hq),fun τ q hq=>h.gone τ q ((a4Z hD q).2 hq),fun q hq=>h.rsK q fun k=>hq ((a4Z hD q).1 k),fun q hq=>h.rsG q ((a4Z hD q).2 hq)⟩
section
variable {c:Ctx} {ops:List Oper} {m n:Nat} {σ0:St} {es:List Ent} {ss:List St}
theorem Walk.mvs (W:Walk c ops m n σ0 es ss) {k:Nat} {ek:Ent} {q:Nat} (hek:es[k]? = some ek) (hq:q∈ek.M) :
   ∃ ok sk,k<m/\ops[k]? = some ok/\ss[k]? = some sk/\LocM c ok sk ek.M ek.N ek.t/\rget σ0.rs q=none/\(∃ j,j<k/\a1x ops m (q/4)=some j) ∧
     ∀ (j:Nat) (oj:Oper),ops[j]? = some oj->j≠k->Anc ops k j∨∀ τ∈a0a ops oj,(nth sk.ts τ .dead).uses q=false:=by
 have hk:=W.elen k ek hek;obtain⟨ok,hok⟩:=W.oper hk;obtain⟨e',sk,h1,h2,h3,mvk,⟨_,_,hdis⟩,_⟩:=W.run k ok hk hok;rw[hek]at h1;obtain rfl:=Option.some.inj h1;rcases hdis with⟨_,hloc,hsep⟩|⟨_,_,hM0,_⟩
 . obtain⟨⟨jf,ojf,hjf,hojf,hadd,hdst⟩,hall⟩:=b3W (hsep q hq) hq;have hf:=W.fresh jf ojf (q/4) (by omega) hojf hadd hdst (q%4) (by omega);rw[show 4*(q/4)+q%4=q by omega]at hf;exact⟨ok,sk,hk,hok,h2,hloc,hf,⟨jf,hjf,a7v W.ok (by omega) hojf hdst⟩,hall⟩
 . rw[hM0]at hq;cases hq
theorem a9K (W:Walk c ops m n σ0 es ss) {D:Nat->Bool} (hc:a4q ops D) {s:St} (hM:Mid ops m es σ0 D s) {i:Nat} {o:Oper} (hi:i<m) (ho:ops[i]? = some o) (hD:D i=false) (hA:∀ a,Anc ops i a->D a=true) :
   ∀ τ∈a0a ops o,∀ q,MvD es D q->(nth s.ts τ .dead).uses q=false:=by
 obtain⟨e,si,he,hsi,hn,mvd,⟨_,hfree,_⟩,hmvd⟩:=W.run i o hi ho;obtain⟨hlook,_⟩:=a6w W hc hM hi ho hsi hD hA;rintro τ hτ q ⟨k,ek,hDk,hek,hq⟩;rw[hlook τ hτ];cases hu:(nth si.ts τ .dead).uses q with
 | false=>rfl
 | true =>
   exfalso;obtain⟨ok,sk,hk,hok,hsk,hloc,hfr,_,hall⟩:=W.mvs hek hq;rcases Nat.lt_trichotomy k i with hlt|rfl|hgt
   . have:=b1s hfree τ hτ q ((hmvd q).2 ⟨k,ek,hlt,hek,hq⟩);rw[hu]at this;cases this
   . rw[hD]at hDk;cases hDk
   . rcases hall i o ho (by omega)with ha|hno
     . have:=hc k i hDk ha;rw[hD]at this;cases this
     . have h1:=hno τ hτ;obtain⟨⟨sk',hsk',hMk⟩,_⟩:=a3j W k (by omega);rw[hsk]at hsk';obtain rfl:=Option.some.inj hsk';obtain⟨⟨si',hsi',hMi⟩,_⟩:=a3j W i (by omega);rw[hsi]at hsi';obtain rfl:=Option.some.inj hsi';rw[hMk.ts]at h1;rw[hMi.ts]at hu;unfold valD at h1 hu;cases hw:a1x ops m τ with
       | none=>rw[hw]at h1 hu;simp only[]at h1 hu;rw[hu]at h1;cases h1
       | some w =>
         rw[hw]at h1 hu;simp only[]at h1 hu;by_cases hwi:w<i
         . rw[if_pos (upto_iff.2 (by omega))]at h1;rw[if_pos (upto_iff.2 hwi)]at hu;rw[hu]at h1;cases h1
         . rw[if_neg (fun h=>hwi (upto_iff.1 h))]at hu;exact W.closed _ (b0a hu) q hu hfr
theorem b3u (W:Walk c ops m n σ0 es ss) {D:Nat->Bool} (hc:a4q ops D) {s σr:St} (hM:Mid ops m es σ0 D s) (hd:DelS es D s σr) {i:Nat} {o:Oper} {e:Ent} (hi:i<m) (ho:ops[i]? = some o) (he:es[i]? = some e) (hD:D i=false) (hA:∀ a,Anc ops i a->D a=true) :
   DelS es (a1L D i) (next o e s) ((a2j e.N (a0G e.M σr)).put o.dst e.t):=by
 have hU:∀ j,D j=true->j<m->a4a ops m σ0 es j:=fun j _ hj=>a4x W j hj;have hnew:=b5k W hc hU hM hi ho he hD;obtain⟨hnd,hids⟩:=W.ids hi ho he;obtain⟨d,hdst,hdn⟩:=W.ok.dst i o ho hi;obtain⟨e',si,he',hsi,hn,mvd,⟨_,hfree,hdis⟩,hmvd⟩:=W.run i o hi ho;rw[he]at he';obtain rfl:=Option.some.inj he';obtain⟨hlook,_⟩:=a6w W hc hM hi ho hsi hD hA;have hnm:=a9K W hc hM hi ho hD hA;have hmv:∀ q,MvD es (a1L D i) q↔MvD es D q∨q∈e.M:=by
   intro q;constructor
   . rintro⟨k,ek,hk,hek,hq⟩;simp only[a1L,Bool.or_eq_true]at hk;rcases hk with hk|hk
     . exact .inl ⟨k,ek,hk,hek,hq⟩
     . have:=Nat.eq_of_beq_eq_true hk;subst this;rw[he]at hek;obtain rfl:=Option.some.inj hek;exact .inr hq
   . rintro(⟨k,ek,hk,hek,hq⟩|hq)
     . exact⟨k,ek,by simp[a1L,hk],hek,hq⟩
     . exact⟨i,e,by simp[a1L,Nat.beq_refl],he,hq⟩
 have hN : ∀ q,MvD es (a1L D i) q->q∉e.N.map (·.1):=by
   intro q hq;rcases(hmv q).1 hq with⟨k,ek,hDk,hek,hqk⟩|hqe
   . intro hin;obtain⟨ok,sk,hk,hok,hsk,hloc,hfr,⟨jf,hjf,hwj⟩,hall⟩:=W.mvs hek hqk;have hw:=(hids q hin).2;obtain⟨τ,hτ,hu⟩:=hloc.mv q hqk;obtain⟨⟨sk',hsk',hMk⟩,_⟩:=a3j W k (by omega);rw[hsk]at hsk';obtain rfl:=Option.some.inj hsk';have hu:(nth sk.ts τ .dead).uses q=true:=hu;rw[hMk.ts]at hu;rcases a5C W (fun j _ hj=>a4x W j hj) hu with h1|⟨j,j',e2,hj,hDj,hjj,he2,hr2⟩
     . exact h1 hfr
     . have hjk:=upto_iff.1 hDj;have ha:=(a4v W hk hok (a0g hτ) hj).1 hjk;have hj'm:j'<m:=by
         rcases hjj with rfl|h
         . exact(a0X hj).1
         . have:=a6B W.ok h;have:=(a0X hj).1;omega
       obtain⟨o',ho'⟩:=W.oper hj'm;have h2:=((W.ids hj'm ho' he2).2 q hr2).2;rw[hw]at h2;obtain rfl:=Option.some.inj h2;have hai:Anc ops k i:=by
         rcases hjj with rfl|h
         . exact ha
         . exact .trans ha h
       have:=hc k i hDk hai;rw[hD]at this;cases this
   . rcases hdis with⟨_,hloc,_⟩|⟨_,hN0,_⟩
     . exact(hloc.apart q hqe).2
     . rw[hN0];simp
 have ht : ∀ q,MvD es (a1L D i) q->e.t.uses q=false:=by
   intro q hq;cases hu:e.t.uses q with
   | false=>rfl
   | true =>
     exfalso;rcases hdis with⟨_,hloc,_⟩|⟨_,_,_,ht0⟩
     . rcases hloc.uses q hu with⟨x,hx,hxu⟩|hin
       . rcases(hmv q).1 hq with hq'|hqe
         . obtain⟨τ,rfl⟩:=a3h hxu;have h1:=hnm τ (a0g hx) q hq';rw[hlook τ (a0g hx)]at h1;have hxu:(nth si.ts τ .dead).uses q=true:=hxu;rw[hxu]at h1;cases h1
         . rw[(hloc.apart q hqe).1]at hu;cases hu
       . exact hN q hq hin
     . rw[ht0]at hu;cases hu
 have hsr:∀ τ,nth σr.ts τ .dead=nth s.ts τ .dead∨nth σr.ts τ .dead = .dead:=by
   intro τ;by_cases h:∃ q,MvD es D q/\(nth s.ts τ .dead).uses q=true
   . obtain⟨q,h1,h2⟩:=h;exact .inr (hd.gone τ q h1 h2)
   . refine .inl (hd.keep τ fun q hq=>?_);cases hu:(nth s.ts τ .dead).uses q with
     | false=>rfl
     | true=>exact absurd ⟨q,hq,hu⟩ h
 have hts1:(a2j e.N (a0G e.M σr)).ts=(a0G e.M σr).ts:=by
   refine a8N _ _ fun t ht p hp=>?_;obtain⟨τ,hτ⟩:=List.mem_iff_getElem?.1 ht;have hv:nth (a0G e.M σr).ts τ .dead=t:=by rw[a0l,hτ];rfl
   rw[a3n]at hv;split at hv
   . rw[<-hv];rfl
   . rcases hsr τ with h|h
     . rw[h]at hv;cases hu:t.uses p.1 with
       | false=>rfl
       | true =>
         have hm:nth s.ts τ .dead∈s.ts:=b0a (r:=p.1) (by rw[hv];exact hu);have:=hnew _ hm p hp;rw[hv,hu]at this;cases this
     . rw[h]at hv;rw[<-hv];rfl
 have hts2:(a2j e.N s).ts=s.ts:=a8N e.N s hnew;have hlen:d<s.ts.length:=by rw[hM.len,<-W.nlen];exact hdn
 have nthu:∀ (l:List TV) (τ:Nat),nth (upd l d e.t) τ .dead=if d=τ/\d<l.length then e.t else nth l τ .dead:=by
   intro l τ;rw[a0l,a5h,List.getElem?_set,a0l];by_cases h1:d=τ
   . subst h1;by_cases h2:d<l.length
     . simp[h2]
     . simp[h2]
   . simp[h1]
 refine⟨?_,fun τ hk=>?_,fun τ q hq hu=>?_,fun q hq=>?_,fun q hq=>?_⟩
 . simp only[next,hdst,St.put,a5h,List.length_set,hts1,hts2,a5F,hd.len]
 . simp only[next,hdst,St.put,hts1,hts2]at hk ⊢;rw[nthu,nthu];by_cases hτ:d=τ
   . rw[if_pos ⟨hτ,by rw[a5F,hd.len];exact hlen⟩,if_pos ⟨hτ,hlen⟩]
   . rw[if_neg (fun h=>hτ h.1),if_neg (fun h=>hτ h.1),a3n];have hk':∀ q,MvD es (a1L D i) q->(nth s.ts τ .dead).uses q=false:=fun q hq=>by
       have:=hk q hq
       rwa [nthu,if_neg (fun h=>hτ h.1)]at this
     have h1:=hd.keep τ fun q hq=>hk' q ((hmv q).2 (.inl hq));rw[h1,if_neg];intro hua;obtain⟨q,hq,hu⟩:=usesAny_true.1 hua;rw[hk' q ((hmv q).2 (.inr hq))]at hu;cases hu
 . simp only[next,hdst,St.put,hts1,hts2]at hu ⊢;rw[nthu]at hu ⊢;by_cases hτ:d=τ
   . rw[if_pos ⟨hτ,hlen⟩,ht q hq]at hu;cases hu
   . rw[if_neg (fun h=>hτ h.1)]at hu ⊢;rw[a3n];by_cases hg:nth σr.ts τ .dead = .dead
     . rw[hg];simp
     . have h1:nth σr.ts τ .dead=nth s.ts τ .dead:=(hsr τ).resolve_right hg;rcases(hmv q).1 hq with hq'|hqe
       . exact absurd (hd.gone τ q hq' hu) hg
       . rw[h1,if_pos (usesAny_true.2 ⟨q,hqe,hu⟩)]
 . simp only[next,hdst,St.put];rw[a3s _ _ hnd,a3s _ _ hnd,a4T,if_neg (fun h=>hq ((hmv q).2 (.inr h))),hd.rsK q fun h=>hq ((hmv q).2 (.inl h))]
 . simp only[next,hdst,St.put];rw[a3s _ _ hnd,a4T];have:rget e.N q=none:=by
     cases hx:rget e.N q with
     | none=>rfl
     | some y=>exact absurd (rget_ids.1 (by rw[hx];simp)) (hN q hq)
   rw[this];rcases(hmv q).1 hq with h|h
   . split
     . rfl
     . simp[hd.rsG q h]
   . simp[h]
end
theorem b1N {i:Nat} {rest:List (Nat×Oper)} {p:Nat×Oper}:p∈outN i rest↔p∈rest/\p.1≠i:=by
 unfold outN;rw[List.mem_filter];cases hb:Nat.beq p.1 i with
 | false =>
   have hne:p.1≠i:=fun e=>by rw[e,Nat.beq_refl]at hb;cases hb
   simp[hne]
 | true =>
   have he:=Nat.eq_of_beq_eq_true hb;simp[he]
theorem a5E {α:Type} {p:α->Bool}:∀ {l:List α},(∀ x∈l,p x=true)->allB p l=true
 | [],_=>rfl
 | x::l,h=>by
   simp only[allB,h x (by simp)];exact a5E fun y hy=>h y (by simp[hy])
theorem a6C {E : Env} {c:Ctx} (hctx:CtxOK P c) {ops:Array Oper} (early:∀ i o,ops.toList[i]? = some o->∀ e∈o.after,Region.binds .any e=true->e.on<i) {k:St->Option R} {r:R} {kv:List (Nat×Value)} (hkp:a1M (kv.map (·.1)) ops.toList=true) :
   ∀ (fuel n:Nat) (rest:List (Nat×Oper)) (listed:Array Bool) (σ:St) (a:Act) (w:World) (G:Nat->RG),(∀ i o,(i,o)∈rest↔ops[i]? = some o/\Dof listed i=false)->listed.size=ops.size->left ops.size listed≤fuel →
     a5o c ops.toList n rest σ k=some r->Rel P E σ a w G->Keep kv a->wpAny P .any ops (a2o P E kv k r) fuel listed a w:=by
 have hgd:∀ (listed:Array Bool) (i:Nat),listed.size=ops.size->i<ops.size->listed.getD i true=Dof listed i:=by
   intro listed i h1 h2;have:i<listed.size:=by omega
   simp[Dof,Array.getD_eq_getD_getElem?,this]
 have noReady:∀ (listed:Array Bool),listed.size=ops.size->(∀ i,i<ops.size->Dof listed i=true)->Region.ready .any ops listed=[]:=by
   intro listed hl hall;rw[List.eq_nil_iff_forall_not_mem];intro i hi;obtain⟨o,ho,h1,_⟩:=ready_iff.1 hi;have hi':=(Array.getElem?_eq_some_iff.1 ho).1;rw[hgd listed i hl hi',hall i hi']at h1;cases h1
 have allIn:∀ (listed:Array Bool),(∀ i o,(i,o)∈([]:List (Nat×Oper))↔ops[i]? = some o/\Dof listed i=false)->∀ i,i<ops.size->Dof listed i=true:=by
   intro listed hr i hi;cases hb:Dof listed i with
   | true=>rfl
   | false=>exact absurd ((hr i ops[i]).2 ⟨by simp[hi],hb⟩) (by simp)
 have nil:∀ (n:Nat) (σ:St),a5o c ops.toList n [] σ k=k σ:=fun n σ=>by cases n<;>rfl
 intro fuel;induction fuel with
 | zero =>
   intro n rest listed σ a w G hr hl hf h hrel hkeep;have h0:∀ i,i<ops.size->Dof listed i=true:=by
     intro i hi;have h0:left ops.size listed=0:=by omega
     unfold left at h0;rw[List.countP_eq_zero]at h0;have:=h0 i (by simpa using hi);simpa[Dof]using this
   cases rest with
   | nil=>rw[nil]at h;exact⟨noReady listed hl h0,rfl,hkeep,σ,G,hrel,h⟩
   | cons p rest =>
     obtain⟨h1,h2⟩:=(hr p.1 p.2).1 (by simp);rw[h0 p.1 (Array.getElem?_eq_some_iff.1 h1).1]at h2;cases h2
 | succ fuel ih =>
   intro n rest listed σ a w G hr hl hf h hrel hkeep;cases rest with
   | nil =>
     rw[nil]at h;have h0:=allIn listed hr;refine⟨fun _=>⟨rfl,hkeep,σ,G,hrel,h⟩,fun i hi=>?_⟩;rw[noReady listed hl h0]at hi;cases hi
   | cons p rest =>
     refine⟨fun hnone=>?_,fun i hi=>?_⟩
     . exfalso;obtain⟨h1,h2⟩:=(hr p.1 p.2).1 (by simp);have hall:∀ i,i<ops.size->Dof listed i=true:=by
         intro i;induction i using Nat.strongRecOn with
         | ind i ihi =>
           intro hi;have ho:ops[i]? = some ops[i]:=by simp[hi]
           cases hb:Dof listed i with
           | true=>rfl
           | false =>
             have:i∈Region.ready .any ops listed:=by
               refine ready_iff.2 ⟨_,ho,by rw[hgd listed i hl hi];exact hb,fun e he hb=>?_⟩;have:=early i _ (by simp[hi]) e he hb;exact ihi e.on this (by omega)
             rw[hnone]at this;cases this
       rw[hall p.1 (Array.getElem?_eq_some_iff.1 h1).1]at h2;cases h2
     . obtain⟨o,ho,h1,h2⟩:=ready_iff.1 hi;have hilt:=(Array.getElem?_eq_some_iff.1 ho).1;have hDi:Dof listed i=false:=by rw[<-hgd listed i hl hilt];exact h1
       have hin:(i,o)∈p::rest:=(hr i o).2 ⟨ho,hDi⟩;have hrd:b0l (p::rest) o=true:=by
         unfold b0l;refine a5E fun e he=>?_;cases hb:Region.binds .any e with
         | false=>rfl
         | true =>
           simp only[Bool.not_eq_true'];cases hn:hasN ((p::rest).map (·.1)) e.on with
           | false=>rfl
           | true =>
             obtain⟨q,hq,he2⟩:=List.mem_map.1 (a0Q hn);have h3:=((hr q.1 q.2).1 hq).2;have h4:Dof listed e.on=true:=h2 e (by simpa using he) hb;rw[he2,h4]at h3;cases h3
       cases n with
       | zero=>cases h
       | succ n =>
         simp only[a5o]at h;have h3:=a3N h _ (List.mem_map.2 ⟨(i,o),List.mem_filter.2 ⟨hin,hrd⟩,rfl⟩);obtain⟨b,σ',hw,hrun,hskip,hrest⟩:=a8R h3;simp only[opsK]at hrest;have hmem:o∈ops.toList:=by
           have:=Array.mem_of_getElem? ho;simpa using this
         refine a8o hctx ho hrel hkeep (a1X hkp o hmem) hw hrun hskip fun a' w' G' hrel' hkeep'=>?_;have hset:∀ x,Dof (listed.setIfInBounds i true) x=a1L (Dof listed) i x:=fun x=>a4H (by omega) x;refine ih n (outN i (p::rest)) _ σ' a' w' G' (fun j oj=>?_) (by simp[hl]) ?_ hrest hrel' hkeep'
         . rw[b1N,hr,hset];simp only[a1L,Bool.or_eq_false_iff];constructor
           . rintro⟨⟨h4,h5⟩,h6⟩;refine⟨h4,h5,?_⟩;cases hb:Nat.beq j i with
             | false=>rfl
             | true=>exact absurd (Nat.eq_of_beq_eq_true hb) h6
           . rintro⟨h4,h5,h6⟩;exact⟨⟨h4,h5⟩,fun e=>by subst e;rw[Nat.beq_refl]at h6;cases h6⟩
         . have:left ops.size (listed.setIfInBounds i true)<left ops.size listed:=by
             refine a4f (fun x hx hq=>?_) ⟨i,by simpa using hilt,?_,?_⟩
             . have:=hset x;simp only[Dof]at this;rw[this]at hq;simp only[a1L,Dof,Bool.not_or,Bool.and_eq_true]at hq;exact hq.1
             . have h3:listed.getD i false=false:=hDi;rw[h3];rfl
             . have:=hset i;simp only[Dof]at this;rw[this];simp[a1L,Nat.beq_refl]
           omega
def UpOK (P:Program) (E:Env) (ops:Array Oper) (m:Nat) (es:List Ent) (σ0:St) (kv:List (Nat×Value)) (k:St->Option R) (r:R):Prop :=
 ∀ (fuel:Nat) (listed:Array Bool) (s σr:St) (a:Act) (w:World) (G:Nat->RG) (i:Nat) (o:Oper),left ops.size listed≤fuel+1->listed.size=ops.size->(∀ i,i<ops.size->m≤i->listed.getD i false=false)->a4q ops.toList (Dof listed) →
   Mid ops.toList m es σ0 (Dof listed) s->DelS es (Dof listed) s σr->Rel P E σr a w G->Keep kv a->ops[i]? = some o->m≤i->Dof listed i=false->(∀ x,Anc ops.toList i x->Dof listed x=true)->(∃ j,j<m/\Dof listed j=false) →
   wpOp P ops (a2o P E kv k r) i (wpAny P .any ops (a2o P E kv k r) fuel (listed.setIfInBounds i true)) a w
theorem a7x {E:Env} {ops:Array Oper} {m:Nat} {es:List Ent} {σ0:St} {kv:List (Nat×Value)} {k:St->Option R} {r:R} (hms:m≤ops.size) (h:∀ i j oi oj,ops.toList[i]? = some oi->ops.toList[j]? = some oj->j<m->m≤i->Anc ops.toList i j):UpOK P E ops m es σ0 kv k r:=by
 intro fuel listed s σr a w G i o _ _ _ _ _ _ _ _ ho hmi hDi hA ⟨j,hj,hjf⟩;have hol:ops.toList[i]? = some o:=by simpa using ho
 have:=hA j (h i j o ops[j] hol (by simp[show j<ops.size by omega]) hj hmi);rw[hjf]at this;cases this
theorem b0n {f:Nat->Bool} {q:Nat}:∀ l:List (Nat×Root),rget (l.filter fun p=>f p.1) q=if f q=true then rget l q else none:=by
 intro l;induction l with
 | nil=>simp[rget]
 | cons p l ih =>
   obtain⟨i,x⟩:=p;simp only[List.filter_cons];by_cases hf:f i=true
   . simp only[hf,if_true,rget];cases hd:Nat.decEq i q with
     | isTrue h=>subst h;simp[hf]
     | isFalse h=>simp only[];exact ih
   . simp only[hf,rget,ih];cases hd:Nat.decEq i q with
     | isTrue h=>subst h;simp[hf,ih]
     | isFalse h=>simp[ih]
theorem a5I (all:List Oper) (m:Nat) (U:List Nat) (σ0:St):∀ (l:List TV) (τ:Nat),(a4o all m U σ0 τ l).length=l.length
 | [],_=>rfl
 | t::l,τ=>by simp only[a4o,List.length_cons,a5I all m U σ0 l]
theorem a7U (all:List Oper) (m:Nat) (U:List Nat) (σ0:St):∀ (l:List TV) (τ i:Nat),i<l.length->nth (a4o all m U σ0 τ l) i .dead=if a5X all m U (τ+i)=true then nth σ0.ts (τ+i) .dead else nth l i .dead
 | [],_,i,h=>by simp at h
 | t::l,τ,0,_=>by
   simp only[a4o,nth,Nat.add_zero];cases a5X all m U τ<;>simp
 | t::l,τ,i+1,h=>by
   simp only[a4o,nth];rw[a7U all m U σ0 l (τ+1) i (by simpa using h),show τ+1+i=τ+(i+1)by omega]
theorem b4F {c:Ctx} {ops:List Oper} {m n:Nat} {σ0:St} {es:List Ent} {ss:List St} (W:Walk c ops m n σ0 es ss) {U:List Nat} {s:St} (hM:Mid ops m es σ0 (upto m) s):Mid ops m es σ0 (fun i=>!hasN U i) (b1H ops m U σ0 s):=by
 refine⟨by rw[show(b1H ops m U σ0 s).ts=a4o ops m U σ0 0 s.ts from rfl,a5I];exact hM.len,fun τ=>?_,fun q=>?_⟩
 . show nth (a4o ops m U σ0 0 s.ts) τ .dead=_;rcases Nat.lt_or_ge τ s.ts.length with hl|hl
   . rw[a7U _ _ _ _ _ _ _ hl,Nat.zero_add,hM.ts];unfold valD a5X;cases hw:a1x ops m τ with
     | none=>simp
     | some i =>
       have hi:=(a0X hw).1;cases hh:hasN U i with
       | true=>simp[hh]
       | false=>simp[hh,upto_iff.2 hi]
   . have h0:∀ l:List TV,l.length≤τ->nth l τ .dead = .dead:=fun l h=>by rw[a0l,List.getElem?_eq_none h];rfl
     have e1:=hM.ts τ;rw[h0 _ hl]at e1;rw[h0 _ (by rw[a5I];exact hl)];unfold valD at e1 ⊢;have e2:nth σ0.ts τ .dead = .dead:=h0 _ (by rw[<-hM.len];exact hl);cases hw:a1x ops m τ with
     | none=>simp only[e2]
     | some i =>
       have hi:=(a0X hw).1;rw[hw]at e1;simp only[upto_iff.2 hi,if_true]at e1;cases hh:hasN U i with
       | true=>simp[hh,e2]
       | false=>simp only[hh,Bool.not_false,if_true];exact e1
 . show rget (s.rs.filter fun p=>!a5X ops m U (p.1/4)||(rget σ0.rs p.1).isSome) q=_;rw[b0n (f:=fun x=>!a5X ops m U (x/4)||(rget σ0.rs x).isSome),hM.rs];unfold a9i a5X;cases hw:a1x ops m (q/4)with
   | none=>simp
   | some i =>
     obtain⟨hi,oi,hoi,_⟩:=a0X hw;obtain⟨e,_,he,_⟩:=W.run i oi hi hoi;simp only[upto_iff.2 hi,if_true,he];cases hh:hasN U i with
     | false=>simp
     | true =>
       simp only[Bool.not_true,Bool.false_or,Bool.false_eq_true,if_false];cases h0:rget σ0.rs q with
       | none=>simp
       | some x =>
         have:rget e.N q=none:=by
           cases hx:rget e.N q with
           | none=>rfl
           | some y=>have:=((W.ids hi hoi he).2 q (rget_ids.1 (by rw[hx];simp))).1;rw[h0]at this;cases this
         simp[this]
theorem a4s {α:Type}:∀ (l:List α) (n i:Nat),(numb n l)[i]? = l[i]?.map fun x=>(n+i,x):=by
 intro l;induction l with
 | nil=>intro n i;simp[numb]
 | cons x l ih =>
   intro n i;cases i with
   | zero=>simp[numb]
   | succ i=>simp only[numb,List.getElem?_cons_succ,ih];congr 1;funext y;congr 1;omega
theorem a9g {ops:Array Oper} {m:Nat} {U:List Nat} {i:Nat} {o:Oper}:(i,o)∈b3S ops.toList m U↔ops[i]? = some o/\(i∈U∨m≤i):=by
 unfold b3S;rw[List.mem_filter];have h1:(i,o)∈numb 0 ops.toList↔ops[i]? = some o:=by
   rw[List.mem_iff_getElem?];constructor
   . rintro⟨j,hj⟩;rw[a4s]at hj;simp only[Option.map_eq_some_iff,Prod.mk.injEq]at hj;obtain⟨x,h1,h2,rfl⟩:=hj;rw[Nat.zero_add]at h2;subst h2
     rwa [Array.getElem?_toList]at h1
   . intro h;exact⟨i,by rw[a4s,Array.getElem?_toList,h];simp⟩
 rw[h1];simp only[Bool.or_eq_true];constructor
 . rintro⟨h2,h3|h3⟩
   . exact⟨h2,.inl (a0Q h3)⟩
   . exact⟨h2,.inr (Nat.le_of_ble_eq_true h3)⟩
 . rintro⟨h2,h3|h3⟩
   . exact⟨h2,.inl (a3y h3)⟩
   . exact⟨h2,.inr (Nat.ble_eq_true_of_le h3)⟩
theorem b4B {N:Nat} {listed:Array Bool} {i:Nat} (hi:i<N) (hl:listed.size=N) (hD:Dof listed i=false):left N (listed.setIfInBounds i true)<left N listed:=by
 have hset:∀ x,Dof (listed.setIfInBounds i true) x=a1L (Dof listed) i x:=fun x=>a4H (by omega) x;refine a4f (fun x hx hq=>?_) ⟨i,by simpa using hi,?_,?_⟩
 . have:=hset x;simp only[Dof]at this;rw[this]at hq;simp only[a1L,Dof,Bool.not_or,Bool.and_eq_true]at hq;exact hq.1
 . have h3:listed.getD i false=false:=hD;rw[h3];rfl
 . have:=hset i;simp only[Dof]at this;rw[this];simp[a1L,Nat.beq_refl]
theorem b4p {E:Env} {c:Ctx} (hctx:CtxOK P c) {ops:Array Oper} {m n:Nat} {σ0:St} {es:List Ent} {ss:List St} (W:Walk c ops.toList m n σ0 es ss) {k:St->Option R} {r:R} {kv:List (Nat×Value)} (hkp:a1M (kv.map (·.1)) ops.toList=true)
   {σm:St} (hσm:ss[m]? = some σm) (hstr:∀ i j oi oj,ops.toList[i]? = some oi->ops.toList[j]? = some oj->j<i->m<i->Anc ops.toList i j) (hM0:∀ e∈es,e.M=[])
   (hmid:∀ U∈(a2B (a2a ops.toList m)).filter (okU ops.toList m),midK c ops.toList m U σ0 σm k=some r):UpOK P E ops m es σ0 kv k r:=by
 intro fuel listed s σr a w G i o hf hl ht hc hM hdel hrel hkeep ho hmi hDi hA ⟨j0,hj0,hj0f⟩;have hilt:=(Array.getElem?_eq_some_iff.1 ho).1;have hol:ops.toList[i]? = some o:=by simpa using ho
 have him:i=m:=by
   rcases Nat.lt_or_ge m i with h|h
   . have:=hA m (hstr i m o ops[m] hol (by simp[show m<ops.size by omega]) h h);have h3:Dof listed m=false:=ht m (by omega) (Nat.le_refl _);rw[h3]at this;cases this
   . omega
 subst him;have hanc:∀ i a,hasN (nth (ancT ops.toList []) i []) a=true->Anc ops.toList i a:=fun i a h=>a2y ops.toList ops.toList [] ⟨[],rfl,rfl⟩ (fun i a ha=>by simp[nth]at ha) i a (a0Q h);have hU:∀ x,x<i->(x∈(a2a ops.toList i).filter (fun j=>!Dof listed j)↔Dof listed x=false):=by
   intro x hx;rw[List.mem_filter];constructor
   . rintro⟨_,h⟩;simpa using h
   . intro h;refine⟨?_,by simp[h]⟩;unfold a2a;rw[List.mem_filter];refine⟨by simpa using hx,?_⟩;cases hb:hasN (nth (ancT ops.toList []) i []) x with
     | false=>rfl
     | true=>have:=hA x (hanc i x hb);rw[h]at this;cases this
 have hlt:∀ x∈(a2a ops.toList i).filter (fun j=>!Dof listed j),x<i:=by
   intro x hx;have:=(List.mem_filter.1 hx).1;unfold a2a at this;simpa using(List.mem_filter.1 this).1
 generalize hUe:(a2a ops.toList i).filter (fun j=>!Dof listed j)=U at hU hlt;have hhas:∀ x,x<i->(!hasN U x)=Dof listed x:=by
   intro x hx;cases hD:Dof listed x with
   | false=>rw[a3y ((hU x hx).2 hD)];rfl
   | true =>
     cases hb:hasN U x with
     | false=>rfl
     | true=>have:=(hU x hx).1 (a0Q hb);rw[hD]at this;cases this
 have hin:U∈(a2B (a2a ops.toList i)).filter (okU ops.toList i):=by
   rw[List.mem_filter];refine⟨by rw[<-hUe];exact a3i _ _,?_⟩;unfold okU;refine a5E fun x hx=>?_;have hx:x<i:=by simpa using hx
   cases hb:hasN U x with
   | true=>rfl
   | false =>
     have hDx:Dof listed x=true:=by rw[<-hhas x hx,hb];rfl
     rw[Bool.false_or];refine a5E fun y hy=>?_;have hA2:=hanc x y (a3y hy);have hDy:=hc x y hDx hA2;have hyx:=a6B W.ok hA2;rw[hhas y (by omega)];exact hDy
 have hm:=hmid U hin;have hU0:=(hU j0 hj0).2 hj0f;unfold midK at hm;cases U with
 | nil=>cases hU0
 | cons u us =>
   simp only[]at hm;have hnth:nth (ops.toList.map some) i none=some o:=by rw[a0l,List.getElem?_map,hol];rfl
   rw[hnth]at hm;simp only[]at hm;obtain⟨b,σ',hw,hrun,hskip,hrest⟩:=a8R hm;simp only[opsK]at hrest;obtain⟨⟨s',hs',hM'⟩,_⟩:=a3j W i (Nat.le_refl _);rw[hσm]at hs';rw[<-Option.some.inj hs']at hM';have hM2:=a4p (b4F W (U:=u::us) hM') (D':=Dof listed) fun x hx=>hhas x hx;obtain⟨e1,e2⟩:=b5w hM hM2;have noMv:∀ D q,¬ MvD es D q:=by
     rintro D q ⟨k,e,_,h2,h3⟩;rw[hM0 e (List.mem_of_getElem? h2)]at h3;cases h3
   have e3:σr.ts=s.ts:=b5G hdel.len fun τ=>hdel.keep τ fun q hq=>absurd hq (noMv _ q);have e4:∀ q,rget σr.rs q=rget s.rs q:=fun q=>hdel.rsK q (noMv _ q);have hrel2:Rel P E (b1H ops.toList i (u::us) σ0 σm) a w G:=a9c hrel (by rw[e1,e3]) fun q=>by rw[e2,e4]
   have hmem:o∈ops.toList:=by
     have:=Array.mem_of_getElem? ho;simpa using this
   refine a8o hctx ho hrel2 hkeep (a1X hkp o hmem) hw hrun hskip fun a' w' G' hrel' hkeep'=>?_;refine a6C hctx W.ok.early hkp fuel _ _ _ σ' a' w' G' (fun x ox=>?_) (by simp[hl]) ?_ hrest hrel' hkeep'
   . rw[b1N,a9g,a4H (by omega)];simp only[a1L,Bool.or_eq_false_iff];constructor
     . rintro⟨⟨h4,h5⟩,h6⟩;refine⟨h4,?_,?_⟩
       . rcases h5 with h5|h5
         . exact(hU x (hlt x h5)).1 h5
         . exact ht x (Array.getElem?_eq_some_iff.1 h4).1 h5
       . cases hb:Nat.beq x i with
         | false=>rfl
         | true=>exact absurd (Nat.eq_of_beq_eq_true hb) h6
     . rintro⟨h4,h5,h6⟩;refine⟨⟨h4,?_⟩,fun e=>by subst e;rw[Nat.beq_refl]at h6;cases h6⟩;rcases Nat.lt_or_ge x i with h|h
       . exact .inl ((hU x h).2 h5)
       . exact .inr h
   . have:=b4B hilt hl hDi;omega
theorem b3o {E : Env} {c:Ctx} (hctx:CtxOK P c) {ops:Array Oper} {m n:Nat} {σ0:St} {es:List Ent} {ss:List St} (W:Walk c ops.toList m n σ0 es ss) {k:St->Option R} {r:R} {kv:List (Nat×Value)} (hkp:a1M (kv.map (·.1)) ops.toList=true)
   {σm:St} (hσm:ss[m]? = some σm) {mvn:List Nat} (hmvn:∀ q,q∈mvn↔∃ (j:Nat) (e:Ent),es[j]? = some e/\q∈e.M) (htail:∀ (fuel:Nat) (listed:Array Bool) (a:Act) (w:World) (G:Nat->RG),ops.size-m≤fuel->listed.size=ops.size->(∀ i,i<ops.size->listed.getD i false=Nat.blt i m)->Rel P E (a0G mvn σm) a w G->Keep kv a->wpAny P .any ops (a2o P E kv k r) fuel listed a w) (hup:UpOK P E ops m es σ0 kv k r) :
   ∀ (fuel:Nat) (listed:Array Bool) (s σr:St) (a:Act) (w:World) (G:Nat->RG),left ops.size listed≤fuel->listed.size=ops.size->(∀ i,i<ops.size->m≤i->listed.getD i false=false)->a4q ops.toList (Dof listed) →
     Mid ops.toList m es σ0 (Dof listed) s->DelS es (Dof listed) s σr->Rel P E σr a w G->Keep kv a->wpAny P .any ops (a2o P E kv k r) fuel listed a w:=by
 have hms:m≤ops.size:=by simpa using W.mle
 have hgd:∀ (listed:Array Bool) (i:Nat),listed.size=ops.size->i<ops.size->listed.getD i true=listed.getD i false:=by
   intro listed i h1 h2;have:i<listed.size:=by omega
   simp[Array.getD_eq_getD_getElem?,this]
 have full:∀ (fuel:Nat) (listed:Array Bool) (s σr:St) (a:Act) (w:World) (G:Nat->RG),left ops.size listed≤fuel->listed.size=ops.size->(∀ i,i<ops.size->m≤i->listed.getD i false=false) →
     (∀ i,i<m->listed.getD i false=true)->Mid ops.toList m es σ0 (Dof listed) s->DelS es (Dof listed) s σr->Rel P E σr a w G->Keep kv a->wpAny P .any ops (a2o P E kv k r) fuel listed a w:=by
   intro fuel listed s σr a w G hf hl ht hall hM hdel hrel hkeep;obtain⟨⟨s',hs',hM'⟩,_⟩:=a3j W m (Nat.le_refl _);rw[hσm]at hs';rw[<-Option.some.inj hs']at hM';clear hs';have hM2:Mid ops.toList m es σ0 (upto m) s:=a4p hM fun i hi=>by rw[upto_iff.2 hi];exact hall i hi
   obtain⟨e1,e2⟩:=b5w hM2 hM';have hmv:∀ q,MvD es (Dof listed) q↔q∈mvn:=fun q=>by
     rw[hmvn];exact⟨fun⟨k,e,_,h1,h2⟩=>⟨k,e,h1,h2⟩,fun⟨k,e,h1,h2⟩=>⟨k,e,hall k (W.elen k e h1),h1,h2⟩⟩
   have e3:(a0G mvn σm).ts=σr.ts:=by
     refine b5G (by rw[a5F,e1,hdel.len]) fun τ=>?_;rw[a3n,e1];by_cases hu:a1g mvn (nth s.ts τ .dead)=true
     . rw[if_pos hu];obtain⟨q,hq,hu⟩:=usesAny_true.1 hu;exact(hdel.gone τ q ((hmv q).2 hq) hu).symm
     . rw[if_neg hu];refine(hdel.keep τ fun q hq=>?_).symm;cases hx:(nth s.ts τ .dead).uses q with
       | false=>rfl
       | true=>exact absurd (usesAny_true.2 ⟨q,(hmv q).1 hq,hx⟩) hu
   have e4:∀ q,rget (a0G mvn σm).rs q=rget σr.rs q:=fun q=>by
     rw[a4T,e2];by_cases hq:q∈mvn
     . rw[if_pos hq];exact(hdel.rsG q ((hmv q).2 hq)).symm
     . rw[if_neg hq];exact(hdel.rsK q fun h=>hq ((hmv q).1 h)).symm
   have hcnt:ops.size-m≤fuel:=by
     refine Nat.le_trans ?_ hf;unfold left;have hsplit:List.range ops.size=List.range m++(List.range (ops.size-m)).map (m+·):=by
       rw[<-List.range_add];congr 1;omega
     rw[hsplit,List.countP_append,List.countP_map];have:(List.range (ops.size-m)).countP ((fun i=>!listed.getD i false)∘(m+·))=(List.range (ops.size-m)).length:=by
       rw[List.countP_eq_length];intro x hx;simp only[List.mem_range]at hx;simp only[Function.comp];rw[ht (m+x) (by omega) (by omega)];rfl
     rw[this];simp
   refine htail fuel listed a w G hcnt hl (fun i hi=>?_) (a9c hrel e3 e4) hkeep;by_cases him:i<m
   . rw[hall i him];exact(upto_iff.2 him).symm
   . rw[ht i hi (by omega)];cases hb:Nat.blt i m with
     | false=>rfl
     | true=>exact absurd (upto_iff.1 hb) him
 intro fuel;induction fuel with
 | zero =>
   intro listed s σr a w G hf hl ht hc hM hdel hrel hkeep;refine full 0 listed s σr a w G hf hl ht (fun i hi=>?_) hM hdel hrel hkeep;have h0:left ops.size listed=0:=by omega
   unfold left at h0;rw[List.countP_eq_zero]at h0;have:=h0 i (by simp;omega);simpa using this
 | succ fuel ih =>
   intro listed s σr a w G hf hl ht hc hM hdel hrel hkeep;by_cases hall:∀ i,i<m->listed.getD i false=true
   . exact full (fuel+1) listed s σr a w G hf hl ht hall hM hdel hrel hkeep
   ·
     have hex:∃ i,i<m/\listed.getD i false=false/\∀ j,j<i->listed.getD j false=true:=by
       have h1:∃ i,i<m/\listed.getD i false=false:=by
         refine Classical.byContradiction fun hn=>hall fun i hi=>?_;cases hg:listed.getD i false with
         | true=>rfl
         | false=>exact absurd ⟨i,hi,hg⟩ hn
       have h2 : ∀ N i,i<N->i<m->listed.getD i false=false->∃ i,i<m/\listed.getD i false=false/\∀ j,j<i->listed.getD j false=true:=by
         intro N;induction N with
         | zero=>intro i hi;omega
         | succ N ihN =>
           intro i hiN him hif;by_cases hj:∀ j,j<i->listed.getD j false=true
           . exact⟨i,him,hif,hj⟩
           . have:∃ j,j<i/\listed.getD j false=false:=by
               refine Classical.byContradiction fun hn=>hj fun j hj=>?_;cases hg:listed.getD j false with
               | true=>rfl
               | false=>exact absurd ⟨j,hj,hg⟩ hn
             obtain⟨j,hj1,hj2⟩:=this;exact ihN j (by omega) (by omega) hj2
       obtain⟨i,hi,hif⟩:=h1;exact h2 (i+1) i (by omega) hi hif
     refine⟨fun hr=>?_,fun i hi=>?_⟩
     . exfalso;obtain⟨i,him,hif,hlow⟩:=hex;have his:i<ops.size:=by omega
       have:i∈Region.ready .any ops listed:=ready_iff.2 ⟨ops[i],by simp[his],by rw[hgd listed i hl his];exact hif,fun e he hb=>hlow _ (W.ok.early i ops[i] (by simp[his]) e he hb)⟩;rw[hr]at this;cases this
     . obtain⟨o,ho,h1,h2⟩:=ready_iff.1 hi;have hilt:i<ops.size:=by
         rcases Nat.lt_or_ge i ops.size with h|h
         . exact h
         . rw[Array.getElem?_eq_none h]at ho;cases ho
       have hol:ops.toList[i]? = some o:=by simpa using ho
       have hanc:∀ x y,x=i->Anc ops.toList x y->Dof listed y=true:=by
         intro x y hx hxy;induction hxy with
         | @edge x o' e ho' he hb =>
           subst hx;rw[hol]at ho';obtain rfl:=Option.some.inj ho';exact h2 e he hb
         | trans h3 h4 ih3 ih4=>exact hc _ _ (ih3 hx) h4
       have hDi:Dof listed i=false:=by
         show listed.getD i false=false;rw[<-hgd listed i hl hilt];exact h1
       by_cases him:i<m
       rotate_left
       . obtain⟨j,hjm,hjf,_⟩:=hex;exact hup fuel listed s σr a w G i o hf hl ht hc hM hdel hrel hkeep ho (by omega) hDi (fun x hx=>hanc i x rfl hx) ⟨j,hjm,hjf⟩
       obtain⟨e,si,he,hsi,hn,mvd,hok,-⟩:=W.run i o him hol;obtain⟨hlook,hagree⟩:=a6w W hc hM him hol hsi hDi fun x hx=>hanc i x rfl hx;have hnm:=a9K W hc hM him hol hDi fun x hx=>hanc i x rfl hx;have hdel':=b3u W hc hM hdel him hol he hDi fun x hx=>hanc i x rfl hx;have hlookr:∀ τ∈a0a ops.toList o,nth σr.ts τ .dead=nth si.ts τ .dead:=fun τ hτ=>by rw[hdel.keep τ (hnm τ hτ),hlook τ hτ]
       have hagreer:Agree o si σr:=by
         refine⟨fun x hx=>?_,fun x hx q hq=>?_⟩
         . cases x with
           | tmp τ=>exact hlookr τ (a0g hx)
           | _=>rfl
         . rw[<-hagree.rs x hx q hq];obtain⟨τ,rfl⟩:=a3h hq;refine hdel.rsK q fun hmv=>?_;have:=hnm τ (a0g hx) q hmv;rw[hlook τ (a0g hx)]at this;have hq:(nth si.ts τ .dead).uses q=true:=hq;rw[hq]at this;cases this
       have hM':=b1I W hc (fun j _ hj=>a4x W j hj) hM him hol he hDi;have hmem:o∈ops.toList:=by
         have:=Array.mem_of_getElem? ho;simpa using this
       have hset:∀ x,Dof (listed.setIfInBounds i true) x=a1L (Dof listed) i x:=fun x=>a4H (by omega) x;refine a8o hctx ho hrel hkeep (a1X hkp o hmem) (b:=e.w) (by rw[b1y hlookr];exact hok.1) (σ':=(a2j e.N (a0G e.M σr)).put o.dst e.t) (fun hb=>?_) (fun hb=>?_) fun a' w' G' hrel' hkeep'=>?_
       . rcases hok.2.2 with⟨_,hloc,_⟩|⟨hw,_⟩
         . exact hloc.step σr hagreer some
         . rw[hb]at hw;cases hw
       . rcases hok.2.2 with⟨hw,_⟩|⟨_,hN,hM0,ht'⟩
         . rw[hb]at hw;cases hw
         . simp only[hN,hM0,ht',a2j,a0G]
       . refine ih _ _ _ a' w' G' ?_ (by simpa using hl) (fun x hx hmx=>?_) (fun x y hx hxy=>?_) (a4p hM' fun x _=>(hset x).symm) (b1o hdel' fun x _=>(hset x).symm) hrel' hkeep'
         . have:left ops.size (listed.setIfInBounds i true)<left ops.size listed:=by
             refine a4f (fun x hx hq=>?_) ⟨i,by simpa using hilt,?_,?_⟩
             . have:=hset x;simp only[Dof]at this;rw[this]at hq;simp only[a1L,Dof,Bool.not_or,Bool.and_eq_true]at hq;exact hq.1
             . have h3:listed.getD i false=false:=hDi;rw[h3];rfl
             . have:=hset i;simp only[Dof]at this;rw[this];simp[a1L,Nat.beq_refl]
           omega
         . have:=hset x;simp only[Dof]at this;rw[this];simp only[a1L,Dof,ht x hx hmx,Bool.false_or];cases hb:Nat.beq x i with
           | false=>rfl
           | true=>have:=Nat.eq_of_beq_eq_true hb;omega
         . rw[hset]at hx ⊢;simp only[a1L,Bool.or_eq_true]at hx ⊢;rcases hx with hx|hx
           . exact .inl (hc x y hx hxy)
           . exact .inl (hanc x y (Nat.eq_of_beq_eq_true hx) hxy)
end Go.Vm
end
section
namespace Go.Vm
variable {P:Program}
theorem a7s {α:Type} {p:α->Bool} {l:List α} (h:b4e p l=true):∃ x∈l,p x=true:=by
 unfold b4e at h;induction l with
 | nil=>simp[allB]at h
 | cons x l ih =>
   simp only[allB]at h;cases hx:p x with
   | true=>exact⟨x,by simp,hx⟩
   | false =>
     rw[hx]at h;obtain⟨y,h1,h2⟩:=ih h;exact⟨y,by simp[h1],h2⟩
inductive FloatK (a:Act) (o:Oper):Prop
 | mv (x:Operand) (h:o.op = .move x)
 | ex (t:Operand) (i:Nat) (h:o.op = .extract t i)
 | add (T:TypeId) (x y:Operand) (b:TypeId) (h:o.op = .binOp .add T x y b) (hx:∃ k n,a.eval x = .int k n) (hy:∃ k n,a.eval y = .int k n)
theorem b2t {a:Act} {o:Oper} (h:FloatK a o) {w w':World} {n:Next} (hr:(execOp a.eval o).run P w = .ok n w'):w'=w/\∃ v,n = .value v/\∀ w2,(execOp a.eval o).run P w2 = .ok (.value v) w2:=by
 cases h with
 | mv x ho =>
   simp only[execOp,ho,Sem.run_pure,Result.ok.injEq]at hr ⊢;obtain⟨rfl,rfl⟩:=hr;exact⟨rfl,_,rfl,fun w2=>⟨rfl,trivial⟩⟩
 | ex t ix ho =>
   simp only[execOp,ho]at hr ⊢;cases hv:a.eval t with
   | tuple vs =>
     simp only[hv,Instr.extract]at hr ⊢;cases hx:vs[ix]? with
     | some v =>
       simp[hx]at hr ⊢;exact⟨hr.2.symm,hr.1.symm⟩
     | none=>simp[hx]at hr
   | _=>simp[hv,Instr.extract]at hr
 | add T x y b ho hx hy =>
   obtain⟨k1,n1,hx⟩:=hx;obtain⟨k2,n2,hy⟩:=hy;simp only[execOp,ho,eqGuard]at hr ⊢;simp[hx,hy,Go.binOp]at hr ⊢;by_cases hk:k1=k2
   . simp[hk,Op.intArith]at hr ⊢;exact⟨hr.2.symm,hr.1.symm⟩
   . simp[hk]at hr
structure Floats (ops ops':Array Oper) (Fl:Nat->Bool) (X:Nat->Nat->Prop) (S:Nat->Prop) (n:Nat):Prop where
 size:ops'.size=ops.size
 same:∀ (i:Nat) (o:Oper),ops[i]? = some o->∃ af:Array Edge,ops'[i]? = some ⟨o.dst,o.op,o.type,o.pos,af,o.guard⟩/\(∀ e∈o.after,e∈af)/\∀ e∈af,Region.binds .any e=true->e∈o.after∨X i e.on
 x:∀ i f,X i f->Fl f=true/\f<i/\∀ o:Oper,ops[f]? = some o->∀ e∈o.after,Region.binds .any e=true->X i e.on∨Anc ops.toList i e.on
 fl:∀ i,Fl i=true->∃ o:Oper,ops[i]? = some o
 gd:∀ (i:Nat) (o:Oper),Fl i=true->ops[i]? = some o->o.guard=none/\∃ d:Nat,o.dst=some d/\d<n
 kind:∀ (i:Nat) (o:Oper),Fl i=true->ops[i]? = some o->(∃ x,o.op = .move x)∨(∃ t ix,o.op = .extract t ix)∨∃ T x y b,o.op = .binOp .add T x y b/\∀ z,(z=x∨z=y)->∃ (d j:Nat) (oj:Oper) (τ:Nat),z = .tmp d/\ops[j]? = some oj/\Fl j=true/\oj.op = .move (.tmp τ)/\S τ/\oj.dst=some d/\∃ e∈o.after,Region.binds .any e=true/\e.on=j
 stab:∀ (i:Nat) (o:Oper) (τ:Nat),ops[i]? = some o->S τ->o.dst≠some τ
 early:∀ (i:Nat) (o:Oper),ops[i]? = some o->∀ e∈o.after,Region.binds .any e=true->e.on<i
 sel:∀ (i:Nat) (o:Oper),ops[i]? = some o->∀ cs b,o.op ≠ .select cs b
 self:∀ (f:Nat) (o:Oper) (d:Nat),Fl f=true->ops[f]? = some o->o.dst=some d->d∉o.looksAt ops
 apart:∀ (f:Nat) (o:Oper) (d:Nat),Fl f=true->ops[f]? = some o->o.dst=some d->∀ (i:Nat) (oi:Oper),ops[i]? = some oi->i≠f->oi.dst≠some d/\(d∈oi.looksAt ops->Anc ops.toList i f)
 back:∀ (f:Nat) (o:Oper),Fl f=true->ops[f]? = some o->∀ (i:Nat) (oi:Oper) (d:Nat),ops[i]? = some oi->i≠f->oi.dst=some d->d∈o.looksAt ops->Anc ops.toList f i∨Anc ops.toList i f
structure Pend (P:Program) (ops:Array Oper) (Fl:Nat->Bool) (S:Nat->Prop) (n:Nat) (L Lp:Array Bool) (a ap:Act):Prop where
 s1:L.size=ops.size
 s2:Lp.size=ops.size
 sub:∀ i,Dof L i=true->Dof Lp i=true
 pend:∀ i,Dof Lp i=true->Dof L i=false->Fl i=true
 clo:∀ (i:Nat) (o:Oper),ops[i]? = some o->Dof L i=true->∀ e∈o.after,Region.binds .any e=true->Dof L e.on=true
 cloP:∀ (i:Nat) (o:Oper),ops[i]? = some o->Dof Lp i=true->∀ e∈o.after,Region.binds .any e=true->Dof Lp e.on=true
 val:∀ (i:Nat) (o:Oper),ops[i]? = some o->Dof Lp i=true->Dof L i=false->∃ v,(∀ w,(execOp ap.eval o).run P w = .ok (.value v) w)/\ap.put o.dst v=ap
 tm:∀ τ,(∀ (i:Nat) (o:Oper),ops[i]? = some o->Dof Lp i=true->Dof L i=false->o.dst≠some τ)->ap.tmps[τ]? = a.tmps[τ]?
 sz:ap.tmps.size=a.tmps.size
 sn:n≤a.tmps.size
 df:ap.defers=a.defers
 st:∀ τ,S τ->∃ k z,ap.eval (.tmp τ) = .int k z
 mv:∀ (i:Nat) (o:Oper) (τ d:Nat),ops[i]? = some o->Fl i=true->Dof Lp i=true->o.op = .move (.tmp τ)->S τ->o.dst=some d->∃ k z,ap.eval (.tmp d) = .int k z
section
variable {ops ops':Array Oper} {Fl:Nat->Bool} {X:Nat->Nat->Prop} {S:Nat->Prop} {n:Nat}
theorem a6A {L:Array Bool} (hclo:∀ (i:Nat) (o:Oper),ops[i]? = some o->Dof L i=true->∀ e∈o.after,Region.binds .any e=true->Dof L e.on=true) {i a:Nat} (k:Anc ops.toList i a) :
   (∀ o:Oper,ops[i]? = some o->∀ e∈o.after,Region.binds .any e=true->Dof L e.on=true)->Dof L a=true:=by
 induction k with
 | edge ho he hb=>intro h;exact h _ (by simpa using ho) _ he hb
 | trans h1 h2 ih1 ih2=>intro h;exact ih2 fun o ho=>hclo _ o ho (ih1 h)
theorem a2D (a:Act) (d:Nat) (v:Value) (τ:Nat):(a.put (some d) v).tmps[τ]? = if d=τ then(if d<a.tmps.size then some v else none)else a.tmps[τ]? := by
 simp only[Act.put,Array.getElem?_setIfInBounds]
theorem a2b (a:Act) (d:Option Nat) (v:Value):(a.put d v).tmps.size=a.tmps.size:=by
 cases d<;>simp[Act.put]
theorem a3z (a:Act) (d:Option Nat) (v:Value):(a.put d v).defers=a.defers:=by
 cases d<;>rfl
theorem b4j (a:Act) (d:Option Nat) (v:Value):(a.put d v).put d v=a.put d v:=by
 cases d with
 | none=>rfl
 | some d=>simp[Act.put,Array.setIfInBounds_setIfInBounds]
theorem a9A {a b:Act} {τ:Nat} (h:a.tmps[τ]? = b.tmps[τ]?):a.eval (.tmp τ)=b.eval (.tmp τ):=by
 simp only[Act.eval,Array.getD_eq_getD_getElem?,h]
theorem a1m (a:Act) {d:Option Nat} (v:Value) {τ:Nat} (h:d≠some τ):(a.put d v).eval (.tmp τ)=a.eval (.tmp τ):=by
 cases d with
 | none=>rfl
 | some d=>exact a9A (by rw[a2D,if_neg fun e=>h (by rw[e])])
theorem a8D (a:Act) {d:Nat} (v:Value) (h:d<a.tmps.size):(a.put (some d) v).eval (.tmp d)=v:=by
 have:=a2D a d v d;rw[if_pos rfl,if_pos h]at this;simp only[Act.eval,Array.getD_eq_getD_getElem?,this,Option.getD_some]
theorem b2Q (F:Floats ops ops' Fl X S n) {a b:Act} {o:Oper} (hsel:∀ cs b,o.op ≠ .select cs b) (h:∀ τ∈o.looksAt ops,a.tmps[τ]? = b.tmps[τ]?) :
   execOp a.eval o=execOp b.eval o/\Region.wanted o (yielded ops a.tmps)=Region.wanted o (yielded ops b.tmps):=by
 refine⟨execOp_congr o hsel fun x hx=>?_,?_⟩
 . cases x with
   | tmp τ=>exact a9A (h τ (List.mem_append_left _ (List.mem_filterMap.2 ⟨.tmp τ,by simpa using hx,rfl⟩)))
   | _=>rfl
 . unfold Region.wanted;cases hg:o.guard with
   | none=>rfl
   | some gw =>
     obtain⟨g,want⟩:=gw;have:yielded ops a.tmps g=yielded ops b.tmps g:=by
       unfold yielded;cases ht:(ops[g]?).bind (·.dst)with
       | none=>rfl
       | some t=>simp only[Option.bind_some];rw[h t (by simp[Oper.looksAt,hg,ht])]
     simp only[this]
theorem b0B (F:Floats ops ops' Fl X S n) (t:Array Value):yielded ops' t=yielded ops t:=by
 funext g;unfold yielded;have:(ops'[g]?).bind (·.dst)=(ops[g]?).bind (·.dst):=by
   cases ho:ops[g]? with
   | none =>
     have:ops'[g]? = none:=by
       rw[Array.getElem?_eq_none_iff]at ho ⊢;rw[F.size];exact ho
     rw[this]
   | some o=>obtain⟨af,h,_⟩:=F.same g o ho;rw[h];rfl
 rw[this]
theorem a0K {L:Array Bool} {i j:Nat} (hi:i<L.size):Dof (L.setIfInBounds i true) j=true↔Dof L j=true∨j=i:=by
 rw[a4H hi];simp only[a1L,Bool.or_eq_true];exact⟨fun h=>h.imp id fun h=>Nat.eq_of_beq_eq_true h,fun h=>h.imp id fun h=>by rw[h];exact Nat.beq_refl _⟩
theorem a3f {L:Array Bool} {i j:Nat} (hi:i<L.size):Dof (L.setIfInBounds i true) j=false↔Dof L j=false/\j≠i:=by
 have:=a0K (L:=L) (i:=i) (j:=j) hi;cases h1:Dof (L.setIfInBounds i true) j<;>cases h2:Dof L j<;>simp_all
theorem Pend.ahead (F:Floats ops ops' Fl X S n) {L Lp:Array Bool} {a ap:Act} (p:Pend P ops Fl S n L Lp a ap) {f:Nat} {o:Oper} (hf:Fl f=true) (ho:ops[f]? = some o) (hL:Dof Lp f=false)
   (hed:∀ e∈o.after,Region.binds .any e=true->Dof Lp e.on=true) {v:Value} (w0:World) (hv:∀ w,(execOp ap.eval o).run P w = .ok (.value v) w):Pend P ops Fl S n L (Lp.setIfInBounds f true) a (ap.put o.dst v):=by
 obtain⟨hg,d,hd,hdn⟩:=F.gd f o hf ho;have hfs:f<Lp.size:=by rw[p.s2];exact(Array.getElem?_eq_some_iff.1 ho).1
 have hLf:Dof L f=false:=by
   cases h:Dof L f with
   | false=>rfl
   | true=>rw[p.sub f h]at hL;cases hL
 have other:∀ i oi,ops[i]? = some oi->i≠f->Dof Lp i=true->d∉oi.looksAt ops:=fun i oi hi hne hl hdl=>by
   have:=a6A (L:=Lp) p.cloP ((F.apart f o d hf ho hd i oi hi hne).2 hdl) fun o' ho'=>p.cloP i o' ho' hl;rw[hL]at this;cases this
 have odst:∀ i oi,ops[i]? = some oi->i≠f->oi.dst≠some d:=fun i oi hi hne=>(F.apart f o d hf ho hd i oi hi hne).1;refine⟨p.s1,by simp[p.s2],fun i h=>(a0K hfs).2 (.inl (p.sub i h)),fun i h h2=>?_,p.clo,fun i oi hi h e he hb=>?_,fun i oi hi h h2=>?_,fun τ h=>?_,by rw[a2b,p.sz],p.sn,by rw[a3z,p.df],fun τ h=>?_,fun i oi τ d' hi hfl h ho' hs hd'=>?_⟩
 . rcases(a0K hfs).1 h with h|rfl
   . exact p.pend i h h2
   . exact hf
 . rcases(a0K hfs).1 h with h|rfl
   . exact(a0K hfs).2 (.inl (p.cloP i oi hi h e he hb))
   . rw[ho]at hi;obtain rfl:=Option.some.inj hi;exact(a0K hfs).2 (.inl (hed e he hb))
 . by_cases hne:i=f
   . subst hne;rw[ho]at hi;obtain rfl:=Option.some.inj hi;exact⟨v,fun w=>by rw[execOp_put (ops:=ops) o (F.sel i o ho) ap o.dst v fun d' hd'=>F.self i o d' hf ho hd'];exact hv w,b4j _ _ _⟩
   . rcases(a0K hfs).1 h with h|rfl
     . obtain⟨u,h3,h4⟩:=p.val i oi hi h h2;refine⟨u,fun w=>?_,?_⟩
       . rw[execOp_put (ops:=ops) oi (F.sel i oi hi) ap o.dst v fun d' hd'=>?_]
         . exact h3 w
         . rw[hd]at hd';obtain rfl:=Option.some.inj hd';exact other i oi hi hne h
       . rw[Act.put_comm ap v u fun d' hd'=>?_,h4];rw[hd]at hd';obtain rfl:=Option.some.inj hd';exact odst i oi hi hne
     . exact absurd rfl hne
 . have h1:d≠τ:=fun e=>h f o ho ((a0K hfs).2 (.inr rfl)) hLf (by rw[hd,e]);rw[hd,a2D,if_neg h1];exact p.tm τ fun i oi hi hl hl2=>h i oi hi ((a0K hfs).2 (.inl hl)) hl2
 . rw[a1m _ _ (F.stab f o τ ho h)];exact p.st τ h
 . by_cases hne:i=f
   . subst hne;rw[ho]at hi;obtain rfl:=Option.some.inj hi;rw[hd]at hd';obtain rfl:=Option.some.inj hd';rw[hd,a8D _ _ (by rw[p.sz];have:=p.sn;omega)];obtain⟨k,z,he⟩:=p.st τ hs;have hv:=hv w0;simp only[execOp,ho',Sem.run_pure,Result.ok.injEq,Next.value.injEq]at hv;exact⟨k,z,by rw[<-hv.1];exact he⟩
   . rcases(a0K hfs).1 h with h|rfl
     . rw[a1m _ _ (by rw[hd];intro e;exact odst i oi hi hne (by rw[hd',<-Option.some.inj e]))];exact p.mv i oi τ d' hi hfl h ho' hs hd'
     . exact absurd rfl hne
theorem Pend.kind (F:Floats ops ops' Fl X S n) {L Lp:Array Bool} {a ap:Act} (p:Pend P ops Fl S n L Lp a ap) {f:Nat} {o:Oper} (hf:Fl f=true) (ho:ops[f]? = some o)
   (hed:∀ e∈o.after,Region.binds .any e=true->Dof Lp e.on=true):FloatK ap o:=by
 rcases F.kind f o hf ho with⟨x,h⟩|⟨t,ix,h⟩|⟨T,x,y,b,h,hz⟩
 . exact .mv x h
 . exact .ex t ix h
 . have arg:∀ z,(z=x∨z=y)->∃ k u,ap.eval z = .int k u:=fun z hz'=>by
     obtain⟨d,j,oj,τ,rfl,h1,h2,h3,h4,h5,e,h6,h7,h8⟩:=hz z hz';exact p.mv j oj τ d h1 h2 (by rw[<-h8];exact hed e h6 h7) h3 h4 h5
   exact .add T x y b h (arg x (.inl rfl)) (arg y (.inr rfl))
theorem b5A {Q:Exit->Act->World->Prop} (hQ:∀ e a w,Q e a w->e = .normal):¬ LetsOut Q:=fun⟨a,w,h⟩=>by have:=hQ _ _ _ h;cases this
theorem b1d (F:Floats ops ops' Fl X S n) {Q:Exit->Act->World->Prop} (hQ:∀ e a w,Q e a w->e = .normal) {K:Act->World->Prop} {w:World} {L Lp:Array Bool} {a ap:Act} (p:Pend P ops Fl S n L Lp a ap) {f:Nat} {o:Oper} (hf:Fl f=true) (ho:ops[f]? = some o) (hL:Dof Lp f=false)
   (hed:∀ e∈o.after,Region.binds .any e=true->Dof Lp e.on=true) (h:wpOp P ops' Q f K ap w):∃ v,Pend P ops Fl S n L (Lp.setIfInBounds f true) a (ap.put o.dst v)/\K (ap.put o.dst v) w:=by
 obtain⟨af,h1,_⟩:=F.same f o ho;obtain⟨hg,d,hd,hdn⟩:=F.gd f o hf ho;unfold wpOp at h;simp only[h1]at h;rw[if_pos (by unfold Region.wanted;simp[hg])]at h;rcases h with h|⟨-,h⟩
 . unfold Oper.wp at h;have hk:=p.kind F hf ho hed;have e0:execOp ap.eval ⟨o.dst,o.op,o.type,o.pos,af,o.guard⟩=execOp ap.eval o:=rfl;rw[e0]at h;cases hr:(execOp ap.eval o).run P w with
   | ok nx w' =>
     obtain⟨hw,v,rfl,hv⟩:=b2t hk hr;rw[hr,hw]at h;exact⟨v,p.ahead F hf ho hL hed w hv,h⟩
   | halt x w' =>
     rw[hr]at h;cases x<;>first|exact absurd (hQ _ _ _ h) (by simp)|exact False.elim h
 . exact absurd h (b5A hQ)
theorem b4d (F : Floats ops ops' Fl X S n) {Q:Exit->Act->World->Prop} (hQ:∀ e a w,Q e a w->e = .normal) {w:World} {L:Array Bool} {a:Act}:∀ (j:Nat),j≤ops.size->∀ (fuel:Nat) (Lp:Array Bool) (ap:Act),Pend P ops Fl S n L Lp a ap->wpAny P .any ops' Q fuel Lp ap w →
   ∃ fuel2 Lp2 ap2,Pend P ops Fl S n L Lp2 a ap2/\wpAny P .any ops' Q fuel2 Lp2 ap2 w/\∀ f o,f<j->Fl f=true->ops[f]? = some o->(∀ e∈o.after,Region.binds .any e=true->Dof Lp2 e.on=true)->Dof Lp2 f=true:=by
 intro j;induction j with
 | zero=>intro _ fuel Lp ap p h;exact⟨fuel,Lp,ap,p,h,fun f o hf=>by omega⟩
 | succ j ih =>
   intro hj fuel Lp ap p h;obtain⟨fuel2,Lp2,ap2,p2,h2,h3⟩:=ih (by omega) fuel Lp ap p h;have ho:ops[j]? = some ops[j]:=by simp[show j<ops.size by omega]
   by_cases hc:Fl j=true/\Dof Lp2 j=false/\∀ e∈ops[j].after,Region.binds .any e=true->Dof Lp2 e.on=true
   . obtain⟨c1,c2,c3⟩:=hc;have hjs:j<Lp2.size:=by rw[p2.s2];omega
     have hready:j∈Region.ready .any ops' Lp2:=by
       obtain⟨af,q1,q2,q3⟩:=F.same j _ ho;refine ready_iff.2 ⟨_,q1,?_,fun e he hb=>?_⟩
       . have:Lp2.getD j false=false:=c2;simpa[Array.getD_eq_getD_getElem?,hjs]using this
       . rcases q3 e he hb with h|h
         . exact c3 e h hb
         . have key:∀ f,X j f->Dof Lp2 f=true:=by
             intro f;induction f using Nat.strongRecOn with
             | ind f ihf =>
               intro hx;obtain⟨x1,x2,x3⟩:=F.x j f hx;obtain⟨of,hof⟩:=F.fl f x1;refine h3 f of x2 x1 hof fun e' he' hb'=>?_;rcases x3 of hof e' he' hb' with h'|h'
               . exact ihf _ (F.early f of hof e' he' hb') h'
               . exact a6A (L:=Lp2) p2.cloP h' fun o' ho'=>by rw[ho]at ho';obtain rfl:=Option.some.inj ho';exact c3
           exact key _ h
     cases fuel2 with
     | zero=>rw[h2.1]at hready;cases hready
     | succ n' =>
       obtain⟨v,p3,h4⟩:=b1d F hQ p2 c1 ho c2 c3 (h2.2 j hready);refine⟨n',_,_,p3,h4,fun f o hf hfl hof hed=>?_⟩;by_cases hfj:f=j
       . exact(a0K hjs).2 (.inr hfj)
       . refine(a0K hjs).2 (.inl (h3 f o (by omega) hfl hof fun e he hb=>?_));rcases(a0K hjs).1 (hed e he hb)with h|h
         . exact h
         . have:=F.early f o hof e he hb;omega
   . refine⟨fuel2,Lp2,ap2,p2,h2,fun f o hf hfl hof hed=>?_⟩;by_cases hfj:f=j
     . subst hfj;rw[ho]at hof;obtain rfl:=Option.some.inj hof;cases hb:Dof Lp2 f with
       | true=>rfl
       | false=>exact absurd ⟨hfl,hb,hed⟩ hc
     . exact h3 f o (by omega) hfl hof hed
theorem Pend.both (F:Floats ops ops' Fl X S n) {L Lp:Array Bool} {a ap:Act} (p:Pend P ops Fl S n L Lp a ap) {i:Nat} {o:Oper} (ho:ops[i]? = some o) (hLp:Dof Lp i=false)
   (hed:∀ e∈o.after,Region.binds .any e=true->Dof L e.on=true) (hFl:Fl i=false) (v:Value):Pend P ops Fl S n (L.setIfInBounds i true) (Lp.setIfInBounds i true) (a.put o.dst v) (ap.put o.dst v):=by
 have his:i<ops.size:=(Array.getElem?_eq_some_iff.1 ho).1;have h1:i<L.size:=by rw[p.s1];exact his
 have h2:i<Lp.size:=by rw[p.s2];exact his
 have hL:Dof L i=false:=by
   cases h:Dof L i with
   | false=>rfl
   | true=>rw[p.sub i h]at hLp;cases hLp
 have edP:∀ e∈o.after,Region.binds .any e=true->Dof Lp e.on=true:=fun e he hb=>p.sub _ (hed e he hb);have pen:∀ f,Dof (Lp.setIfInBounds i true) f=true->Dof (L.setIfInBounds i true) f=false->f≠i/\Dof Lp f=true/\Dof L f=false:=fun f h h'=>by
   obtain⟨h3,h4⟩:=(a3f h1).1 h';rcases(a0K h2).1 h with h|h
   . exact⟨h4,h,h3⟩
   . exact absurd h h4
 have nolook:∀ f of,ops[f]? = some of->f≠i->Fl f=true->Dof Lp f=true->Dof L f=false->∀ d,o.dst=some d->d∉of.looksAt ops:=fun f of hof hne hfl hl hlf d hd hdl=>by
   rcases F.back f of hfl hof i o d ho (Ne.symm hne) hd hdl with h5|h5
   . have:=a6A (L:=Lp) p.cloP h5 fun o' ho'=>p.cloP f o' ho' hl;rw[hLp]at this;cases this
   . have:=a6A (L:=L) p.clo h5 fun o' ho'=>by
       rw[ho]at ho';obtain rfl:=Option.some.inj ho';exact hed
     rw[hlf]at this;cases this
 have nodst:∀ f of,ops[f]? = some of->f≠i->Fl f=true->∀ d,of.dst=some d->o.dst≠some d:=fun f of hof hne hfl d hd=>(F.apart f of d hfl hof hd i o ho (Ne.symm hne)).1;refine⟨by simp[p.s1],by simp[p.s2],fun j h=>?_,fun j h h'=>?_,fun j oj hj h e he hb=>?_,fun j oj hj h e he hb=>?_,fun j oj hj h h'=>?_,fun τ h=>?_,by rw[a2b,a2b,p.sz],by rw[a2b];exact p.sn,by rw[a3z,a3z,p.df],fun τ h=>?_,fun j oj τ d hj hfl h ho' hs hd=>?_⟩
 . exact(a0K h2).2 (((a0K h1).1 h).imp (p.sub j) id)
 . obtain⟨_,q1,q2⟩:=pen j h h';exact p.pend j q1 q2
 . rcases(a0K h1).1 h with h|rfl
   . exact(a0K h1).2 (.inl (p.clo j oj hj h e he hb))
   . rw[ho]at hj;obtain rfl:=Option.some.inj hj;exact(a0K h1).2 (.inl (hed e he hb))
 . rcases(a0K h2).1 h with h|rfl
   . exact(a0K h2).2 (.inl (p.cloP j oj hj h e he hb))
   . rw[ho]at hj;obtain rfl:=Option.some.inj hj;exact(a0K h2).2 (.inl (edP e he hb))
 . obtain⟨q0,q1,q2⟩:=pen j h h';have hfl:=p.pend j q1 q2;obtain⟨u,h3,h4⟩:=p.val j oj hj q1 q2;refine⟨u,fun w=>?_,?_⟩
   . rw[execOp_put (ops:=ops) oj (F.sel j oj hj) ap o.dst v (nolook j oj hj q0 hfl q1 q2)];exact h3 w
   . rw[Act.put_comm ap v u fun d hd hd'=>nodst j oj hj q0 hfl d hd' hd,h4]
 . have key:∀ j oj,ops[j]? = some oj->Dof Lp j=true->Dof L j=false->oj.dst≠some τ:=fun j oj hj q1 q2=>by
     have hne:j≠i:=fun e=>by rw[e,hLp]at q1;cases q1
     exact h j oj hj ((a0K h2).2 (.inl q1)) ((a3f h1).2 ⟨q2,hne⟩)
   have:=p.tm τ key;cases hd:o.dst with
   | none=>exact this
   | some d=>rw[a2D,a2D,p.sz,this]
 . rw[a1m _ _ (F.stab i o τ ho h)];exact p.st τ h
 . rcases(a0K h2).1 h with h|rfl
   . have hne:j≠i:=fun e=>by rw[e,hLp]at h;cases h
     rw[a1m _ _ (nodst j oj hj hne hfl d hd)];exact p.mv j oj τ d hj hfl h ho' hs hd
   . rw[hFl]at hfl;cases hfl
theorem Pend.defers {L Lp:Array Bool} {a ap:Act} (p:Pend P ops Fl S n L Lp a ap) (x:Deferred):Pend P ops Fl S n L Lp { a with defers:=x::a.defers } { ap with defers:=x::ap.defers }:=by
 have e:∀ (b:Act),({ b with defers:=x::b.defers }:Act).eval=b.eval:=fun b=>by funext y;cases y<;>rfl
 refine⟨p.s1,p.s2,p.sub,p.pend,p.clo,p.cloP,fun i o hi h h'=>?_,p.tm,p.sz,p.sn,by simp only[p.df],fun τ h=>by rw[e];exact p.st τ h,fun i o τ d hi hfl h ho hs hd=>by rw[e];exact p.mv i o τ d hi hfl h ho hs hd⟩;obtain⟨v,h1,h2⟩:=p.val i o hi h h';refine⟨v,fun w=>by rw[e];exact h1 w,?_⟩;have h3:(ap.put o.dst v).tmps=ap.tmps:=by rw[h2]
 cases hd:o.dst with
 | none=>rfl
 | some d=>rw[hd]at h3;simp only[Act.put]at h3 ⊢;rw[h3]
theorem b2W {o:Oper} {a ap:Act} {K K':Act->World->Prop} {Q:Exit->Act->World->Prop} (hQ:∀ e a w,Q e a w->e = .normal) (h:∀ v w,K' (ap.put o.dst v) w->K (a.put o.dst v) w)
   (hd:∀ x w,K' ({ ap with defers:=x::ap.defers }.put o.dst undef) w->K ({ a with defers:=x::a.defers }.put o.dst undef) w) {r:Result Next} (hh:o.upon P ap K' Q r):o.upon P a K Q r:=by
 cases r with
 | ok n w' =>
   cases n<;>simp only[Oper.upon]at hh ⊢ <;>
     first
       | exact h _ _ hh
       | exact hd _ _ hh
       | exact Calls.mono hh (fun e w'' he=>by cases e<;>first|exact h _ _ he|exact absurd (hQ _ _ _ he) (by simp)|exact he)
       | exact Rows.mono hh (fun _ _ he=>h _ _ he)
 | halt x w'=>cases x<;>simp only[Oper.upon]at hh ⊢<;>first|exact absurd (hQ _ _ _ hh) (by simp)|exact hh
theorem b1f (F:Floats ops ops' Fl X S n) {L:Array Bool} (hl:L.size=ops.size) (h:Region.ready .any ops L=[]):∀ i,i<ops.size->Dof L i=true:=by
 intro i;induction i using Nat.strongRecOn with
 | ind i ih =>
   intro hi;have ho:ops[i]? = some ops[i]:=by simp[hi]
   cases hb:Dof L i with
   | true=>rfl
   | false =>
     have:i∈Region.ready .any ops L:=by
       refine ready_iff.2 ⟨_,ho,?_,fun e he hb=>?_⟩
       . have hb:L.getD i false=false:=hb;simpa[Array.getD_eq_getD_getElem?,show i<L.size by omega]using hb
       . have:=F.early i _ ho e he hb;exact ih e.on this (by omega)
     rw[h]at this;cases this
theorem a7a {ops:Array Oper} {L:Array Bool} (hl:L.size=ops.size) (h:∀ i,i<ops.size->Dof L i=true):Region.ready .any ops L=[]:=by
 rw[List.eq_nil_iff_forall_not_mem];intro i hi;obtain⟨o,ho,h1,_⟩:=ready_iff.1 hi;have hi':=(Array.getElem?_eq_some_iff.1 ho).1;have:=h i hi';have this:L.getD i false=true:=this;simp[Array.getD_eq_getD_getElem?,show i<L.size by omega]at this h1;rw[this]at h1;cases h1
theorem Pend.done (F:Floats ops ops' Fl X S n) {Q:Exit->Act->World->Prop} {w:World} {L Lp:Array Bool} {a ap:Act} (p:Pend P ops Fl S n L Lp a ap) (h:∀ i,i<ops.size->Dof L i=true) {fuel:Nat} (hw:wpAny P .any ops' Q fuel Lp ap w):Q .normal a w:=by
 have hr:Region.ready .any ops' Lp=[]:=a7a (by rw[p.s2,F.size]) fun i hi=>p.sub i (h i (by rw[<-F.size];exact hi));have hq:Q .normal ap w:=by
   cases fuel with
   | zero=>exact hw.2
   | succ n=>exact hw.1 hr
 have e1:ap.tmps=a.tmps:=Array.ext_getElem? fun τ=>p.tm τ fun i o hi _ h2=>by
   rw[h i (Array.getElem?_eq_some_iff.1 hi).1]at h2;cases h2
 have e2:ap=a:=by
   cases ap;cases a;have:=p.df;simp_all
 rw[<-e2];exact hq
theorem b3y {m i:Nat} {L:Array Bool} (hi:i<m) (hs:i<L.size) (h:Dof L i=false):left m (L.setIfInBounds i true)+1≤left m L:=by
 have:left m (L.setIfInBounds i true)<left m L:=by
   unfold left;refine a4f (fun x _ hq=>?_) ⟨i,by simpa using hi,?_,?_⟩
   . simp only[Bool.not_eq_true']at hq ⊢;exact((a3f hs).1 hq).1
   . have h3:L.getD i false=false:=h;rw[h3];rfl
   . have h3:(L.setIfInBounds i true).getD i false=true:=(a0K hs).2 (.inr rfl);rw[h3];rfl
 omega
theorem b0A (F:Floats ops ops' Fl X S n) {Q:Exit->Act->World->Prop} (hQ:∀ e a w,Q e a w->e = .normal):∀ (fuel:Nat) (L Lp:Array Bool) (a ap:Act) (w:World) (fuel':Nat),Pend P ops Fl S n L Lp a ap->left ops.size L≤fuel →
   wpAny P .any ops' Q fuel' Lp ap w->wpAny P .any ops Q fuel L a w:=by
 intro fuel;induction fuel with
 | zero =>
   intro L Lp a ap w fuel' p hf h;have hall:∀ i,i<ops.size->Dof L i=true:=fun i hi=>by
     have h0:left ops.size L=0:=by omega
     unfold left at h0;rw[List.countP_eq_zero]at h0;have:=h0 i (by simpa using hi);simpa[Dof]using this
   exact⟨a7a p.s1 hall,p.done F hall h⟩
 | succ fuel ih =>
   intro L Lp a ap w fuel' p hf h;refine⟨fun hr=>p.done F (b1f F p.s1 hr) h,fun i hi=>?_⟩;obtain⟨o,ho,h1,hed⟩:=ready_iff.1 hi;have his:i<ops.size:=(Array.getElem?_eq_some_iff.1 ho).1;have hiL:i<L.size:=by rw[p.s1];exact his
   have hL:Dof L i=false:=by
     show L.getD i false=false;simpa[Array.getD_eq_getD_getElem?,hiL]using h1
   have hed:∀ e∈o.after,Region.binds .any e=true->Dof L e.on=true:=hed;have hanc:∀ b,Anc ops.toList i b->Dof L b=true:=fun b k=>a6A p.clo k fun o' ho'=>by
     rw[ho]at ho';obtain rfl:=Option.some.inj ho';exact hed
   obtain⟨n2,Lp2,ap2,p2,h2,hsat⟩:=b4d F hQ ops.size (Nat.le_refl _) fuel' Lp ap p h;have hleft:=b3y (m:=ops.size) his hiL hL;have hlook:(∀ f of,Fl f=true->ops[f]? = some of->f≠i->Dof Lp2 f=true->Dof L f=false->∀ d,of.dst=some d->d∉o.looksAt ops):=fun f of hfl hof hne _ hlf d hd hdl=>by
     rw[hanc f ((F.apart f of d hfl hof hd i o ho (Ne.symm hne)).2 hdl)]at hlf;cases hlf
   have hself:Fl i=true->∀ d,o.dst=some d->d∉o.looksAt ops:=fun hfl d hd=>F.self i o d hfl ho hd;have htm:∀ τ∈o.looksAt ops,a.tmps[τ]? = ap2.tmps[τ]? := fun τ hτ=>(p2.tm τ fun f of hof q1 q2 hd=>by
     have hfl:=p2.pend f q1 q2;by_cases hne:f=i
     . subst hne;rw[ho]at hof;obtain rfl:=Option.some.inj hof;exact hself hfl τ hd hτ
     . exact hlook f of hfl hof hne q1 q2 τ hd hτ).symm
   obtain⟨ex,wn⟩:=b2Q F (F.sel i o ho) htm;by_cases hLp:Dof Lp2 i=true
   ·
     have hfl:=p2.pend i hLp hL;obtain⟨hg,d,hd,hdn⟩:=F.gd i o hfl ho;obtain⟨v,hv,hput⟩:=p2.val i o ho hLp hL;have hsz:d<ap2.tmps.size:=by rw[p2.sz];have:=p2.sn;omega
     have pn:Pend P ops Fl S n (L.setIfInBounds i true) Lp2 (a.put o.dst v) ap2:=by
       refine⟨by simp[p2.s1],p2.s2,fun j hj=>?_,fun j hj hj'=>p2.pend j hj ((a3f hiL).1 hj').1,fun j oj hj hj' e he hb=>?_,p2.cloP,fun j oj hj q1 q2=>p2.val j oj hj q1 ((a3f hiL).1 q2).1,fun τ hτ=>?_,by rw[a2b,p2.sz],by rw[a2b];exact p2.sn,by rw[a3z,p2.df],p2.st,p2.mv⟩
       . rcases(a0K hiL).1 hj with hj|rfl
         . exact p2.sub j hj
         . exact hLp
       . rcases(a0K hiL).1 hj' with hj'|rfl
         . exact(a0K hiL).2 (.inl (p2.clo j oj hj hj' e he hb))
         . rw[ho]at hj;obtain rfl:=Option.some.inj hj;exact(a0K hiL).2 (.inl (hed e he hb))
       . rw[hd,a2D];by_cases hdt:d=τ
         . subst hdt;have e1:ap2.tmps[d]? = (ap2.put o.dst v).tmps[d]? := by rw[hput]
           rw[e1,hd,a2D,if_pos rfl,if_pos rfl,p2.sz]
         . rw[if_neg hdt];refine p2.tm τ fun j oj hj q1 q2=>?_;by_cases hne:j=i
           . subst hne;rw[ho]at hj;obtain rfl:=Option.some.inj hj;rw[hd];intro e;exact hdt (Option.some.inj e)
           . exact hτ j oj hj q1 ((a3f hiL).2 ⟨q2,hne⟩)
     unfold wpOp;simp only[ho];rw[if_pos (by unfold Region.wanted;simp[hg])];refine .inl ?_;unfold Oper.wp;rw[ex,hv w];exact ih _ _ _ _ w n2 pn (by omega) h2
   ·
     have hLp:Dof Lp2 i=false:=by simpa using hLp
     have hFl:Fl i=false:=by
       cases hb:Fl i with
       | false=>rfl
       | true =>
         have:=hsat i o his hb ho fun e he hb'=>p2.sub _ (hed e he hb');rw[this]at hLp;cases hLp
     have hX:∀ f,X i f->Dof Lp2 f=true:=by
       intro f;induction f using Nat.strongRecOn with
       | ind f ihf =>
         intro hx;obtain⟨x2,x3,x4⟩:=F.x i f hx;obtain⟨of,hof⟩:=F.fl f x2;refine hsat f of (Array.getElem?_eq_some_iff.1 hof).1 x2 hof fun e he hb=>?_;rcases x4 of hof e he hb with h|h
         . exact ihf e.on (F.early f of hof e he hb) h
         . exact p2.sub _ (hanc _ h)
     obtain⟨af,q1,q2,q3⟩:=F.same i o ho;have hi2:i<Lp2.size:=by rw[p2.s2];exact his
     have hready:i∈Region.ready .any ops' Lp2:=by
       refine ready_iff.2 ⟨_,q1,?_,fun e he hb=>?_⟩
       . have:Lp2.getD i false=false:=hLp;simpa[Array.getD_eq_getD_getElem?,hi2]using this
       . rcases q3 e he hb with h|h
         . exact p2.sub _ (hed e h hb)
         . exact hX _ h
     cases n2 with
     | zero=>rw[h2.1]at hready;cases hready
     | succ n' =>
       have h4:=h2.2 i hready;have next:∀ v w',wpAny P .any ops' Q n' (Lp2.setIfInBounds i true) (ap2.put o.dst v) w'->wpAny P .any ops Q fuel (L.setIfInBounds i true) (a.put o.dst v) w':=fun v w' hw=>ih _ _ _ _ w' n' (p2.both F ho hLp hed hFl v) (by omega) hw;have nextD:∀ x w',wpAny P .any ops' Q n' (Lp2.setIfInBounds i true) ({ ap2 with defers:=x::ap2.defers }.put o.dst undef) w'->wpAny P .any ops Q fuel (L.setIfInBounds i true) ({ a with defers:=x::a.defers }.put o.dst undef) w':=fun x w' hw=>ih _ _ _ _ w' n' ((p2.defers x).both F ho hLp hed hFl undef) (by omega) hw;unfold wpOp at h4 ⊢;simp only[q1,ho]at h4 ⊢;have ew:Region.wanted (⟨o.dst,o.op,o.type,o.pos,af,o.guard⟩:Oper) (yielded ops' ap2.tmps)=Region.wanted o (yielded ops a.tmps):=by
         rw[wn,b0B F];rfl
       rw[ew]at h4;by_cases hw:Region.wanted o (yielded ops a.tmps)=true
       . rw[if_pos hw]at h4 ⊢;rcases h4 with h4|⟨_,h4⟩
         . refine .inl ?_;unfold Oper.wp at h4 ⊢;have e0:execOp ap2.eval (⟨o.dst,o.op,o.type,o.pos,af,o.guard⟩:Oper)=execOp ap2.eval o:=rfl;rw[e0,<-ex]at h4;exact b2W (o:=o) hQ next nextD h4
         . exact absurd h4 (b5A hQ)
       . rw[if_neg hw]at h4 ⊢;exact next _ _ h4
end
end Go.Vm
end
section
namespace Go.Vm
variable {P:Program}
theorem looks_iff {ops:Array Oper} {o:Oper} {τ:Nat}:τ∈o.looksAt ops↔τ∈a0a ops.toList o:=by
 unfold Oper.looksAt a0a;simp only[List.mem_append];refine or_congr Iff.rfl ?_;cases o.guard with
 | none=>exact Iff.rfl
 | some gw =>
   obtain⟨g,want⟩:=gw;have:nth (ops.toList.map some) g none=ops[g]? := by
     rw[a0l,List.getElem?_map];cases h:ops.toList[g]? with
     | none=>rw[Array.getElem?_toList]at h;rw[h];rfl
     | some x=>rw[Array.getElem?_toList]at h;rw[h];rfl
   simp only[this]
theorem a6p {all:List Oper}:∀ (l:List TV) (i τ:Nat),τ∈a1U all i l->(∃ t,l[τ-i]? = some t/\i≤τ/\(asInt t).isSome=true)/\∀ o∈all,o.dst≠some τ:=by
 intro l;induction l with
 | nil=>intro i τ h;cases h
 | cons t l ih =>
   intro i τ h;have rec_:τ∈a1U all (i+1) l->(∃ t',(t::l)[τ-i]? = some t'/\i≤τ/\(asInt t').isSome=true)/\∀ o∈all,o.dst≠some τ:=fun h=>by
     obtain⟨⟨t',h1,h2,h3⟩,h4⟩:=ih _ _ h;refine⟨⟨t',?_,by omega,h3⟩,h4⟩;rw[show τ-i=(τ-(i+1))+1 by omega,List.getElem?_cons_succ];exact h1
   simp only[a1U]at h;split at h
   . rename_i hc;simp only[Bool.and_eq_true]at hc;simp only[List.mem_cons]at h;rcases h with rfl|h
     . refine⟨⟨t,by simp,Nat.le_refl _,hc.1⟩,fun o ho hd=>?_⟩;have:=a0H hc.2 o ho;rw[hd]at this;simp[a5N,Nat.beq_refl]at this
     . exact rec_ h
   . exact rec_ h
theorem b1r {S:List Nat} {os:List (Nat×Oper)} {A:List Nat} {i:Nat}:∀ (l:List (Nat×Oper)) (G:List Nat),(∀ f∈G,f∈a4K S os A i l G)/\∀ f∈a4K S os A i l G,f∈G∨∃ o,(f,o)∈l/\f<i/\a4l S os o=true/\∀ e∈o.after,Region.binds .any e=true->e.on∈a4K S os A i l G∨e.on∈A:=by
 intro l;induction l with
 | nil=>intro G;exact⟨fun f h=>h,fun f h => .inl h⟩
 | cons p l ih =>
   intro G;simp only[a4K];split
   . rename_i hc;simp only[Bool.and_eq_true]at hc;obtain⟨h1,h2⟩:=ih (p.1::G);refine⟨fun f h=>h1 f (by simp[h]),fun f h=>?_⟩;rcases h2 f h with h|⟨o,h3,h4⟩
     . simp only[List.mem_cons]at h;rcases h with rfl|h
       . refine .inr ⟨p.2,by simp,Nat.le_of_ble_eq_true hc.1,hc.2.1,fun e he hb=>?_⟩;have:=a0H hc.2.2 e (by simpa using he);rw[hb]at this;simp only[Bool.or_eq_true]at this;rcases this with h|h
         . exact .inl (h1 _ (by simp[a0Q h]))
         . exact .inr (a0Q h)
       . exact .inl h
     . exact .inr ⟨o,by simp[h3],h4⟩
   . obtain⟨h1,h2⟩:=ih G;refine⟨h1,fun f h=>?_⟩;rcases h2 f h with h|⟨o,h3,h4⟩
     . exact .inl h
     . exact .inr ⟨o,by simp[h3],h4⟩
theorem b4H {α:Type}:∀ (l:List α) (n:Nat),(numb n l).length=l.length:=by
 intro l;induction l with
 | nil=>intro n;rfl
 | cons x l ih=>intro n;simp[numb,ih]
def FlOf (S:List Nat) (all:List Oper) (i:Nat):Bool:=match nth (all.map some) i none with
 | some o=>a4l S (numb 0 all) o
 | none=>false
theorem a8y {S:List Nat} {ops:Array Oper} {i:Nat} {o:Oper} (h:ops[i]? = some o):FlOf S ops.toList i=a4l S (numb 0 ops.toList) o:=by
 unfold FlOf;have:nth (ops.toList.map some) i none=some o:=by rw[a0l,List.getElem?_map,Array.getElem?_toList,h];rfl
 rw[this]
theorem b2Z {S:List Nat} {ops:Array Oper} {i:Nat} (h:FlOf S ops.toList i=true):∃ o,ops[i]? = some o:=by
 unfold FlOf at h;split at h
 . rename_i o ho;exact⟨o,by have:=a8P ho;rwa [Array.getElem?_toList]at this⟩
 . cases h
def XOf (S:List Nat) (all:List Oper) (t i f:Nat):Prop:=∃ o,all[i]? = some o/\f∈b1q S all t i o
theorem a2x {t:Nat} {ops:Array Oper} {ts:List TV} {all':List Oper} (h:a1S t ops.toList ts=some all') :
   Floats ops all'.toArray (FlOf (a1U ops.toList 0 ts) ops.toList) (XOf (a1U ops.toList 0 ts) ops.toList t) (fun τ=>τ∈a1U ops.toList 0 ts) ts.length/\all'.map (·.dst)=ops.toList.map (·.dst):=by
 unfold a1S at h;split at h
 . rename_i hok;obtain rfl:=Option.some.inj h;generalize hS:a1U ops.toList 0 ts=S at *;have hanc:∀ i a,a∈nth (ancT ops.toList []) i []->Anc ops.toList i a:=a2y ops.toList ops.toList [] ⟨[],rfl,rfl⟩ (fun i a ha=>by simp[nth]at ha);have base:∀ i o,ops[i]? = some o->_:=fun i o ho=>a0H hok (i,o) (by have:=a0h ops.toList 0 i o (by rw[Array.getElem?_toList];exact ho);rwa [Nat.zero_add]at this);simp only[Bool.and_eq_true,Bool.not_eq_true']at base;have flt:∀ i o,FlOf S ops.toList i=true->ops[i]? = some o->a4l S (numb 0 ops.toList) o=true:=fun i o h ho=>by rw[<-a8y ho];exact h
   have nb:∀ {a b:Nat},Nat.beq a b=true↔a=b:=fun {a b}=>⟨Nat.eq_of_beq_eq_true,fun h=>by rw[h];exact Nat.beq_refl _⟩;have hO:∀ (l:List Nat) (d:Nat),hasO l (some d)=false->d∉l:=fun l d h hm=>by
     have h:hasN l d=false:=h;rw[hasN_iff.2 hm]at h;cases h
   have pair:∀ f o,FlOf S ops.toList f=true->ops[f]? = some o->∀ i oi,ops[i]? = some oi->i≠f->a5N oi.dst o.dst=false/\(hasO (a0a ops.toList oi) o.dst=false∨hasN (nth (ancT ops.toList []) i []) f=true)/\(hasO (a0a ops.toList o) oi.dst=false∨hasN (nth (ancT ops.toList []) f []) i=true∨hasN (nth (ancT ops.toList []) i []) f=true):=by
     intro f o hf ho i oi hi hne;have h1:=(base f o ho).2.2;rw[flt f o hf ho]at h1;simp only[Bool.and_eq_true]at h1;have h2:=a0H h1.2 (i,oi) (by have:=a0h ops.toList 0 i oi (by rw[Array.getElem?_toList];exact hi);rwa [Nat.zero_add]at this);have hb:Nat.beq i f=false:=by
       cases hb:Nat.beq i f with
       | false=>rfl
       | true=>exact absurd (nb.1 hb) hne
     simp only[hb,Bool.and_eq_true,Bool.or_eq_true,Bool.not_eq_true']at h2;exact h2
   refine⟨⟨?_,fun i o ho=>?_,fun i f hx=>?_,fun i h=>b2Z h,fun i o hf ho=>?_,fun i o hf ho=>?_,fun i o τ ho hs=>?_,fun i o ho e he hb=>?_,fun i o ho cs b=>?_,fun f o d hf ho hd hl=>?_,fun f o d hf ho hd i oi hi hne=>⟨fun hd'=>?_,fun hl=>?_⟩,fun f o hf ho i oi d hi hne hd hl=>?_⟩,?_⟩
   . simp[b4H]
   . have h1:((numb 0 ops.toList).map (a4r S ops.toList t)).toArray[i]? = some (a4r S ops.toList t (i,o)):=by
       rw[List.getElem?_toArray,List.getElem?_map,a4s,Array.getElem?_toList,ho];simp
     refine⟨_,h1,fun e he=>by simp[he],fun e he hb=>?_⟩;simp only[Array.mem_append,List.mem_toArray,List.mem_map]at he;rcases he with he|⟨f,hf,rfl⟩
     . exact .inl he
     . exact .inr ⟨o,by rw[Array.getElem?_toList];exact ho,hf⟩
   . obtain⟨o,ho,hf⟩:=hx;rw[Array.getElem?_toList]at ho;unfold b1q at hf;split at hf
     . cases hf
     . rename_i hc;obtain⟨h1,h2⟩:=b1r (S:=S) (os:=numb 0 ops.toList) (A:=nth (ancT ops.toList []) i []) (i:=i) (numb 0 ops.toList) [];rcases h2 f hf with h|⟨of,h3,h4,h5,h6⟩
       . cases h
       . obtain⟨j,hj,hof⟩:=b0b _ _ _ h3;have hj:f=j:=by simpa using hj
         subst hj;have hof:ops[f]? = some of:=by rw[Array.getElem?_toList]at hof;exact hof
         refine⟨by rw[a8y hof];exact h5,h4,fun o' ho' e he hb=>?_⟩;rw[hof]at ho';obtain rfl:=Option.some.inj ho';rcases h6 e he hb with h|h
         . refine .inl ⟨o,by rw[Array.getElem?_toList];exact ho,?_⟩;unfold b1q;rw[hc];exact h
         . exact .inr (hanc i e.on h)
   . have h1:=(base i o ho).2.2;have h2:=flt i o hf ho;rw[h2]at h1;simp only[Bool.and_eq_true]at h1;unfold a4l at h2;have hg:o.guard=none:=by
       split at h2<;>first|assumption|cases h2
     refine⟨hg,?_⟩;have h3:=h1.1;cases hd:o.dst with
     | none=>rw[hd]at h3;cases h3
     | some d=>rw[hd]at h3;exact⟨d,rfl,Nat.le_of_ble_eq_true h3⟩
   . have h2:=flt i o hf ho;unfold a4l at h2;split at h2
     . exact .inl ⟨_,by assumption⟩
     . exact .inr (.inl ⟨_,_,by assumption⟩)
     . rename_i T x y b _ _ hop;simp only[Bool.and_eq_true]at h2;refine .inr (.inr ⟨T,x,y,b,hop,fun z hz=>?_⟩);have harg:b1B S (numb 0 ops.toList) o z=true:=by rcases hz with rfl|rfl<;>simp[h2]
       unfold b1B at harg;split at harg
       . rename_i d;obtain⟨q,hq,hq2⟩:=a7s harg;simp only[Bool.and_eq_true]at hq2;obtain⟨h3,h4,h5⟩:=hq2;obtain⟨j,hj,hoj⟩:=b0b _ _ _ hq;have hj:q.1=j:=by simpa using hj
         subst hj;have hoj:ops[q.1]? = some q.2:=by rw[Array.getElem?_toList]at hoj;exact hoj
         obtain⟨e,he,he2⟩:=a7s h5;simp only[Bool.and_eq_true]at he2;have hdst:q.2.dst=some d:=by
           cases hd:q.2.dst with
           | none=>rw[hd]at h3;cases h3
           | some d'=>rw[hd]at h3;rw[nb.1 h3]
         cases hm:b3C q.2 with
         | none=>rw[hm]at h4;cases h4
         | some τ =>
           rw[hm]at h4;unfold b3C at hm;split at hm
           . rename_i τ' hg' hop';obtain rfl:=Option.some.inj hm;refine⟨d,q.1,q.2,τ',rfl,hoj,?_,hop',a0Q h4,hdst,e,by simpa using he,he2.1,nb.1 he2.2⟩;rw[a8y hoj];unfold a4l;rw[hg',hdst,hop']
           . cases hm
       . cases harg
     . cases h2
   . have hs:τ∈a1U ops.toList 0 ts:=by rw[hS];exact hs
     exact(a6p ts 0 τ hs).2 o (by have:=Array.mem_of_getElem? ho;simpa using this)
   . have h1:=a0H (base i o ho).2.1 e (by simpa using he);rw[hb]at h1;exact Nat.le_of_ble_eq_true h1
   . intro hop;have h1:=(base i o ho).1;unfold b1C at h1;rw[hop]at h1;cases h1
   . have h1:=(base f o ho).2.2;rw[flt f o hf ho]at h1;simp only[Bool.and_eq_true]at h1;have h2:=a0H h1.2 (f,o) (by have:=a0h ops.toList 0 f o (by rw[Array.getElem?_toList];exact ho);rwa [Nat.zero_add]at this);simp only[Nat.beq_refl,hd,Bool.not_eq_true']at h2;exact hO _ _ h2 (looks_iff.1 hl)
   . have h1:=(pair f o hf ho i oi hi hne).1;rw[hd,hd']at h1;simp[a5N,Nat.beq_refl]at h1
   . rcases(pair f o hf ho i oi hi hne).2.1 with h|h
     . rw[hd]at h;exact absurd (looks_iff.1 hl) (hO _ _ h)
     . exact hanc i f (a0Q h)
   . rcases(pair f o hf ho i oi hi hne).2.2 with h|h|h
     . rw[hd]at h;exact absurd (looks_iff.1 hl) (hO _ _ h)
     . exact .inl (hanc f i (a0Q h))
     . exact .inr (hanc i f (a0Q h))
   . rw[List.map_map];have:∀ (l:List Oper) (n:Nat),(numb n l).map ((·.dst)∘a4r S ops.toList t)=l.map (·.dst):=by
       intro l;induction l with
       | nil=>intro n;rfl
       | cons x l ih=>intro n;simp only[numb,List.map_cons,ih];rfl
     exact this _ _
 . cases h
end Go.Vm
end
