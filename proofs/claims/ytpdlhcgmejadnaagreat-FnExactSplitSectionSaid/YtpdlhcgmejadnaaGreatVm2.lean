/- What a machine on values does is what the program does. -/
import Derived.Great.BuildSlice
import Derived.Laws.AppendOwn
import Derived.Laws.StructEq
import Derived.Test.YtpdlhcgmejadnaaGreatVm1
open List renaming mem_append->za,nodup_append->zb,eq_nil_of_length_eq_zero->zf,nodup_cons->zi,mem_singleton->zj,mem_cons->zk,append_nil->zm,length_append->zt,length_take->zu,map_cons->zw,nil_append->zz,length_cons->zB,length_drop->zC,singleton_append->zD,append_eq_nil_iff->zG,map_nil->zK,size_toArray->zM,take_append_drop->zN,map_toArray->zO,replicate->zS,take_of_length_le->zX,take_left->z0,mem_of_mem_take->z1,getElem?_take->z4,append_assoc->z6,mem_filter->yc,drop_drop->yf,Sublist->yg
open Option.some renaming inj->zc,injEq->zd
open Nat renaming le_refl->ze,mul_le_mul_right->zv,add_mul->zF,add_zero->zH,lt_or_ge->zI,zero_add->zL,le_of_ble_eq_true->zP,lt_of_lt_of_le->zU,beq_refl->zW,eq_of_beq_eq_true->zY,decEq->z7,zero_le->z8,min_eq_left->yd,mul_le_mul->ye
open Prod.mk renaming injEq->zg
open Int renaming eq_ofNat_of_zero_le->zn,toNat_natCast->zx,natCast_mul->yb
open Array renaming toArray_toList->zo,length_toList->zr,getElem?_eq_none->zy,toList_map->zQ,ext'->zR,getD_eq_getD_getElem?->zT,getElem?_eq_getElem->zV,getElem?_toList->zZ,toList_append->z2,size_append->z5
open List.cons renaming injEq->zp,inj->zE
open Bool renaming and_eq_true->zq,false_eq_true->zA,or_eq_true->zJ
open Option renaming toList_some->z3,map_none->ya
open Go.IntKind renaming i64->z9
set_option linter.unusedSimpArgs false
set_option linter.unusedVariables false
section
namespace Go.Vm
variable {P:Program}
theorem repL_S {α:Type} {R:α->List Value->List Nat->List Nat->Prop} {xs:List α} {vs:List Value} {F S:List Nat} (h:RepL R xs vs F S) (hi:∀ x vs F1 S1,R x vs F1 S1->S1=[]):S=[]:=by
 induction xs generalizing vs F S with
 | nil=>exact h.2.2
 | cons x xs ih =>
   obtain⟨v1,v2,F1,F2,S1,S2,rfl,rfl,rfl,h1,h2⟩:=h;rw[hi _ _ _ _ h1,ih h2];rfl
theorem a2l {w:World} (t:Ty):∀ {m:Mode} {x:t.den} {vs:List Value} {F S:List Nat},(noSl t||m.isDeep)=true->Rep w t m x vs F S->S=[]:=by
 induction t with
 | int k=>rintro m x vs F S _ ⟨_,_,h⟩;exact h
 | bool=>rintro m x vs F S _ ⟨_,_,h⟩;exact h
 | any=>rintro m x vs F S _ ⟨_,_,h⟩;exact h
 | pair a b iha ihb =>
   rintro m x vs F S hn ⟨v1,v2,F1,F2,S1,S2,rfl,rfl,rfl,h1,h2⟩;simp only[noSl,zJ,zq]at hn;rw[iha (by simp only[zJ];exact hn.imp (·.1) id) h1,ihb (by simp only[zJ];exact hn.imp (·.2) id) h2];rfl
 | sl t ih =>
   rintro m xs vs F S hn ⟨A,c,rfl,hc,h⟩;have hm:m = .deep:=by cases m<;>simp_all [noSl,Mode.isDeep]
   subst hm;rcases h with⟨_,_,h,_⟩|⟨_,b,arr,e,us,sp,F',_,_,_,_,hr,_⟩|⟨h,_⟩
   . exact h
   . exact repL_S hr fun x vs F1 S1 hx=>ih (by simp[Mode.inn,Mode.isDeep]) hx
   . cases h
theorem a3U {E:Env} {a:Act} {w:World}:∀ (l:List Nat) (σ:St) (G:Nat->RG),Rel P E σ a w G →
   ∃ G',Rel P E (a4F l σ) a w G'/\(∀ q,q∉l->G' q=G q/\rget (a4F l σ).rs q=rget σ.rs q)/\(∀ q b,b∈(G' q).F->b∈(G q).F/\(q∈l->rget σ.rs q≠none->(G q).blk=some b)):=by
 intro l;induction l with
 | nil=>intro σ G h;exact⟨G,h,fun q _=>⟨rfl,rfl⟩,fun q b hb=>⟨hb,fun hq=>by cases hq⟩⟩
 | cons r l ih =>
   intro σ G h;simp only[a4F];cases hx:rget σ.rs r with
   | none =>
     obtain⟨G',h1,h2,h3⟩:=ih σ G h;refine⟨G',h1,fun q hq=>h2 q fun hh=>hq (by simp[hh]),fun q b hb=>⟨(h3 q b hb).1,fun hq hne=>(h3 q b hb).2 ?_ hne⟩⟩;simp only[zk]at hq;rcases hq with rfl|hq
     . exact absurd hx hne
     . exact hq
   | some x =>
     obtain⟨FF,hcs,hm⟩:=h.r.roots r x hx;obtain⟨T,hT,hTs⟩:=a2k hcs;let g:RG:=⟨(G r).vs,(G r).blk,(G r).blk.toList,T⟩;have hgF:∀ b,b∈g.F->(G r).blk=some b/\b∈(G r).F/\b∉FF:=by
       intro b hb;rcases hm with⟨_,hb2,he⟩|⟨_,b',arr,e,hb2,_,_,he⟩
       . simp[g,hb2]at hb
       . simp only[g,hb2,z3,zj]at hb;subst hb;have hnd:=h.r.nodup r;rw[he]at hnd;exact⟨hb2,by rw[he];simp,(zi.1 hnd).1⟩
     have hFF:∀ b∈FF,b∈(G r).F:=by
       intro b hb;rcases hm with⟨_,hb2,he⟩|⟨_,b',arr,e,hb2,_,_,he⟩<;>rw[he]<;>simp[hb]
     have hroot:a0S w ⟨x.mem,x.cs.map Cell.sh⟩ g:=by
       refine⟨[],hT,?_⟩;rcases hm with⟨h1,hb2,he⟩|⟨h1,b',arr,e,hb2,hh,ha,he⟩
       . exact .inl ⟨h1,hb2,by simp[g,hb2]⟩
       . exact .inr ⟨h1,b',arr,e,hb2,hh,ha,by simp[g,hb2]⟩
     have hrel:Rel P E ⟨a0g r false σ.ts,rput σ.rs r ⟨x.mem,x.cs.map Cell.sh⟩⟩ a w (upG G r g):=by
       refine⟨h.defers,?_,a6y h.r r x _ hx g [] [] hroot ?_ (fun c hc => .inl (hgF c hc).2.1) (fun c hc=>?_) (fun c hc hs=>?_) (by simp) (by simp[Fine]) (fun _ _ _ _=>rfl) (Bel.refl _)⟩
       . refine a1q h.temps (by simp[a0l]) fun i t' ht'=>?_;rcases a1F ht' with rfl|⟨ht1,hu1⟩
         . exact .inl rfl
         refine .inr ⟨t',ht1,fun v S A hS hf=>⟨?_,fun b hb q hq=>?_⟩⟩
         . exact a1L r false x ⟨x.mem,x.cs.map Cell.sh⟩ hx (by rw[a0j,if_pos rfl]) (by simp) (by rw[a0y]) (fun _=>by rw[a0y]) (fun q hq=>by rw[a0j,if_neg hq]) (fun q hq _=>a0z _ _ hq) h.r.roots (fun q hq b hb=>rfl) (ze _) t' v S A hu1 hS (fun b hb=>rfl)
         . by_cases hqr:q=r
           . subst hqr;rw[a0y]at hq;exact hf b hb q (hgF b hq).2.1
           . rw[a0z _ _ hqr]at hq;exact hf b hb q hq
       . cases hb2:(G r).blk<;>simp[g,hb2]
       . rcases hTs c hc with h1|h1
         . exact .inr (.inr (.inl (hFF c h1)))
         . exact .inl h1
       . obtain⟨h1,h2,h3⟩:=hgF c hc;rcases hTs c hs with h4|h4
         . exact h3 h4
         . exact(h.r.shr r x hx c h4).1 r h2
     obtain⟨G',h1,h2,h3⟩:=ih _ _ hrel;refine⟨G',h1,fun q hq=>?_,fun q b hb=>?_⟩
     . simp only[zk,not_or]at hq;obtain⟨h4,h5⟩:=h2 q hq.2;rw[h4,h5,a0z _ _ hq.1,a0j,if_neg hq.1];exact⟨rfl,rfl⟩
     . obtain⟨h4,h5⟩:=h3 q b hb;by_cases hqr:q=r
       . subst hqr;rw[a0y]at h4;obtain⟨h6,h7,_⟩:=hgF b h4;exact⟨h7,fun _ _=>h6⟩
       . rw[a0z _ _ hqr]at h4 h5;refine⟨h4,fun hq hne=>h5 ?_ (by rw[a0j,if_neg hqr];exact hne)⟩;simp only[zk]at hq;exact hq.resolve_left hqr
def a0f (F:List Nat):RG:=⟨[],none,F,[]⟩
theorem a3u {E:Env} {σ:St} {a:Act} {w w':World} {G:Nat->RG} (h:Rel P E σ a w G) (q g0:Nat) (hg0:(G g0).F=[]) (hg0n:rget σ.rs g0=none) (hqg:q≠g0) (ts':List TV) (rs':List (Nat×Root)) (gq:RG) (F:List Nat)
   (hsame:∀ b,b<w.heap.size->b∉(G q).F->w'.heap[b]? = w.heap[b]?) (hbase:Bel w w')
   (hrs:∀ p,p≠q->rget rs' p=rget σ.rs p) (hq:rget rs' q=none∨∃ y,rget rs' q=some y/\a0S w' y gq)
   (hgF:∀ b∈gq.F,b∈(G q).F∨w.heap.size≤b) (hgn:gq.F.Nodup) (hF:∀ b∈F,b∈(G q).F∨w.heap.size≤b) (hFn:F.Nodup) (hFd:∀ b∈F,b∉gq.F)
   (hFlt:∀ b∈F,b<w'.heap.size) (hgFlt:∀ b∈gq.F,b<w'.heap.size)
   (hS:∀ b∈gq.S,b∉gq.F/\b∉F/\(b<w.heap.size->b∈(G q).F∨Fine E G [b]))
   (hlen:ts'.length=σ.ts.length)
   (hts:∀ (i:Nat) (t':TV),ts'[i]? = some t'->t' = .dead∨(σ.ts[i]? = some t'/\∀ v S A,TRep P σ.rs G w t' v S A->a0a w w' S->TRep P rs' (upG (upG G q gq) g0 (a0f F)) w' t' v S A)) :
   Rel P E ⟨ts',rs'⟩ a w' (upG (upG G q gq) g0 (a0f F)):=by
 have hG:∀ p,p≠q->p≠g0->upG (upG G q gq) g0 (a0f F) p=G p:=fun p h1 h2=>by rw[a0z _ _ h2,a0z _ _ h1]
 have hGq:upG (upG G q gq) g0 (a0f F) q=gq:=by rw[a0z _ _ hqg,a0y]
 have hGg:upG (upG G q gq) g0 (a0f F) g0=a0f F:=a0y _ _ _;have hback:∀ p b,b∈(upG (upG G q gq) g0 (a0f F) p).F->(∃ p',b∈(G p').F)∨w.heap.size≤b:=by
   intro p b hb;by_cases h1:p=g0
   . subst h1;rw[hGg]at hb;exact(hF b hb).imp (fun h=>⟨q,h⟩) id
   . by_cases h2:p=q
     . subst h2;rw[hGq]at hb;exact(hgF b hb).imp (fun h=>⟨p,h⟩) id
     . rw[hG p h2 h1]at hb;exact .inl ⟨p,hb⟩
 have hfree:∀ b,b<w.heap.size->(∀ p,b∉(G p).F)->∀ p,b∉(upG (upG G q gq) g0 (a0f F) p).F:=by
   intro b hb hno p hp;rcases hback p b hp with⟨p',h1⟩|h1
   . exact hno p' h1
   . omega
 have hkeep:∀ p y,p≠q->rget σ.rs p=some y->a0S w' y (G p):=by
   intro p y hp hy;refine a1c (h.r.roots p y hy) fun b hb=>hsame b (a0N (h.r.roots p y hy) b (by simpa using hb)) fun hbq=>?_;simp only[za]at hb;rcases hb with hb|hb
   . exact hp (h.r.disj p q b hb hbq)
   . exact(h.r.shr p y hy b hb).1 q hbq
 have hpg:∀ p y,rget rs' p=some y->p≠g0:=by
   rintro p y hy rfl;rw[hrs p (Ne.symm hqg),hg0n]at hy;cases hy
 have hw0:E.w0.heap.size≤w.heap.size:=h.r.base.size;refine⟨h.defers,?_,⟨fun p y hy=>?_,fun p b hb=>?_,fun p=>?_,?_,fun p p' b hb hb'=>?_,fun p y hy b hb=>?_,fun p b hb=>?_,fun b h1 h2=>?_,h.r.base.trans hbase⟩⟩
 . refine a1q h.temps hlen fun i t' ht'=>?_;rcases hts i t' ht' with rfl|⟨ht,hh⟩
   . exact .inl rfl
   refine .inr ⟨t',ht,fun v S A hS' hf=>?_⟩;have hlt:=a0o _ _ _ _ hS';exact⟨hh v S A hS' fun b hb=>hsame b (hlt b hb) (hf b hb q),fun b hb=>hfree b (hlt b hb) (hf b hb)⟩
 . have hne:=hpg p y hy;by_cases hpq:p=q
   . subst hpq;rw[hGq];rcases hq with hq|⟨y',hq,hok⟩
     . rw[hq]at hy;cases hy
     . rw[hq]at hy;obtain rfl:=zc hy;exact hok
   . rw[hG p hpq hne];rw[hrs p hpq]at hy;exact hkeep p y hpq hy
 . by_cases h1:p=g0
   . subst h1;rw[hGg]at hb;exact hFlt b hb
   . by_cases h2:p=q
     . subst h2;rw[hGq]at hb;exact hgFlt b hb
     . rw[hG p h2 h1]at hb;exact zU (h.r.lt p b hb) hbase.size
 . by_cases h1:p=g0
   . subst h1;rw[hGg];exact hFn
   . by_cases h2:p=q
     . subst h2;rw[hGq];exact hgn
     . rw[hG p h2 h1];exact h.r.nodup p
 . obtain⟨n,hn⟩:=h.r.fin;refine⟨max n (max (q+1) (g0+1)),fun p hp=>?_⟩;rw[hrs p (by omega),hG p (by omega) (by omega)];exact hn p (by omega)
 ·
   have key:∀ p b,p≠q->p≠g0->b∈(G p).F->∀ p',p'=q∨p'=g0->b∉(upG (upG G q gq) g0 (a0f F) p').F:=by
     rintro p b h1 h2 hb p' hp' hb';have hl:=h.r.lt p b hb;have:b∈(G q).F:=by
       rcases hp' with rfl|rfl
       . rw[hGq]at hb';exact(hgF b hb').resolve_right (by omega)
       . rw[hGg]at hb';exact(hF b hb').resolve_right (by omega)
     exact h1 (h.r.disj p q b hb this)
   by_cases h1:p=q∨p=g0
   . by_cases h2:p'=q∨p'=g0
     . rcases h1 with rfl|rfl<;>rcases h2 with rfl|rfl
       . rfl
       . rw[hGq]at hb;rw[hGg]at hb';exact absurd hb (hFd b hb')
       . rw[hGg]at hb;rw[hGq]at hb';exact absurd hb' (hFd b hb)
       . rfl
     . simp only[not_or]at h2;rw[hG p' h2.1 h2.2]at hb';exact absurd hb (key p' b h2.1 h2.2 hb' p h1)
   . simp only[not_or]at h1;by_cases h2:p'=q∨p'=g0
     . rw[hG p h1.1 h1.2]at hb;exact absurd hb' (key p b h1.1 h1.2 hb p' h2)
     . simp only[not_or]at h2;rw[hG p h1.1 h1.2]at hb;rw[hG p' h2.1 h2.2]at hb';exact h.r.disj p p' b hb hb'
 . have hne:=hpg p y hy;by_cases hpq:p=q
   . subst hpq;rw[hGq]at hb;obtain⟨h1,h2,h3⟩:=hS b hb;by_cases hlt:b<w.heap.size
     . rcases h3 hlt with h4|h4
       . refine⟨fun p' hp'=>?_,fun hl=>?_⟩
         . by_cases hp1:p'=g0
           . subst hp1;rw[hGg]at hp';exact h2 hp'
           . by_cases hp2:p'=p
             . subst hp2;rw[hGq]at hp';exact h1 hp'
             . rw[hG p' hp2 hp1]at hp';exact hp2 (h.r.disj p' p b hp' h4)
         . rcases h.r.own p b h4 with h5|h5
           . omega
           . exact E.ma b h5
       . exact⟨hfree b hlt (h4 b (by simp)).1,(h4 b (by simp)).2⟩
     . refine⟨fun p' hp'=>?_,fun hl=>by omega⟩;by_cases hp1:p'=g0
       . subst hp1;rw[hGg]at hp';exact h2 hp'
       . by_cases hp2:p'=p
         . subst hp2;rw[hGq]at hp';exact h1 hp'
         . rw[hG p' hp2 hp1]at hp';exact hlt (h.r.lt p' b hp')
   . rw[hG p hpq hne]at hb;rw[hrs p hpq]at hy;have:=h.r.shr p y hy b hb;exact⟨hfree b (a0N (h.r.roots p y hy) b (.inr hb)) this.1,this.2⟩
 . rcases hback p b hb with⟨p',h1⟩|h1
   . exact h.r.own p' b h1
   . exact .inl (by omega)
 . have hlt:b<w.heap.size:=by omega
   rw[hsame b hlt fun hbq=>?_]
   . exact h.r.frame b h1 h2
   . rcases h.r.own q b hbq with h3|h3
     . omega
     . exact h2 h3
end Go.Vm
end
section
namespace Go.Vm
variable {P:Program}
mutual
theorem a2p {rs rs':List (Nat×Root)} {G G':Nat->RG} {w:World} (hrs:∀ q x,rget rs q=some x->rget rs' q=some x) (hG:∀ q,rget rs q≠none->G' q=G q) :
   ∀ (t:TV) (v:Value) (S A:List Nat),TRep P rs G w t v S A->TRep P rs' G' w t v S A
 | .dead,_,_,_,h=>h
 | .val agg cs,v,S,A,h=>h
 | .rptr s cs,v,S,A,h=>h
 | .ref q p,v,S,A,h=>by
   obtain⟨rfl,rfl,x,ad,us,hx,hp,hl,rfl⟩:=h;exact⟨rfl,rfl,x,ad,us,hrs q x hx,hp,by rw[hG q (by rw[hx];simp)];exact hl,rfl⟩
 | .view q p n agg,v,S,A,h=>by
   obtain⟨rfl,rfl,x,ad,us,hx,hp,hl,h1,h2⟩:=h;exact⟨rfl,rfl,x,ad,us,hrs q x hx,hp,by rw[hG q (by rw[hx];simp)];exact hl,h1,h2⟩
 | .fn f caps,v,S,A,h=>by
   obtain⟨vs,rfl,h⟩:=h;exact⟨vs,rfl,a4q hrs hG caps vs S A h⟩
 | .fnx s g,v,S,A,h=>h
 | .tup k ts,v,S,A,h=>by
   obtain⟨vs,hv,h⟩:=h;exact⟨vs,hv,a4q hrs hG ts vs S A h⟩
 | .pfn t,v,S,A,h=>by
   obtain⟨ad,u,S0,rfl,hc,hlt,h,rfl⟩:=h;exact⟨ad,u,S0,rfl,hc,hlt,a2p hrs hG t u S0 A h,rfl⟩
theorem a4q {rs rs':List (Nat×Root)} {G G':Nat->RG} {w:World} (hrs:∀ q x,rget rs q=some x->rget rs' q=some x) (hG:∀ q,rget rs q≠none->G' q=G q) :
   ∀ (ts:List TV) (vs:List Value) (S A:List Nat),a1A P rs G w ts vs S A->a1A P rs' G' w ts vs S A
 | [],_,_,_,h=>h
 | t::ts,vs,S,A,h=>by
   obtain⟨v,vs',S1,S2,A1,A2,rfl,rfl,rfl,h1,h2⟩:=h;exact⟨v,vs',S1,S2,A1,A2,rfl,rfl,rfl,a2p hrs hG t v S1 A1 h1,a4q hrs hG ts vs' S2 A2 h2⟩
end
theorem b3g {E:Env} {rs:List (Nat×Root)} {w:World} {G:Nat->RG} (h:RelR E rs w G) (q g0:Nat) (hqg:q≠g0) {gq:RG} {F:List Nat}
   (hgF:∀ b∈gq.F,b∈(G q).F∨w.heap.size≤b) (hF:∀ b∈F,b∈(G q).F∨w.heap.size≤b) {b:Nat} (h1:b∉gq.F) (h2:b∉F) (h3:b<w.heap.size->b∈(G q).F∨Fine E G [b]):Fine E (upG (upG G q gq) g0 (a0f F)) [b]:=by
 have hw0:E.w0.heap.size≤w.heap.size:=h.base.size;intro c hc;simp only[zj]at hc;subst hc;refine⟨fun p' hp'=>?_,fun hl=>?_⟩
 . by_cases hp1:p'=g0
   . subst hp1;rw[a0y]at hp';exact h2 hp'
   . rw[a0z _ _ hp1]at hp';by_cases hp2:p'=q
     . subst hp2;rw[a0y]at hp';exact h1 hp'
     . rw[a0z _ _ hp2]at hp';rcases h3 (h.lt p' c hp')with h4|h4
       . exact hp2 (h.disj p' q c hp' h4)
       . exact(h4 c (by simp)).1 p' hp'
 . rcases h3 (by omega)with h4|h4
   . rcases h.own q c h4 with h5|h5
     . omega
     . exact E.ma c h5
   . exact(h4 c (by simp)).2 hl
theorem b1W {E:Env} {σ:St} {a:Act} {w:World} {G:Nat->RG} (h:Rel P E σ a w G) (g0 id:Nat) (hg0n:rget σ.rs g0=none) (hne:g0≠id) (x:Root) (g:RG) (F':List Nat) (hx:a0S w x g) (hn:g.F.Nodup)
   (hF:∀ b∈g.F,b∈(G g0).F) (hF':∀ b∈F',b∈(G g0).F) (hFn':F'.Nodup) (hd:∀ b∈F',b∉g.F) (hS:∀ b∈g.S,Fine E G [b]):Rel P E (σ.new id x) a w (upG (upG G g0 (a0f F')) id g):=by
 have hback:∀ p b,b∈(upG (upG G g0 (a0f F')) id g p).F->∃ p',b∈(G p').F:=by
   intro p b hb;by_cases h1:p=id
   . subst h1;rw[a0y]at hb;exact⟨g0,hF b hb⟩
   . rw[a0z _ _ h1]at hb;by_cases h2:p=g0
     . subst h2;rw[a0y]at hb;exact⟨p,hF' b hb⟩
     . rw[a0z _ _ h2]at hb;exact⟨p,hb⟩
 have hR:RelR E σ.rs w (upG G g0 (a0f F')):=by
   refine⟨fun p y hy=>?_,fun p b hb=>?_,fun p=>?_,?_,fun p p' b hb hb'=>?_,fun p y hy b hb=>?_,fun p b hb=>?_,h.r.frame,h.r.base⟩
   . have:p≠g0:=by rintro rfl;rw[hg0n]at hy;cases hy
     rw[a0z _ _ this];exact h.r.roots p y hy
   . by_cases h1:p=g0
     . subst h1;rw[a0y]at hb;exact h.r.lt p b (hF' b hb)
     . rw[a0z _ _ h1]at hb;exact h.r.lt p b hb
   . by_cases h1:p=g0
     . subst h1;rw[a0y];exact hFn'
     . rw[a0z _ _ h1];exact h.r.nodup p
   . obtain⟨n,hn'⟩:=h.r.fin;refine⟨max n (g0+1),fun p hp=>?_⟩;rw[a0z _ _ (by omega)];exact hn' p (by omega)
   . have e:∀ p,b∈(upG G g0 (a0f F') p).F->b∈(G p).F:=by
       intro p hb;by_cases h1:p=g0
       . subst h1;rw[a0y]at hb;exact hF' b hb
       . rw[a0z _ _ h1]at hb;exact hb
     exact h.r.disj p p' b (e p hb) (e p' hb')
   . have hp0:p≠g0:=by rintro rfl;rw[hg0n]at hy;cases hy
     rw[a0z _ _ hp0]at hb;refine⟨fun p' hp'=>?_,(h.r.shr p y hy b hb).2⟩;by_cases h1:p'=g0
     . subst h1;rw[a0y]at hp';exact(h.r.shr p y hy b hb).1 p' (hF' b hp')
     . rw[a0z _ _ h1]at hp';exact(h.r.shr p y hy b hb).1 p' hp'
   . by_cases h1:p=g0
     . subst h1;rw[a0y]at hb;exact h.r.own p b (hF' b hb)
     . rw[a0z _ _ h1]at hb;exact h.r.own p b hb
 have hno:∀ b,(∃ q,b∈(G q).F)->¬ Fine E G [b]:=fun b ⟨q,hq⟩ hf=>(hf b (by simp)).1 q hq;refine⟨h.defers,?_,a8f hR (Grew.refl w) id x g hx hn (fun b hb=>⟨fun q hq hbq=>?_,h.r.own g0 b (hF b hb)⟩) (fun q hq b hb hne' hbg=>?_) fun b hb=>⟨fun q hq hbq=>?_,fun hbg=>?_,(hS b hb b (by simp)).2⟩⟩
 . refine a1q h.temps (a1v _ _) fun i t' ht'=>?_;rcases a2q ht' with rfl|⟨ht,hu⟩
   . exact .inl rfl
   refine .inr ⟨t',ht,fun v S A hS' hf=>⟨?_,fun b hb p hp=>?_⟩⟩
   . refine a1k id (fun q hq=>by rw[St.new,a0j,if_neg hq]) (fun q hq hqn=>?_) t' v S A hu hS';have:q≠g0:=by rintro rfl;exact hqn hg0n
     rw[a0z _ _ hq,a0z _ _ this]
   . obtain⟨p',h1⟩:=hback p b hp;exact hf b hb p' h1
 . by_cases h1:q=g0
   . subst h1;rw[a0y]at hbq;exact hd b hbq hb
   . rw[a0z _ _ h1]at hbq;exact h1 (h.r.disj q g0 b hbq (hF b hb))
 . have hq0:q≠g0:=by rintro rfl;exact hne' hg0n
   rw[a0z _ _ hq0]at hb;cases hy:rget σ.rs q with
   | none=>exact hne' hy
   | some y=>exact(h.r.shr q y hy b hb).1 g0 (hF b hbg)
 . by_cases h1:q=g0
   . subst h1;rw[a0y]at hbq;exact hno b ⟨q,hF' b hbq⟩ (hS b hb)
   . rw[a0z _ _ h1]at hbq;exact hno b ⟨q,hbq⟩ (hS b hb)
 . exact hno b ⟨g0,hF b hbg⟩ (hS b hb)
theorem a6z {E:Env} {rs rs':List (Nat×Root)} {w:World} {G:Nat->RG} (h:RelR E rs w G) (hs:∀ q x,rget rs' q=some x->rget rs q=some x):RelR E rs' w G:=by
 refine⟨fun q x hx=>h.roots q x (hs q x hx),h.lt,h.nodup,?_,h.disj,fun q x hx=>h.shr q x (hs q x hx),h.own,h.frame,h.base⟩;obtain⟨n,hn⟩:=h.fin;refine⟨n,fun r hr=>⟨?_,(hn r hr).2⟩⟩;cases hx:rget rs' r with
 | none=>rfl
 | some x=>have:=hs r x hx;rw[(hn r hr).1]at this;cases this
theorem a4W {E:Env} {σ:St} {a:Act} {w:World} {G G':Nat->RG} (h:Rel P E σ a w G) (hs:∀ q,rget σ.rs q≠none->G' q=G q) (hback:∀ p b,b∈(G' p).F->∃ p',b∈(G p').F) (hn:∀ p,(G' p).F.Nodup)
   (hd:∀ p p' b,b∈(G' p).F->b∈(G' p').F->p=p') (hfin:∃ n,∀ r,n≤r->(G' r).F=[]):Rel P E σ a w G':=by
 have hfree:∀ b,(∀ p,b∉(G p).F)->∀ p,b∉(G' p).F:=fun b hb p hp=>by
   obtain⟨p',h1⟩:=hback p b hp;exact hb p' h1
 refine⟨h.defers,a1q h.temps rfl fun i t ht => .inr ⟨t,ht,fun v S A hS hf=>⟨a2p (fun q x hx=>hx) hs t v S A hS,fun b hb=>hfree b (hf b hb)⟩⟩,
   fun q x hx=>?_,fun p b hb=>?_,hn,?_,hd,fun q x hx b hb=>?_,fun p b hb=>?_,h.r.frame,h.r.base⟩
 . rw[hs q (by rw[hx];simp)];exact h.r.roots q x hx
 . obtain⟨p',h1⟩:=hback p b hb;exact h.r.lt p' b h1
 . obtain⟨n,hn1⟩:=h.r.fin;obtain⟨m,hm⟩:=hfin;exact⟨max n m,fun r hr=>⟨(hn1 r (by omega)).1,hm r (by omega)⟩⟩
 . rw[hs q (by rw[hx];simp)]at hb;obtain⟨h1,h2⟩:=h.r.shr q x hx b hb;exact⟨hfree b h1,h2⟩
 . obtain⟨p',h1⟩:=hback p b hb;exact h.r.own p' b h1
theorem a9K {E:Env} {a:Act} {w:World} (g0:Nat):∀ (outs:List (OutK×Ty×Mode)) (d:Outs outs) (id:Nat) (σ:St) (G:Nat->RG) (vs:List Value) (F S:List Nat),Rel P E σ a w G->rget σ.rs g0=none->(G g0).F=F->id+outs.length≤g0->a4N w outs d vs F S->(∀ b∈S,Fine E G [b]) →
   ∃ G' S' A',Rel P E (a1e id outs d σ).1 a w G'/\a1A P (a1e id outs d σ).1.rs G' w (a1e id outs d σ).2 vs S' A'/\Fine2 E G' S' A'/\(∀ q,q<id->G' q=G q/\rget (a1e id outs d σ).1.rs q=rget σ.rs q)/\(∀ q b,b∈(G' q).F->∃ q',b∈(G q').F):=by
 intro outs;induction outs with
 | nil =>
   intro d id σ G vs F S h hg0n hF hid hr hS;obtain⟨rfl,rfl,rfl⟩:=hr;exact⟨G,[],[],h,⟨rfl,rfl,rfl⟩,Fine2.nil _ _,fun q _=>⟨rfl,rfl⟩,fun q b hb=>⟨q,hb⟩⟩
 | cons o outs ih =>
   intro d id σ G vs F S h hg0n hF hid hr hS;obtain⟨v,vs',F1,F2,S1,S2,rfl,rfl,rfl,h1,h2⟩:=hr;obtain⟨kd,t,m⟩:=o;simp only[zB]at hid;have hS1:∀ b∈S1,Fine E G [b]:=fun b hb=>hS b (by simp[hb]);have hS2:∀ b∈S2,Fine E G [b]:=fun b hb=>hS b (by simp[hb]);have hcons:∀ (tv:TV) (σ':St) (G':Nat->RG) (S' A' Sa Aa:List Nat) (ts:List TV),TRep P σ'.rs G' w tv v Sa Aa->a1A P σ'.rs G' w ts vs' S' A'->a1A P σ'.rs G' w (tv::ts) (v::vs') (Sa++S') (Aa++A') :=
     fun tv σ' G' S' A' Sa Aa ts k1 k2=>⟨v,vs',Sa,S',Aa,A',rfl,rfl,rfl,k1,k2⟩
   have happ:∀ (G':Nat->RG) (Sa Aa S' A':List Nat),Fine2 E G' Sa Aa->Fine2 E G' S' A'->Fine2 E G' (Sa++S') (Aa++A'):=by
     intro G' Sa Aa S' A' k1 k2;refine⟨fun b hb=>?_,fun b hb=>?_⟩<;>simp only[za]at hb
     . exact hb.elim (k1.free b) (k2.free b)
     . exact hb.elim (k1.inA b) (k2.inA b)
   have hfine:∀ (G':Nat->RG) (L:List Nat),(∀ q b,b∈(G' q).F->∃ q',b∈(G q').F)->(∀ b∈L,Fine E G [b])->Fine E G' L:=by
     intro G' L hb hL b hbL;exact⟨fun q hq=>let ⟨q',h'⟩:=hb q b hq;(hL b hbL b (by simp)).1 q' h',(hL b hbL b (by simp)).2⟩
   cases kd with
   | fr agg =>
     obtain⟨us,hrep,hsv⟩:=h1;obtain⟨T,hT,hTs⟩:=a9m t hrep;have hnd:=h.r.nodup g0;rw[hF]at hnd;obtain⟨n1,n2,n3⟩:=zb.1 hnd;have hb1:∀ q b,b∈(upG G g0 (a0f F2) q).F->∃ q',b∈(G q').F:=by
       intro q b hb;by_cases e1:q=g0
       . subst e1;rw[a0y]at hb;exact⟨q,by rw[hF];simp only[za];exact .inr hb⟩
       . rw[a0z _ _ e1]at hb;exact⟨q,hb⟩
     have hown:∀ q b,b∈(upG G g0 (a0f F2) q).F->b∈(G q).F:=by
       intro q b hb;by_cases e1:q=g0
       . subst e1;rw[a0y]at hb;rw[hF];simp only[za];exact .inr hb
       . rw[a0z _ _ e1]at hb;exact hb
     have hr1:Rel P E σ a w (upG G g0 (a0f F2)):=by
       refine a4W h (fun q hq=>a0z _ _ (fun e=>hq (e▸hg0n))) hb1 (fun p=>?_) (fun p p' b hb hb'=>h.r.disj p p' b (hown p b hb) (hown p' b hb')) ?_
       . by_cases e1:p=g0
         . subst e1;rw[a0y];exact n2
         . rw[a0z _ _ e1];exact h.r.nodup p
       . obtain⟨n,hn⟩:=h.r.fin;refine⟨max n (g0+1),fun r hr=>?_⟩;rw[a0z _ _ (by omega)];exact(hn r (by omega)).2
     obtain⟨G',Sb,Ab,k1,k2,k3,k4,k5⟩:=ih d.2 (id+1) σ _ vs' F2 S2 hr1 hg0n (by rw[a0y];rfl) (by omega) h2 (fun b hb=>hfine _ _ hb1 (fun c hc=>by simp only[zj]at hc;subst hc;exact hS2 c hb));have hT1:∀ b∈T,Fine E (upG G g0 (a0f F2)) [b]:=by
       intro b hb c hc;simp only[zj]at hc;subst hc;rcases hTs c hb with h4|h4
       . have hcg:c∈(G g0).F:=by rw[hF];simp[h4]
         refine⟨fun q hq=>?_,fun hlt=>?_⟩
         . have:=h.r.disj q g0 c (hown q c hq) hcg;subst this;rw[a0y]at hq;exact n3 c h4 c hq rfl
         . rcases h.r.own g0 c hcg with h5|h5
           . omega
           . exact E.ma c h5
       . have:=hS1 c h4 c (by simp);exact⟨fun q hq=>this.1 q (hown q c hq),this.2⟩
     have hT2:Fine E G' T:=by
       intro b hb;refine⟨fun q hq=>?_,(hT1 b hb b (by simp)).2⟩;obtain⟨q',hq'⟩:=k5 q b hq;exact(hT1 b hb b (by simp)).1 q' hq'
     refine⟨G',_,_,k1,hcons (.val agg (enc .sh t d.1)) _ _ _ _ T T _ ⟨rfl,us,(a0n _ _ _ _ _ _ _).1 hT,hsv⟩ k2,happ _ _ _ _ _ hT2.two k3,fun q hq=>?_,fun q b hb=>?_⟩
     . obtain⟨e3,e4⟩:=k4 q (by omega);rw[e3,a0z _ _ (by omega)];exact⟨rfl,e4⟩
     . obtain⟨q',hq'⟩:=k5 q b hb;exact hb1 q' b hq'
   | ptr =>
     obtain⟨rfl,ad,us,S',rfl,hc,hlt,hrep,rfl⟩:=h1;obtain⟨G',Sb,Ab,k1,k2,k3,k4,k5⟩:=ih d.2 (id+1) σ G vs' _ S2 h hg0n hF (by omega) h2 hS2;have hf:=(hfine G' _ k5 hS1).two;exact⟨G',_,_,k1,hcons (.rptr true (enc .sh t d.1)) _ _ _ _ (ad.block::S') (ad.block::S') _ ⟨ad,us,S',rfl,hc,hlt,(a0n _ _ _ _ _ _ _).1 hrep,rfl,rfl⟩ k2,happ _ _ _ _ _ hf k3,fun q hq=>k4 q (by omega),k5⟩
   | val agg =>
     obtain⟨us,hrep,hsv⟩:=h1;simp only[a1e];cases hsh:isSh (enc m t d.1)with
     | true =>
       have hre:=(a0n _ _ _ _ _ _ _).1 hrep;have:=a5w (a6Q hsh) hre;subst this;obtain⟨G',Sb,Ab,k1,k2,k3,k4,k5⟩:=ih d.2 (id+1) σ G vs' _ S2 h hg0n hF (by omega) h2 hS2;exact⟨G',_,_,k1,hcons (.val agg (enc m t d.1)) _ _ _ _ S1 S1 _ ⟨rfl,us,hre,hsv⟩ k2,happ _ _ _ _ _ (hfine G' _ k5 hS1).two k3,fun q hq=>k4 q (by omega),k5⟩
     | false =>
       have hre:=(a0n _ _ _ _ _ _ _).1 hrep;have hnd:=h.r.nodup g0;rw[hF]at hnd;obtain⟨n1,n2,n3⟩:=zb.1 hnd;have hne:g0≠id:=by omega
       have ht:=b1W h g0 id hg0n hne ⟨false,enc m t d.1⟩ ⟨us,none,F1,S1⟩ F2 ⟨F1,hre,.inl ⟨rfl,rfl,rfl⟩⟩ n1 (fun b hb=>by rw[hF];simp[hb]) (fun b hb=>by rw[hF];simp[hb]) n2 (fun b hb hb'=>n3 b hb' b hb rfl) hS1;have hback:∀ q b,b∈(upG (upG G g0 (a0f F2)) id ⟨us,none,F1,S1⟩ q).F->∃ q',b∈(G q').F:=by
         intro q b hb;by_cases e1:q=id
         . subst e1;rw[a0y]at hb;exact⟨g0,by rw[hF];simp only[za];exact .inl hb⟩
         . rw[a0z _ _ e1]at hb;by_cases e2:q=g0
           . subst e2;rw[a0y]at hb;exact⟨q,by rw[hF];simp only[za];exact .inr hb⟩
           . rw[a0z _ _ e2]at hb;exact⟨q,hb⟩
       obtain⟨G',Sb,Ab,k1,k2,k3,k4,k5⟩:=ih d.2 (id+1) (σ.new id ⟨false,enc m t d.1⟩) _ vs' F2 S2 ht (by rw[St.new,a0j,if_neg hne];exact hg0n) (by rw[a0z _ _ hne,a0y];rfl) (by omega) h2 (fun b hb=>hfine _ _ hback (fun c hc=>by simp only[zj]at hc;subst hc;exact hS2 c hb));obtain⟨e1,e2⟩:=k4 id (by omega);rw[a0y]at e1;rw[St.new,a0j,if_pos rfl]at e2;refine⟨G',_,_,k1,hcons (.view id (.root 0) t.sz agg) _ _ _ _ [] [] _ ⟨rfl,rfl,_,_,_,e2,z8 _,by rw[e1];exact a2g,by rw[a0s hrep];exact ze _,?_⟩ k2,happ _ _ _ _ _ (Fine2.nil _ _) k3,fun q hq=>?_,fun q b hb=>?_⟩
       . have:us.length=t.sz:=a0s hrep;rw[zX (Nat.le_of_eq this)];exact hsv
       . obtain⟨e3,e4⟩:=k4 q (by omega);rw[e3,e4,a0z _ _ (by omega),a0z _ _ (by omega),St.new,a0j,if_neg (by omega)];exact⟨rfl,rfl⟩
       . obtain⟨q',hq'⟩:=k5 q b hb;exact hback q' b hq'
end Go.Vm
end
section
namespace Go.Vm
variable {P:Program}
theorem b3e {agg:Bool} {us vs:List Value} {v:Value} (h:a0E agg us v) (k:a0E agg vs v):us=vs:=by
 cases agg with
 | true =>
   simp only[a0E,if_true]at h k;rw[h]at k;simpa using k
 | false =>
   simp only[a0E,zA,if_false]at h k;rw[h,k]
def back1 (q:Nat) (p:Path) (t:Ty) (m:Mode) (d:t.den) (σ:St):Option St:=match rget σ.rs q with
 | some x=>match a2m x.cs p (enc m t d++(a0W x.cs p).drop t.sz)with
     | some cs=>some ⟨a0g q false σ.ts,rput σ.rs q ⟨x.mem,cs⟩⟩
     | none=>none
 | none=>none
def back2 (q:Nat) (t:Ty) (m:Mode) (d:t.den) (σ:St):Option St:=match rget σ.rs q with
 | some x=>some ⟨a0g q true σ.ts,rput σ.rs q ⟨x.mem,enc m t d⟩⟩
 | none=>none
inductive WrCase (w:World) (rs:List (Nat×Root)) (G:Nat->RG) (ps:List PS) (vs:List Value):List (Nat×Path)->List Nat->List Nat->Prop
 | none (h1:∀ w' r M' T',a1R w' ps r vs M' T'->M'=[]/\T'=[]) (h2:∀ r σ,a0w ps r [] σ=some σ):WrCase w rs G ps vs [] [] []
 | one (q:Nat) (p:Path) (agg:Bool) (ty:Ty) (m:Mode) (x:ty.den) (v:Value) (M T:List Nat) (ok:WrOK w rs G agg ty m x v q p M T) (hown:a1m ps=true->(noSl ty||m.isDeep)=true)
     (h1:∀ w' r M' T',a1R w' ps r vs M' T'->∃ x',Rep w' ty m x' ok.vs M' T'/\∀ σ,a0w ps r [(q,p)] σ=back1 q p ty m x' σ):WrCase w rs G ps vs [(q,p)] [] M
 | tk (q:Nat) (y:Root) (hy:rget rs q=some y) (h1:∀ w' r M' T',a1R w' ps r vs M' T'->M'=[]/\T'=[]) (h2:∀ r σ,a0w ps r [] σ=some σ):WrCase w rs G ps vs [] [q] (G q).F
 | wp (q b:Nat) (ty:Ty) (m:Mode) (cs:List Cell) (hy:rget rs q=some ⟨true,cs⟩) (hcl:cs.length=ty.sz) (hb:(G q).blk=some b) (hown:a1m ps=true->(noSl ty||m.isDeep)=true)
     (h1:∀ w' r M' T',a1R w' ps r vs M' T'->∃ x',b2g w' ty m x' (.pointer (some ⟨b,0,none⟩)) M' T'/\∀ σ,a0w ps r [(q,.root 0)] σ=back2 q ty m x' σ):WrCase w rs G ps vs [(q,.root 0)] [] (G q).F
theorem WrCase.sub {w:World} {rs:List (Nat×Root)} {G:Nat->RG} {ps:List PS} {vs:List Value} {wr:List (Nat×Path)} {tk:List Nat} {M:List Nat} (h:WrCase w rs G ps vs wr tk M):∀ b∈M,∃ q,b∈(G q).F/\(wr.map (·.1)=[q]/\tk=[]∨wr=[]/\tk=[q]):=by
 intro b hb;cases h with
 | none=>cases hb
 | one q p agg ty m x v M T ok hown h1=>exact⟨q,by rw[ok.hF];simp[hb],.inl ⟨rfl,rfl⟩⟩
 | tk q y hy=>exact⟨q,hb,.inr ⟨rfl,rfl⟩⟩
 | wp q=>exact⟨q,hb,.inl ⟨rfl,rfl⟩⟩
theorem WrCase.nodup {E:Env} {w:World} {rs:List (Nat×Root)} {G:Nat->RG} {ps:List PS} {vs:List Value} {wr:List (Nat×Path)} {tk:List Nat} {M:List Nat} (h:WrCase w rs G ps vs wr tk M) (hr:RelR E rs w G):M.Nodup:=by
 cases h with
 | none=>simp
 | one q p agg ty m x v M T ok hown h1 =>
   have:=hr.nodup q;rw[ok.hF]at this;exact(zb.1 (zb.1 this).2.1).1
 | tk q y hy=>exact hr.nodup q
 | wp q=>exact hr.nodup q
def PS.still:PS->Bool
 | .wr _ _ _=>false
 | .wp _ _=>false
 | _=>true
theorem WrCase.pass {w:World} {rs:List (Nat×Root)} {G:Nat->RG} {ps:List PS} {vs:List Value} {wr:List (Nat×Path)} {tk:List Nat} {M:List Nat} (h:WrCase w rs G ps vs wr tk M) (p:PS) (hp:p.still=true) (v:Value):WrCase w rs G (p::ps) (v::vs) wr tk M:=by
 have hm:∀ w' (r:Muts (p::ps)) M' T',a1R w' (p::ps) r (v::vs) M' T'->∃ r':Muts ps,a1R w' ps r' vs M' T'/\∀ l σ,a0w (p::ps) r l σ=a0w ps r' l σ:=by
   intro w' r M' T' h;cases p with
   | val agg t =>
     obtain⟨v',vs',he,h⟩:=h;obtain⟨-,rfl⟩:=zE he;exact⟨r,h,fun l σ=>by simp only[a0w]⟩
   | rptr t =>
     obtain⟨v',vs',he,h⟩:=h;obtain⟨-,rfl⟩:=zE he;exact⟨r,h,fun l σ=>by simp only[a0w]⟩
   | tk agg t m =>
     obtain⟨v',vs',he,h⟩:=h;obtain⟨-,rfl⟩:=zE he;exact⟨r,h,fun l σ=>by simp only[a0w]⟩
   | fnx s =>
     obtain⟨v',vs',he,h⟩:=h;obtain⟨-,rfl⟩:=zE he;exact⟨r,h,fun l σ=>by simp only[a0w]⟩
   | pfn s =>
     obtain⟨v',vs',he,h⟩:=h;obtain⟨-,rfl⟩:=zE he;exact⟨r,h,fun l σ=>by simp only[a0w]⟩
   | wr agg t m=>cases hp
   | wp t m=>cases hp
 have hb:∀ (r:Muts (p::ps)),∃ r':Muts ps,∀ l σ,a0w (p::ps) r l σ=a0w ps r' l σ:=by
   intro r;cases p with
   | wr agg t m=>cases hp
   | wp t m=>cases hp
   | _=>exact⟨r,fun l σ=>by simp only[a0w]⟩
 have ho:a1m (p::ps)=a1m ps:=by cases p<;>first|rfl|cases hp
 cases h with
 | none h1 h2 =>
   refine .none (fun w' r M' T' h=>?_) fun r σ=>?_
   . obtain⟨r',h',-⟩:=hm w' r M' T' h;exact h1 w' r' M' T' h'
   . obtain⟨r',h'⟩:=hb r;rw[h',h2]
 | one q pp agg ty m x v' M T ok hown h1 =>
   refine .one q pp agg ty m x v' M T ok (fun h=>hown (by rw[<-ho];exact h)) fun w' r M' T' h=>?_;obtain⟨r',h',hbk⟩:=hm w' r M' T' h;obtain⟨x',h2,h3⟩:=h1 w' r' M' T' h';exact⟨x',h2,fun σ=>by rw[hbk,h3]⟩
 | tk q y hy h1 h2 =>
   refine .tk q y hy (fun w' r M' T' h=>?_) fun r σ=>?_
   . obtain⟨r',h',-⟩:=hm w' r M' T' h;exact h1 w' r' M' T' h'
   . obtain⟨r',h'⟩:=hb r;rw[h',h2]
 | wp q b ty m cs hy hcl hbb hown h1 =>
   refine .wp q b ty m cs hy hcl hbb (fun h=>hown (by rw[<-ho];exact h)) fun w' r M' T' h=>?_;obtain⟨r',h',hbk⟩:=hm w' r M' T' h;obtain⟨x',h2,h3⟩:=h1 w' r' M' T' h';exact⟨x',h2,fun σ=>by rw[hbk,h3]⟩
theorem WrCase.none_of {w:World} {rs:List (Nat×Root)} {G:Nat->RG} {ps:List PS} {vs:List Value} {wr:List (Nat×Path)} {tk:List Nat} {M:List Nat} (h:WrCase w rs G ps vs wr tk M) (hw:wr=[]) (ht:tk=[]) :
   M=[]/\(∀ w' r M' T',a1R w' ps r vs M' T'->M'=[]/\T'=[])/\(∀ r σ,a0w ps r [] σ=some σ):=by
 cases h with
 | none h1 h2=>exact⟨rfl,h1,h2⟩
 | one=>cases hw
 | tk=>cases ht
 | wp=>cases hw
theorem a7F {E:Env} {σ:St} {a:Act} {w:World} {G:Nat->RG} {c:Ctx} (h:Rel P E σ a w G) (hc:∀ e∈c.clos,a2t P e):∀ (ps:List PS) (ts:List TV) (vs:List Value) (S A:List Nat),a1A P σ.rs G w ts vs S A->Fine2 E G S A->∀ (d:Ins ps) (ld:Lend),a0O c σ ps ts=some (d,ld)->ld.wr.length+ld.tk.length≤1 →
   ∃ M S' A',a1W P w ps d vs M S' A'/\ArgOK E σ.rs G w ld.rd ld.lent S' A'/\WrCase w σ.rs G ps vs ld.wr ld.tk M:=by
 intro ps;induction ps with
 | nil =>
   intro ts vs S A ht hf d ld hr _;cases ts with
   | nil =>
     simp only[a0O,zd,zg]at hr;obtain⟨-,rfl⟩:=hr;obtain⟨rfl,rfl,rfl⟩:=ht;exact⟨[],[],[],⟨rfl,rfl,rfl,rfl⟩,ArgOK.nil _ _,.none (fun w' r M' T' h=>h) fun r σ=>by simp only[a0w]⟩
   | cons t ts=>simp[a0O]at hr
 | cons p ps ih =>
   intro ts vs S A ht hf d ld hr hle;cases ts with
   | nil=>cases p<;>simp[a0O]at hr
   | cons t ts =>
     obtain⟨v,vs',S1,S2,A1,A2,rfl,rfl,rfl,h1,h2⟩:=ht;have hf1:Fine2 E G S1 A1:=hf.sub (by simp +contextual) (by simp +contextual);have hf2:Fine2 E G S2 A2:=hf.sub (by simp +contextual) (by simp +contextual);cases p with
     | val agg ty =>
       simp only[a0O]at hr;split at hr
       . rename_i y l1 z l2 hy hz;simp only[zd,zg]at hr;obtain⟨rfl,rfl⟩:=hr;obtain⟨T1,g1,k1⟩:=a1g h h1 hf1 hy;obtain⟨M,T2,B2,g2,k2,k3⟩:=ih ts vs' S2 A2 h2 hf2 z l2 hz hle;exact⟨M,T1++T2,T1++B2,⟨v,vs',[],M,T1,T2,T1,B2,rfl,rfl,rfl,rfl,⟨rfl,rfl,g1⟩,g2⟩,k1.app k2,k3.pass _ rfl v⟩
       . cases hr
     | rptr ty =>
       simp only[a0O]at hr;split at hr
       . rename_i y l1 z l2 hy hz;simp only[zd,zg]at hr;obtain⟨rfl,rfl⟩:=hr;obtain⟨T1,B1,g1,k1⟩:=a3E h h1 hf1 hy;obtain⟨M,T2,B2,g2,k2,k3⟩:=ih ts vs' S2 A2 h2 hf2 z l2 hz hle;exact⟨M,T1++T2,B1++B2,⟨v,vs',[],M,T1,T2,B1,B2,rfl,rfl,rfl,rfl,g1,g2⟩,k1.app k2,k3.pass _ rfl v⟩
       . cases hr
     | pfn s=>simp[a0O]at hr
     | fnx s =>
       simp only[a0O]at hr;split at hr
       . rename_i y l1 z l2 hy hz;simp only[zd,zg]at hr;obtain⟨rfl,rfl⟩:=hr;obtain⟨T1,B1,g1,k1⟩:=a9b h s c.clos hc c.clos hc _ _ _ _ h1 hf1 _ _ hy;obtain⟨M,T2,B2,g2,k2,k3⟩:=ih ts vs' S2 A2 h2 hf2 z l2 hz hle;exact⟨M,T1++T2,B1++B2,⟨v,vs',[],M,T1,T2,B1,B2,rfl,rfl,rfl,rfl,⟨rfl,g1⟩,g2⟩,k1.app k2,k3.pass _ rfl v⟩
       . cases hr
     | tk agg ty m =>
       simp only[a0O]at hr;split at hr
       . rename_i y q z l2 hy hz;simp only[zd,zg]at hr;obtain⟨rfl,rfl⟩:=hr;simp only[zB]at hle;have hw0:l2.wr=[]:=zf (by omega);have ht0:l2.tk=[]:=zf (by omega);obtain⟨yr,hyr,g1⟩:=a9d h h1 hy;obtain⟨M,T2,B2,g2,k2,k3⟩:=ih ts vs' S2 A2 h2 hf2 z l2 hz (by rw[hw0,ht0];simp);obtain⟨rfl,n1,n2⟩:=k3.none_of hw0 ht0;have hok:ArgOK E σ.rs G w [] [] (G q).S (G q).S:=ArgOK.fine (h.r.shr q yr hyr).two (fun b hb=>hb) (fun b hb=>a0N (h.r.roots q yr hyr) b (.inr hb)) [] [];refine⟨(G q).F,(G q).S++T2,(G q).S++B2,⟨v,vs',(G q).F,[],(G q).S,T2,(G q).S,B2,rfl,by simp,rfl,rfl,g1,g2⟩,hok.app k2,?_⟩;have e1:Lend.wr ⟨l2.rd,l2.lent,l2.wr,q::l2.tk⟩=[]:=hw0;have e2:Lend.tk ⟨l2.rd,l2.lent,l2.wr,q::l2.tk⟩=[q]:=by simp[ht0]
         rw[e1,e2];refine .tk q yr hyr (fun w' r M' T' hh=>?_) fun r σ=>?_
         . obtain⟨v',vs'',he,hh⟩:=hh;obtain⟨-,rfl⟩:=zE he;exact n1 w' r M' T' hh
         . simp only[a0w];exact n2 r σ
       . cases hr
     | wr agg ty m =>
       simp only[a0O]at hr;split at hr
       . rename_i y q z l2 hy hz;simp only[zd,zg]at hr;obtain⟨rfl,rfl⟩:=hr;simp only[zB]at hle;have hw0:l2.wr=[]:=zf (by omega);have ht0:l2.tk=[]:=zf (by omega);obtain⟨q,p⟩:=q;obtain⟨hmo,M,T,⟨ok⟩⟩:=a9g h h1 hy;obtain⟨M0,T2,B2,g2,k2,k3⟩:=ih ts vs' S2 A2 h2 hf2 z l2 hz (by rw[hw0,ht0];simp);obtain⟨rfl,n1,n2⟩:=k3.none_of hw0 ht0;have hTS:∀ b∈T,b∈(G q).S:=fun b hb=>by rw[ok.hS];simp[hb]
         have hok:ArgOK E σ.rs G w [] [] T T:=ArgOK.fine (a2S (h.r.shr q ok.y ok.hy) hTS).two (fun b hb=>hb) (fun b hb=>a0N (h.r.roots q ok.y ok.hy) b (.inr (hTS b hb))) [] [];refine⟨M,T++T2,T++B2,⟨v,vs',M,[],T,T2,T,B2,rfl,by simp,rfl,rfl,⟨hmo,rfl,ok.vs,ok.rep,ok.shape⟩,g2⟩,hok.app k2,?_⟩;have e1:Lend.wr ⟨l2.rd,l2.lent,(q,p)::l2.wr,l2.tk⟩=[(q,p)]:=by simp[hw0]
         have e2:Lend.tk ⟨l2.rd,l2.lent,(q,p)::l2.wr,l2.tk⟩=[]:=ht0;rw[e1,e2];refine .one q p agg ty m y v M T ok (fun ho=>?_) fun w' r M' T' hh=>?_
         . simp only[a1m,zq]at ho;exact ho.1
         . obtain⟨v',vs'',M1,M2,T1,T2',he,rfl,rfl,⟨us,hre,hsh⟩,hh⟩:=hh;obtain⟨rfl,rfl⟩:=zE he;obtain⟨rfl,rfl⟩:=n1 w' r.2 M2 T2' hh;have:=b3e hsh ok.shape;subst this;refine⟨r.1,by simpa using hre,fun σ=>?_⟩;simp only[a0w,back1];cases hx:rget σ.rs q with
           | none=>rfl
           | some x =>
             simp only[];cases hs:a2m x.cs p (enc m ty r.1++(a0W x.cs p).drop ty.sz)with
             | none=>rfl
             | some cs=>exact n2 r.2 _
       . cases hr
     | wp ty m =>
       simp only[a0O]at hr;split at hr
       . rename_i y q z l2 hy hz;simp only[zd,zg]at hr;obtain⟨rfl,rfl⟩:=hr;simp only[zB]at hle;have hw0:l2.wr=[]:=zf (by omega);have ht0:l2.tk=[]:=zf (by omega);obtain⟨cs,hcs,hcl,⟨b,hb,rfl⟩,g1⟩:=a5c h h1 hy;obtain⟨M,T2,B2,g2,k2,k3⟩:=ih ts vs' S2 A2 h2 hf2 z l2 hz (by rw[hw0,ht0];simp);obtain⟨rfl,n1,n2⟩:=k3.none_of hw0 ht0;have hok:ArgOK E σ.rs G w [] [] (G q).S (G q).S:=ArgOK.fine (h.r.shr q _ hcs).two (fun b hb=>hb) (fun b hb=>a0N (h.r.roots q _ hcs) b (.inr hb)) [] [];refine⟨(G q).F,(G q).S++T2,(G q).S++B2,⟨_,vs',(G q).F,[],(G q).S,T2,(G q).S,B2,rfl,by simp,rfl,rfl,g1,g2⟩,hok.app k2,?_⟩;have e1:Lend.wr ⟨l2.rd,l2.lent,(q,.root 0)::l2.wr,l2.tk⟩=[(q,.root 0)]:=by simp[hw0]
         have e2:Lend.tk ⟨l2.rd,l2.lent,(q,.root 0)::l2.wr,l2.tk⟩=[]:=ht0;rw[e1,e2];refine .wp q b ty m cs hcs hcl hb (fun ho=>?_) fun w' r M' T' hh=>?_
         . simp only[a1m,zq]at ho;exact ho.1
         . obtain⟨v',vs'',M1,M2,T1,T2',he,rfl,rfl,hre,hh⟩:=hh;obtain⟨rfl,rfl⟩:=zE he;obtain⟨rfl,rfl⟩:=n1 w' r.2 M2 T2' hh;refine⟨r.1,by simpa using hre,fun σ=>?_⟩;simp only[a0w,back2];cases hx:rget σ.rs q with
           | none=>rfl
           | some x=>exact n2 r.2 _
       . cases hr
end Go.Vm
end
section
namespace Go.Vm
variable {P:Program}
theorem b3O {w:World} {k:OutK} {t:Ty} {m:Mode} {d:t.den} {v:Value} {F S:List Nat} (h:b1B w k t m d v F S):∀ b,b∈F∨b∈S->b<w.heap.size:=by
 cases k with
 | val agg=>obtain⟨us,hr,_⟩:=h;exact a2W _ hr
 | fr agg=>obtain⟨us,hr,_⟩:=h;exact a2W _ hr
 | ptr =>
   obtain⟨rfl,ad,us,S',rfl,hc,hlt,hr,rfl⟩:=h;intro b hb;simp only[List.not_mem_nil,zk,false_or]at hb;rcases hb with rfl|hb
   . exact hlt
   . exact a2W _ hr b (.inr hb)
theorem b2G {w:World}:∀ (l:List (OutK×Ty×Mode)) (d:Outs l) (vs:List Value) (F S:List Nat),a4N w l d vs F S->∀ b,b∈F∨b∈S->b<w.heap.size:=by
 intro l;induction l with
 | nil=>rintro d vs F S ⟨_,rfl,rfl⟩;simp
 | cons p l ih =>
   rintro d vs F S ⟨v,vs',F1,F2,S1,S2,rfl,rfl,rfl,h1,h2⟩ b hb;have k1:=b3O h1 b;have k2:=ih _ _ _ _ h2 b;simp only[za]at hb
   grind
theorem b0l {w:World}:∀ (l:List (OutK×Ty×Mode)) (d:Outs l) (vs:List Value) (F S:List Nat),a3V l=true->a4N w l d vs F S->S=[]:=by
 intro l;induction l with
 | nil=>rintro d vs F S _ ⟨_,_,h⟩;exact h
 | cons p l ih =>
   rintro d vs F S ho ⟨v,vs',F1,F2,S1,S2,rfl,rfl,rfl,h1,h2⟩;obtain⟨k,t,m⟩:=p;simp only[a3V,zq]at ho;rw[ih _ _ _ _ ho.2 h2];cases k with
   | ptr=>simp at ho
   | fr agg =>
     obtain⟨us,hr,_⟩:=h1;rw[a2l t ho.1 hr];rfl
   | val agg =>
     obtain⟨us,hr,_⟩:=h1;rw[a2l t ho.1 hr];rfl
theorem b3d {cs:List Cell} {p:Path} {new cs':List Cell} (h:a2m cs p new=some cs') (hl:new.length=(a0W cs p).length) (hp:a1S cs p):cs'.length=cs.length:=a2Y h hl hp
theorem a5L {rd:List Nat} {wr:List (Nat×Path)} {tk:List Nat} (h:b1I rd wr tk=true):wr.length+tk.length≤1/\∀ q,(wr.map (·.1)=[q]/\tk=[]∨wr=[]/\tk=[q])->q∉rd:=by
 unfold b1I at h;split at h
 . exact⟨by simp,fun q hq=>by simp at hq⟩
 . rename_i r p;refine⟨by simp,fun q hq=>?_⟩;simp only[zw,zK,zp,and_true,reduceCtorEq,false_and,or_false]at hq;subst hq;exact a3r (by simpa using h)
 . rename_i r;refine⟨by simp,fun q hq=>?_⟩;simp only[zK,reduceCtorEq,false_and,zp,and_true,true_and,false_or]at hq;subst hq;exact a3r (by simpa using h)
 . cases h
theorem a4O {E:Env} {σ:St} {a:Act} {w:World} {G:Nat->RG} (h:Rel P E σ a w G) {ps:List PS} {outs:List (OutK×Ty×Mode)} {vs:List Value} {ld:Lend} {M S A:List Nat} (hok:ArgOK E σ.rs G w ld.rd ld.lent S A) (hw:WrCase w σ.rs G ps vs ld.wr ld.tk M)
   (hl:b1I (ld.rd++ld.lent) ld.wr ld.tk=true) {rid:Nat} {r:Outs outs×Muts ps} {q:St×List TV} (ha:a1w rid ⟨ps,outs⟩ ld r σ=some q) {e:Ending} {w':World} (hp:PostC w ⟨ps,outs⟩ r vs M A e w') :
   ∃ v,e = .returned v/\∃ G' S' A',Rel P E q.1 a w' G'/\TRep P q.1.rs G' w' (a5n q.2) v S' A'/\Fine2 E G' S' A':=by
 obtain⟨us,F,So,M',T',rfl,hout,hmut,hnd,hFM,hST,hsame,hbase⟩:=hp;refine⟨_,rfl,?_⟩;obtain⟨hone,hnot⟩:=a5L hl;simp only[a1w]at ha;split at ha
 . cases ha
 rename_i σ2 hback;obtain rfl:=(zc ha).symm;generalize hwr:ld.wr=wr at *;generalize htk:ld.tk=tk at *;have key:∃ σ1 G1,a0w ps r.2 wr σ1=some σ2/\Rel P E σ1 a w G1/\(∀ p,p∉ld.lent->G1 p=G p/\rget σ1.rs p=rget σ.rs p)/\∀ b∈So++T',b∉F++M'/\(b<w.heap.size->b∈M∨Fine E G1 [b]):=by
   cases ho:(a3V outs&&a1m ps)with
   | true =>
     rw[ho]at hback;simp only[zq]at ho;have e1:=b0l _ _ _ _ _ ho.1 hout;have e2:T'=[]:=by
       cases hw with
       | none h1 h2=>exact(h1 _ _ _ _ hmut).2
       | tk q y hy h1 h2=>exact(h1 _ _ _ _ hmut).2
       | one q p agg ty m x v M T ok hown h1 =>
         obtain⟨x',h2,-⟩:=h1 _ _ _ _ hmut;exact a2l ty (hown ho.2) h2
       | wp q b ty m cs hy hcl hb hown h1 =>
         obtain⟨x',⟨us',b',F',arr,e,_,h2,_⟩,-⟩:=h1 _ _ _ _ hmut;exact a2l ty (hown ho.2) h2
     exact⟨σ,G,hback,h,fun p _=>⟨rfl,rfl⟩,by rw[e1,e2];simp⟩
   | false =>
     rw[ho]at hback;obtain⟨G1,h1,h2,h3⟩:=a3U ld.lent σ G h;refine⟨_,G1,hback,h1,h2,fun b hb=>⟨(hST b hb).1,fun hlt=>?_⟩⟩;rcases(hST b hb).2 hlt with hA|hM
     . right;intro c hc;simp only[zj]at hc;subst hc;refine⟨fun p hp=>?_,(hok.lent c hA).1⟩;obtain⟨h4,h5⟩:=h3 p c hp;obtain⟨h6,h7,h8⟩:=(hok.lent c hA).2 p h4;exact h8 (h5 h6 h7)
     . exact .inl hM
 obtain⟨σ1,G1,hback,h1,hkeep,hSo⟩:=key;have hFlt:∀ b∈F,b<w'.heap.size:=fun b hb=>b2G _ _ _ _ _ hout b (.inl hb);obtain⟨hFn,hMn,hFM2⟩:=zb.1 hnd;obtain⟨n,hn⟩:=h1.r.fin;have fin:∀ (σ3:St) (g0:Nat) (q0:Nat) (gq:RG),a0G tk σ2=σ3->rid+outs.length≤g0->q0≠g0->rget σ3.rs g0=none->Rel P E σ3 a w' (upG (upG G1 q0 gq) g0 (a0f F)) →
     (∀ b∈gq.F,b∈(G1 q0).F∨w.heap.size≤b)->(∀ b∈F,b∈(G1 q0).F∨w.heap.size≤b)->(∀ b∈M,b∈(G1 q0).F)->(∀ b∈So,b∉gq.F)->∃ G' S' A',Rel P E (a1e rid outs r.1 (a0G tk σ2)).1 a w' G'/\TRep P (a1e rid outs r.1 (a0G tk σ2)).1.rs G' w' (a5n (a1e rid outs r.1 (a0G tk σ2)).2) (retV us) S' A'/\Fine2 E G' S' A':=by
   intro σ3 g0 q0 gq h3 hid hq0 hg0 hrel hgF hF hM hSg;subst h3;have hSf:∀ b∈So,Fine E (upG (upG G1 q0 gq) g0 (a0f F)) [b]:=by
     intro b hb;obtain⟨h4,h5⟩:=hSo b (by simp[hb]);exact b3g h1.r q0 g0 hq0 hgF hF (hSg b hb) (fun hbF=>h4 (by simp[hbF])) fun hlt=>(h5 hlt).imp (hM b) id
   obtain⟨G',S',A',k1,k2,k3,-,-⟩:=a9K g0 outs r.1 rid _ _ us F So hrel hg0 (a0y _ _ _▸rfl) hid hout hSf;generalize (a1e rid outs r.1 (a0G tk σ2)).2=ts at *;refine⟨G',S',A',k1,?_,k3⟩
   match ts,us,k2 with
   | [],us,k2 =>
     obtain⟨rfl,rfl,rfl⟩:=k2;exact⟨[],rfl,rfl,rfl,rfl⟩
   | [t],us,k2 =>
     obtain⟨v,vs',S1,S2,A1,A2,rfl,rfl,rfl,k4,⟨rfl,rfl,rfl⟩⟩:=k2;simp only[zm];exact k4
   | t::t'::ts,us,k2 =>
     obtain⟨v,vs',S1,S2,A1,A2,rfl,rfl,rfl,k4,k5⟩:=k2;obtain⟨v2,vs2,S3,S4,A3,A4,rfl,rfl,rfl,k6,k7⟩:=k5;exact⟨_,rfl,v,_,S1,_,A1,_,rfl,rfl,rfl,k4,v2,vs2,S3,S4,A3,A4,rfl,rfl,rfl,k6,k7⟩
 generalize hg0e:max n (rid+outs.length)=g0 at *;have hg0:n≤g0:=by omega
 have hid:rid+outs.length≤g0:=by omega
 obtain⟨hg0n,hg0F⟩:=hn g0 hg0;cases hw with
 | none m1 m2 =>
   obtain⟨rfl,rfl⟩:=m1 _ _ _ _ hmut;rw[m2]at hback;obtain rfl:=zc hback;obtain⟨hqn,hqF⟩:=hn (g0+1) (by omega);have hFnew:∀ b∈F,b∈(G1 (g0+1)).F∨w.heap.size≤b:=fun b hb => .inr ((hFM b (by simp[hb])).resolve_right (by simp));refine fin σ1 g0 (g0+1) noRG rfl hid (by omega) hg0n ?_ (by simp[noRG]) hFnew (by simp) (by simp[noRG]);refine a3u h1 (g0+1) g0 hg0F hg0n (by omega) σ1.ts σ1.rs noRG F (fun b hb _=>hsame b hb (by simp)) hbase (fun _ _=>rfl) (.inl hqn) (by simp[noRG]) (by simp[noRG]) hFnew hFn (by simp[noRG]) hFlt (by simp[noRG]) (by simp[noRG]) rfl fun i t' ht' => .inr ⟨ht',fun v S A hS hs=>?_⟩;have hfr:=a0t h1.r.roots (fun q _ _ b hb=>hsame b (h1.r.lt q b hb) (by simp)) hbase.size t' v S A hS hs;refine a2p (fun q x hx=>hx) (fun q hq=>?_) t' v S A hfr;rw[a0z _ _ (fun e=>hq (by rw[e];exact hg0n)),a0z _ _ (fun e=>hq (by rw[e];exact hqn))]
 | tk q0 y hy m1 m2 =>
   obtain⟨rfl,rfl⟩:=m1 _ _ _ _ hmut;rw[m2]at hback;obtain rfl:=zc hback;have hql:q0∉ld.rd++ld.lent:=hnot q0 (.inr ⟨rfl,rfl⟩);simp only[za,not_or]at hql;obtain⟨e1,e2⟩:=hkeep q0 hql.2;rw[<-e1]at hFM hsame hSo fin;rw[hy]at e2;have hqg:q0≠g0:=by rintro rfl;rw[hg0n]at e2;cases e2
   have hFo:∀ b∈F,b∈(G1 q0).F∨w.heap.size≤b:=fun b hb=>(hFM b (by simp[hb])).symm;refine fin _ g0 q0 noRG rfl hid hqg (by simp only[a0G,St.del,a0D];rw[if_neg (Ne.symm hqg)];exact hg0n) ?_ (by simp[noRG]) hFo (fun b hb=>hb) (by simp[noRG]);refine a3u h1 q0 g0 hg0F hg0n hqg _ _ noRG F (fun b hb h2=>hsame b hb h2) hbase (fun p hp=>by simp only[a0G,St.del,a0D];rw[if_neg hp]) (.inl (by simp[a0G,St.del,a0D])) (by simp[noRG]) (by simp[noRG]) hFo hFn (by simp[noRG]) hFlt (by simp[noRG]) (by simp[noRG]) (a1v _ _) fun i t' ht'=>?_;rcases a2q ht' with rfl|⟨ht1,hu1⟩
   . exact .inl rfl
   refine .inr ⟨ht1,fun v S A hS hs=>?_⟩;have c1:=a1k (rs':=rdel σ1.rs q0) (G':=upG (upG G1 q0 noRG) g0 (a0f F)) q0 (fun p hp=>by rw[a0D,if_neg hp]) (fun p hp hpn=>by
     rw[a0z _ _ (fun e=>hpn (by rw[e];exact hg0n)),a0z _ _ hp]) t' v S A hu1 hS
   refine a0t (rs:=rdel σ1.rs q0) (fun p x hx=>?_) (fun p x hx b hb=>?_) hbase.size t' v S A c1 hs
   . rw[a0D]at hx;by_cases hp:p=q0
     . simp[hp]at hx
     . rw[if_neg hp]at hx;rw[a0z _ _ (fun e=>by rw[e,hg0n]at hx;cases hx),a0z _ _ hp];exact h1.r.roots p x hx
   . rw[a0D]at hx;by_cases hp:p=q0
     . simp[hp]at hx
     . rw[if_neg hp]at hx;rw[a0z _ _ (fun e=>by rw[e,hg0n]at hx;cases hx),a0z _ _ hp]at hb;exact hsame b (h1.r.lt p b hb) fun hbq=>hp (h1.r.disj p q0 b hb hbq)
 | one q0 pp agg ty m x v M T ok hown m1 =>
   obtain⟨x',hrep',hbk⟩:=m1 _ _ _ _ hmut;rw[hbk]at hback;have hql:q0∉ld.rd++ld.lent:=hnot q0 (.inl ⟨rfl,rfl⟩);simp only[za,not_or]at hql;obtain⟨e1,e2⟩:=hkeep q0 hql.2;rw[ok.hy]at e2;simp only[back1,e2]at hback;split at hback
   case h_2=>cases hback
   rename_i cs' hset;obtain rfl:=zc hback;have hqg:q0≠g0:=by rintro rfl;rw[hg0n]at e2;cases e2
   have hGF:(G1 q0).F=ok.F1++(M++ok.F2):=by rw[e1];exact ok.hF
   have hGS:(G1 q0).S=ok.S1++(T++ok.S2):=by rw[e1];exact ok.hS
   have hMq:∀ b∈M,b∈(G1 q0).F:=fun b hb=>by rw[hGF];simp[hb]
   have hlt1:∀ b∈(G1 q0).F,b<w.heap.size:=h1.r.lt q0;have hnd1:=h1.r.nodup q0;have hshr:=h1.r.shr q0 ok.y e2;have hSlt:∀ b∈(G1 q0).S,b<w.heap.size:=fun b hb=>a0N (h1.r.roots q0 ok.y e2) b (.inr hb);rw[hGF]at hnd1;have hrest:∀ b,b∈ok.F1∨b∈ok.F2->b∉M:=by
     intro b hb hM;simp only[zb,za]at hnd1
     grind
   have hsame1:a0a w w' (ok.F1++ok.F2++ok.S1++ok.S2):=by
     intro b hb;simp only[za]at hb;have:(b∈ok.F1∨b∈ok.F2)∨b∈(G1 q0).S:=by rw[hGS];simp only[za];grind
     rcases this with hb|hb
     . exact hsame b (hlt1 b (by rw[hGF];simp only[za];grind)) (hrest b hb)
     . exact hsame b (hSlt b hb) fun hM=>(hshr b hb).1 q0 (hMq b hM)
   have hroot:=ok.back w' M' T' x' cs' hsame1 hrep' hset;rw[<-e1]at hroot;have hnotin:∀ b,b∈F∨b∈M'->b∈M∨w.heap.size≤b:=fun b hb=>(hFM b (by simpa using hb)).symm;have hFo:∀ b∈F,b∈(G1 q0).F∨w.heap.size≤b:=fun b hb=>(hnotin b (.inl hb)).imp (hMq b) id;have hgo:∀ b∈ok.F1++(M'++ok.F2),b∈(G1 q0).F∨w.heap.size≤b:=by
     intro b hb;simp only[za]at hb;rcases hb with hb|hb|hb
     . exact .inl (by rw[hGF];simp[hb])
     . exact(hnotin b (.inr hb)).imp (hMq b) id
     . exact .inl (by rw[hGF];simp[hb])
   have hout1:∀ b,b∈ok.F1∨b∈ok.F2->b∉F/\b∉M':=by
     intro b hb;have hl:b<w.heap.size:=hlt1 b (by rw[hGF];simp only[za];grind);have hm:=hrest b hb;exact⟨fun h=>(hnotin b (.inl h)).elim hm (by omega),fun h=>(hnotin b (.inr h)).elim hm (by omega)⟩
   have hsS:∀ b∈(G1 q0).S,b∉F/\b∉ok.F1++(M'++ok.F2):=by
     intro b hb;have hl:=hSlt b hb;have hf:=(hshr b hb).1 q0;refine⟨fun h=>(hFo b h).elim hf (by omega),fun h=>(hgo b h).elim hf (by omega)⟩
   have hSoT:∀ b∈So++T',b∉ok.F1++(M'++ok.F2):=by
     intro b hb hin;obtain⟨k1,k2⟩:=hSo b hb;simp only[za,not_or]at hin k1;rcases hin with hin|hin|hin
     . rcases k2 (hlt1 b (by rw[hGF];simp[hin]))with k3|k3
       . exact hrest b (.inl hin) k3
       . exact(k3 b (by simp)).1 q0 (by rw[hGF];simp[hin])
     . exact k1.2 hin
     . rcases k2 (hlt1 b (by rw[hGF];simp[hin]))with k3|k3
       . exact hrest b (.inr hin) k3
       . exact(k3 b (by simp)).1 q0 (by rw[hGF];simp[hin])
   refine fin _ g0 q0 ⟨(G1 q0).vs,(G1 q0).blk,ok.F1++(M'++ok.F2),ok.S1++(T'++ok.S2)⟩ rfl hid hqg (by simp only[a0G,a0j];rw[if_neg (Ne.symm hqg)];exact hg0n) ?_ hgo hFo hMq (fun b hb=>hSoT b (by simp[hb]));refine a3u h1 q0 g0 hg0F hg0n hqg _ _ _ F (fun b hb h2=>hsame b hb fun hM=>h2 (hMq b hM)) hbase (fun p hp=>by simp only[a0G,a0j];rw[if_neg hp]) (.inr ⟨⟨ok.y.mem,cs'⟩,by simp[a0G,a0j],hroot⟩) hgo ?_ hFo hFn ?_ hFlt (fun b hb=>a0N hroot b (.inl hb)) (fun b hb=>?_) (a0l _ _ _) fun i t' ht'=>?_
   . simp only[zb,za]at hnd1 ⊢;refine⟨hnd1.1,⟨hMn,hnd1.2.1.2.1,fun c hc d hd e=>?_⟩,fun c hc d hd e=>?_⟩
     . subst e;exact(hout1 c (.inr hd)).2 hc
     . subst e;rcases hd with hd|hd
       . exact(hout1 c (.inl hc)).2 hd
       . exact hnd1.2.2 c hc c (.inr hd) rfl
   . intro b hb hin;simp only[za]at hin;rcases hin with hin|hin|hin
     . exact(hout1 b (.inl hin)).1 hb
     . exact hFM2 b hb b hin rfl
     . exact(hout1 b (.inr hin)).1 hb
   . have:b∈(G1 q0).S∨b∈T':=by rw[hGS];simp only[za]at hb ⊢;grind
     rcases this with hb|hb
     . exact⟨(hsS b hb).2,(hsS b hb).1,fun _ => .inr fun c hc=>by simp only[zj]at hc;subst hc;exact hshr c hb⟩
     . obtain⟨k1,k2⟩:=hSo b (by simp[hb]);exact⟨hSoT b (by simp[hb]),fun h=>k1 (by simp[h]),fun hlt=>(k2 hlt).imp (hMq b) id⟩
   . rcases a1F ht' with rfl|⟨ht1,hu1⟩
     . exact .inl rfl
     refine .inr ⟨ht1,fun v S A hS hs=>?_⟩;have hlen:cs'.length=ok.y.cs.length:=b3d hset (by rw[zt,a2A,zC];have:=ok.len;omega) ok.hp;refine a1L q0 false ok.y ⟨ok.y.mem,cs'⟩ e2 (by simp[a0G,a0j]) (by simp[hlen]) (by rw[a0z _ _ hqg,a0y]) (fun _=>by rw[a0z _ _ hqg,a0y]) (fun p hp=>by simp only[a0G,a0j];rw[if_neg hp]) (fun p hp hpn=>?_) h1.r.roots (fun p hp b hb=>?_) hbase.size t' v S A hu1 hS hs
     . rw[a0z _ _ (fun e=>hpn (by rw[e];exact hg0n)),a0z _ _ hp]
     . exact hsame b (h1.r.lt p b hb) fun hM=>hp (h1.r.disj p q0 b hb (hMq b hM))
 | wp q0 b0 ty m cs hy hcl hb0 hown m1 =>
   obtain⟨x',⟨us',b',F',arr,e',hv,hrep',hheap,harr,hMe⟩,hbk⟩:=m1 _ _ _ _ hmut;obtain rfl:b0=b':=by simpa using hv
   rw[hbk]at hback;have hql:q0∉ld.rd++ld.lent:=hnot q0 (.inl ⟨rfl,rfl⟩);simp only[za,not_or]at hql;obtain⟨e1,e2⟩:=hkeep q0 hql.2;rw[hy]at e2;simp only[back2,e2]at hback;obtain rfl:=zc hback;rw[<-e1]at hFM hsame hSo fin hb0;have hqg:q0≠g0:=by rintro rfl;rw[hg0n]at e2;cases e2
   have hroot:a0S w' ⟨true,enc m ty x'⟩ ⟨us',some b0,M',T'⟩:=⟨F',(a0n w' m ty x' us' F' T').1 hrep',.inr ⟨rfl,b0,arr,e',rfl,hheap,harr,hMe⟩⟩;have hFo:∀ b∈F,b∈(G1 q0).F∨w.heap.size≤b:=fun b hb=>(hFM b (by simp[hb])).symm;have hgo:∀ b∈M',b∈(G1 q0).F∨w.heap.size≤b:=fun b hb=>(hFM b (by simp[hb])).symm;have hSoT:∀ b∈So++T',b∉F/\b∉M':=fun b hb=>by
     have:=(hSo b hb).1;simp only[za,not_or]at this;exact this
   refine fin _ g0 q0 ⟨us',some b0,M',T'⟩ rfl hid hqg (by simp only[a0G,a0j];rw[if_neg (Ne.symm hqg)];exact hg0n) ?_ hgo hFo (fun b hb=>hb) (fun b hb=>(hSoT b (by simp[hb])).2);refine a3u h1 q0 g0 hg0F hg0n hqg _ _ _ F (fun b hb h2=>hsame b hb h2) hbase (fun p hp=>by simp only[a0G,a0j];rw[if_neg hp]) (.inr ⟨⟨true,enc m ty x'⟩,by simp[a0G,a0j],hroot⟩) hgo hMn hFo hFn (fun b hb hin=>hFM2 b hb b hin rfl) hFlt (fun b hb=>a0N hroot b (.inl hb)) (fun b hb=>?_) (a0l _ _ _) fun i t' ht'=>?_
   . exact⟨(hSoT b (by simp[hb])).2,(hSoT b (by simp[hb])).1,fun hlt=>((hSo b (by simp[hb])).2 hlt)⟩
   . rcases a1F ht' with rfl|⟨ht1,hu1⟩
     . exact .inl rfl
     refine .inr ⟨ht1,fun v S A hS hs=>?_⟩;refine a1L q0 true ⟨true,cs⟩ ⟨true,enc m ty x'⟩ e2 (by simp[a0G,a0j]) (by show cs.length≤(enc m ty x').length;rw[a2A];omega) (by rw[a0z _ _ hqg,a0y,hb0]) (fun h=>by cases h) (fun p hp=>by simp only[a0G,a0j];rw[if_neg hp]) (fun p hp hpn=>?_) h1.r.roots (fun p hp b hb=>?_) hbase.size t' v S A hu1 hS hs
     . rw[a0z _ _ (fun e=>hpn (by rw[e];exact hg0n)),a0z _ _ hp]
     . exact hsame b (h1.r.lt p b hb) fun hM=>hp (h1.r.disj p q0 b hb hM)
end Go.Vm
end
section
namespace Go.Vm
variable {P:Program}
theorem b3l {rs:List (Nat×Root)} {G:Nat->RG} {w:World}:∀ (ts:List TV) (vs:List Value) (S A:List Nat) (ts':List TV) (vs':List Value) (S' A':List Nat),a1A P rs G w ts vs S A->a1A P rs G w ts' vs' S' A'->a1A P rs G w (ts++ts') (vs++vs') (S++S') (A++A'):=by
 intro ts;induction ts with
 | nil=>rintro vs S A ts' vs' S' A' ⟨rfl,rfl,rfl⟩ h;exact h
 | cons t ts ih =>
   rintro vs S A ts' vs' S' A' ⟨v,vs1,S1,S2,A1,A2,rfl,rfl,rfl,h1,h2⟩ h;exact⟨v,vs1++vs',S1,S2++S',A1,A2++A',rfl,by simp,by simp,h1,ih _ _ _ _ _ _ _ h2 h⟩
theorem a4p {E:Env} {G:Nat->RG} {S A S' A':List Nat} (h:Fine2 E G S A) (h':Fine2 E G S' A'):Fine2 E G (S++S') (A++A'):=by
 refine⟨fun b hb=>?_,fun b hb=>?_⟩<;>simp only[za]at hb
 . exact hb.elim (h.free b) (h'.free b)
 . exact hb.elim (h.inA b) (h'.inA b)
theorem a6i {E:Env} {σ:St} {a:Act} {w:World} {G:Nat->RG} (h:Rel P E σ a w G):∀ (xs:List Operand),∃ S A,a1A P σ.rs G w (xs.map (a0x σ)) (xs.map a.eval) S A/\Fine2 E G S A:=by
 intro xs;induction xs with
 | nil=>exact⟨[],[],⟨rfl,rfl,rfl⟩,Fine2.nil _ _⟩
 | cons x xs ih =>
   obtain⟨S1,A1,h1,f1⟩:=a0q h x;obtain⟨S2,A2,h2,f2⟩:=ih;exact⟨S1++S2,A1++A2,⟨_,_,S1,S2,A1,A2,rfl,rfl,rfl,h1,h2⟩,a4p f1 f2⟩
theorem a6p {o:Oper} {cl:Call} {f:Operand} {g:FuncId} {caps:Array Value} {a:Act} {w:World} (ho:o.op = .call cl) (hcl:cl.callee = .value f) (hf:a.eval f = .func (.func g) #[] caps) (he:a6j P g) :
   (execOp a.eval o).run P w = .ok (.enter g (cl.args.map a.eval++caps)) w:=by
 obtain⟨fn,h1,h2,h3⟩:=he;have h4:fn.body≠none:=by intro e;rw[e]at h2;cases h2
 have h5 : fn.name ≠ "runtime.NumGoroutine" := by simpa using h3
 simp[execOp,ho,resolve,hcl,hf,Deferred.ofValue,invoke,callFunc,h1,h4,h5]
theorem a6L {E:Env} {R:Type} {o:Oper} {a:Act} {w:World} {k:St->Option R} {r:R} {g:FuncId} {args:Array Value} {q:St×List TV}
   (hrun:(execOp a.eval o).run P w = .ok (.enter g args) w) (hc:Calls P g args w fun e w'=>∃ v,e = .returned v/\∃ G' S' A',Rel P E q.1 a w' G'/\TRep P q.1.rs G' w' (a5n q.2) v S' A'/\Fine2 E G' S' A')
   (hk:k (q.1.put o.dst (a5n q.2))=some r):Good P E o a w k r:=by
 intro Q;unfold Oper.wp;rw[hrun,Oper.upon_enter];refine hc.mono fun e w' h=>?_;obtain⟨v,rfl,G',S',A',h1,h2,h3⟩:=h;exact⟨_,G',a0A h1 o.dst h2 h3,hk⟩
theorem a2o {R:Type} {o:Oper} {k:St->Option R} {x:Option (St×List TV)} {r:R} (h:a7N o k x=some r):∃ q,x=some q/\k (q.1.put o.dst (a5n q.2))=some r:=by
 cases x with
 | none=>cases h
 | some q=>exact⟨q,rfl,h⟩
theorem a5V {E:Env} {R:Type} {o:Oper} {σ:St} {a:Act} {w:World} {G:Nat->RG} {k:St->Option R} {r:R} {c:Ctx} {cl:Call} {f:Operand} {g:FuncId} {caps:List TV} (ho:o.op = .call cl) (hcl:cl.callee = .value f) (hctx:CtxOK P c)
   (h:Rel P E σ a w G) (hf:a0x σ f = .fn g caps):∀ (l:List Callee),(∀ e∈l,a3P P e)->a3K c o g (cl.args.toList.map (a0x σ)++caps) σ k l=some r->Good P E o a w k r:=by
 intro l;induction l with
 | nil=>intro _ hk;cases hk
 | cons e l ih =>
   intro hl hk;have hnext:=ih fun e he=>hl e (by simp[he]);simp only[a3K]at hk;split at hk
   . rename_i hef _;split at hk
     . rename_i d ld hargs;split at hk
       case h_2=>cases hk
       rename_i hlend;obtain⟨S1,A1,hx,hfx⟩:=a0q h f;rw[hf]at hx;obtain⟨cvs,hv,hcv⟩:=hx;obtain⟨S2,A2,hxs,hfs⟩:=a6i h cl.args.toList;obtain⟨hsE,hsound⟩:=hl e (by simp);obtain⟨M,S',A',g1,g2,g3⟩:=a7F h hctx.clos e.s.ps _ _ _ _ (b3l _ _ _ _ _ _ _ _ hxs hcv) (a4p hfs hfx) d ld hargs (a5L hlend).1;rw[hef]at hsE hsound;cases hF:e.F d with
       | none=>rw[hF]at hk;cases hk
       | some rr =>
         rw[hF]at hk;obtain⟨q,hq,hk⟩:=a2o (show a7N o k (a1w (a3L o) e.s ld rr σ)=some r from hk);have hMS:∀ b∈M,b∉S':=by
           intro b hb hbS;obtain⟨p,hp,hcase⟩:=g3.sub b hb;have:=(a5L hlend).2 p hcase;simp only[za,not_or]at this;exact this.1 (g2.read b hbS p hp)
         have hcall:=hsound d rr hF w _ M S' A' g1 (g3.nodup h.r) hMS;refine a6L (q:=q) (a6p ho hcl hv hsE) ?_ hk;have hae:(cl.args.map a.eval++cvs.toArray)=(cl.args.toList.map a.eval++cvs).toArray:=by
           apply zR;simp
         rw[hae];refine hcall.mono fun e' w' hp=>?_;exact a4O h g2 g3 hlend hq hp
     . exact hnext hk
   . exact hnext hk
theorem b0S {E:Env} {R:Type} {o:Oper} {σ:St} {a:Act} {w:World} {G:Nat->RG} {k:St->Option R} {r:R} {cl:Call} {f:Operand} {s:FSig} {g:Vals s.ins->Option (Outs s.outs)} (ho:o.op = .call cl) (hcl:cl.callee = .value f)
   (h:Rel P E σ a w G) (hf:a0x σ f = .fnx s g) (hk:a8C o s g (cl.args.toList.map (a0x σ)) σ k=some r):Good P E o a w k r:=by
 unfold a8C at hk;split at hk
 case h_2=>cases hk
 rename_i d l hargs;obtain⟨S1,A1,hx,hfx⟩:=a0q h f;rw[hf]at hx;have hxlt:=a0o _ _ _ _ hx;obtain⟨f0,caps,hv,hE,hlt,hA,hsound⟩:=hx;obtain⟨S2,A2,hxs,hfs⟩:=a6i h cl.args.toList;obtain⟨S',g1,g2⟩:=a7L h s.ins _ _ _ _ hxs hfs d l hargs;cases hg:g d with
 | none=>rw[hg]at hk;cases hk
 | some rr =>
   rw[hg]at hk;obtain⟨q,hq,hk⟩:=a2o (show a7N o k (a1w (a3L o) ⟨[],s.outs⟩ ⟨l.1,l.2,[],[]⟩ (rr,()) σ)=some r from hk);have hcall:=hsound w (fun b _=>rfl) (ze _) d rr _ S' hg g1;refine a6L (q:=q) (a6p ho hcl hv hE) ?_ hk;have hae:(cl.args.map a.eval++caps)=((cl.args.toList.map a.eval).toArray++caps):=by congr 1;apply zR;simp
   rw[hae];refine hcall.mono fun e' w' hp=>?_;have hok:ArgOK E σ.rs G w l.1 l.2 (S'++S1) (S'++A1):=by
     have k1:=ArgOK.fine (rs:=σ.rs) (w:=w) hfx hA hxlt [] [];simpa using g2.app k1
   refine a4O (ps:=[]) (vs:=[]) (ld:=⟨l.1,l.2,[],[]⟩) (M:=[]) h hok (.none (fun w' r M' T' h=>h) fun r σ=>rfl) rfl hq ?_;obtain⟨vs,F,So,h1,h2,h3,h4,h5,h6,h7⟩:=hp;exact⟨vs,F,So,[],[],h1,h2,⟨rfl,rfl⟩,by simpa using h3,fun b hb => .inl (h4 b (by simpa using hb)),fun b hb=>by
     obtain⟨k1,k2⟩:=h5 b (by simpa using hb);exact⟨by simpa using k1,fun hlt => .inl (k2 hlt)⟩,fun b hb _=>h6 b hb,h7⟩
theorem b3j:∀ {l:List (FuncId×Ty)} {g:FuncId} {t:Ty},b2v l g=some t->(g,t)∈l:=by
 intro l;induction l with
 | nil=>intro g t h;cases h
 | cons p l ih =>
   intro g t h;simp only[b2v]at h;split at h
   . rename_i he _;obtain rfl:=zc h;rw[<-he];simp
   . simp[ih h]
theorem b2j {E:Env} {R:Type} {o:Oper} {σ:St} {a:Act} {w:World} {G:Nat->RG} {k:St->Option R} {r:R} {cl:Call} {f:Operand} {g:FuncId} {caps:List TV} {t:Ty} (ho:o.op = .call cl) (hcl:cl.callee = .value f)
   (h:Rel P E σ a w G) (hf:a0x σ f = .fn g caps) (hc:caps=[]) (hg:b2f P (g,t)) (hk:b4G o t cl.args.toList σ k=some r):Good P E o a w k r:=by
 unfold b4G at hk;split at hk
 case h_2=>cases hk
 rename_i s x hargs;split at hk
 case h_2=>cases hk
 rename_i n hs hx;split at hk
 case isFalse=>cases hk
 rename_i hn;obtain⟨n,rfl⟩:=zn hn.1;obtain⟨S1,A1,hfv,hfx⟩:=a0q h f;rw[hf,hc]at hfv;obtain⟨cvs,hv,rfl,-,-⟩:=hfv;obtain⟨S2,A2,hxv,-⟩:=a0q h x;have ex:=a1y hxv hx;have es:a.eval s = .slice none 0 0:=by
   unfold nilO at hs;split at hs
   . rfl
   . cases hs
 unfold a8C at hk;simp only[a1U,Option.bind_some]at hk;obtain⟨q,hq,hk⟩:=a2o hk;have hcall:=hg.2 w n (by omega);refine a6L (q:=q) (a6p ho hcl hv hg.1) ?_ hk;have hae:(cl.args.map a.eval++(([]:List Value).toArray))=#[.slice none 0 0,.int .i64 n]:=by
   apply zR;simp[hargs,es,ex]
 rw[hae];refine hcall.mono fun e' w' hp=>?_;refine a4O (ps:=[]) (vs:=[]) (ld:=⟨[],[],[],[]⟩) (M:=[]) (S:=[]) (A:=[]) h ?_ (.none (fun w' r M' T' h=>h) fun r σ=>rfl) rfl hq ?_
 . have k1:=ArgOK.fine (rs:=σ.rs) (w:=w) (Fine2.nil E G) (by simp) (by simp) [] [];simpa using k1
 obtain⟨vs,F,So,h1,h2,h3,h4,h5,h6,h7⟩:=hp;exact⟨vs,F,So,[],[],h1,h2,⟨rfl,rfl⟩,by simpa using h3,fun b hb => .inl (h4 b (by simpa using hb)),fun b hb=>by
   obtain⟨k1,k2⟩:=h5 b (by simpa using hb);exact⟨by simpa using k1,fun hlt => .inl (k2 hlt)⟩,fun b hb _=>h6 b hb,h7⟩
theorem b2M {E:Env} {R:Type} {o:Oper} {σ:St} {a:Act} {w:World} {G:Nat->RG} {k:St->Option R} {r:R} {x y z:Operand} (ho:o.op = .pick x y z)
   (h:Rel P E σ a w G) (hk:a7E o x y z σ k=some r):Good P E o a w k r:=by
 unfold a7E at hk;split at hk
 case h_2=>cases hk
 rename_i bv hb;obtain⟨S1,A1,hx,-⟩:=a0q h x;have ex:=a2M hx hb;cases bv with
 | true =>
   obtain⟨S2,A2,hy,hf⟩:=a0q h y;refine a0v (v:=a.eval y) (w':=w) ?_ (a0A h o.dst hy hf) (by simpa using hk);simp[execOp,ho,ex,Go.asBool]
 | false =>
   obtain⟨S2,A2,hy,hf⟩:=a0q h z;refine a0v (v:=a.eval z) (w':=w) ?_ (a0A h o.dst hy hf) (by simpa using hk);simp[execOp,ho,ex,Go.asBool]
theorem a7D {E:Env} {R:Type} {o:Oper} {σ:St} {a:Act} {w:World} {G:Nat->RG} {k:St->Option R} {r:R} {x:Operand} (ho:o.op = .nilCheck x)
   (h:Rel P E σ a w G) (hk:a2I o x σ k=some r):Good P E o a w k r:=by
 obtain⟨S1,A1,hx,hf⟩:=a0q h x;have ptr:∀ ad,a.eval x = .pointer (some ad)->(execOp a.eval o).run P w = .ok (.value (a.eval x)) w:=by
   intro ad hv;simp[execOp,ho,hv]
 have fun_:∀ f caps,a.eval x = .func (.func f) #[] caps->(execOp a.eval o).run P w = .ok (.value (a.eval x)) w:=by
   intro f caps hv;simp[execOp,ho,hv]
 unfold a2I at hk;split at hk
 . rename_i sb cs he;rw[he]at hx;have hx':=hx;obtain⟨ad,vs,A0,hv,-⟩:=hx';exact a0v (ptr ad hv) (a0A h o.dst hx hf) hk
 . rename_i q p he;rw[he]at hx;have hx':=hx;obtain⟨rfl,rfl,y,ad,us,-,-,-,hv⟩:=hx';exact a0v (ptr ad hv) (a0A h o.dst hx hf) hk
 . rename_i f caps he;rw[he]at hx;have hx':=hx;obtain⟨vs,hv,-⟩:=hx';exact a0v (fun_ f _ hv) (a0A h o.dst hx hf) hk
 . rename_i s g he;rw[he]at hx;have hx':=hx;obtain⟨f,caps,hv,-⟩:=hx';exact a0v (fun_ f _ hv) (a0A h o.dst hx hf) hk
 . cases hk
theorem b3n {rs:List (Nat×Root)} {G:Nat->RG} {w:World}:∀ (ts:List TV) (vs:List Value) (S A:List Nat) (i:Nat),a1A P rs G w ts vs S A->∃ S' A',TRep P rs G w (nth ts i .dead) (vs.getD i undef) S' A'/\(∀ b∈S',b∈S)/\(∀ b∈A',b∈A)/\(i<ts.length↔i<vs.length):=by
 intro ts;induction ts with
 | nil =>
   rintro vs S A i ⟨rfl,rfl,rfl⟩;exact⟨[],[],by simp only[nth];exact⟨rfl,rfl⟩,by simp,by simp,by simp⟩
 | cons t ts ih =>
   rintro vs S A i ⟨v,vs1,S1,S2,A1,A2,rfl,rfl,rfl,h1,h2⟩;cases i with
   | zero=>exact⟨S1,A1,h1,by simp +contextual,by simp +contextual,by simp⟩
   | succ i =>
     obtain⟨S',A',k1,k2,k3,k4⟩:=ih vs1 S2 A2 i h2;exact⟨S',A',by simpa[nth]using k1,fun b hb=>by simp[k2 b hb],fun b hb=>by simp[k3 b hb],by simpa using k4⟩
theorem a8J {E:Env} {R:Type} {o:Oper} {σ:St} {a:Act} {w:World} {G:Nat->RG} {k:St->Option R} {r:R} {x:Operand} {i:Nat} (ho:o.op = .extract x i)
   (h:Rel P E σ a w G) (hk:a3y o x i σ k=some r):Good P E o a w k r:=by
 obtain⟨S1,A1,hx,hf⟩:=a0q h x;unfold a3y at hk;split at hk
 case h_2=>cases hk
 rename_i ts he;rw[he]at hx;obtain⟨vs,hv,hts⟩:=hx;simp only[TupR]at hv;split at hk
 case isFalse=>cases hk
 rename_i hlt;obtain⟨S',A',h1,h2,h3,h4⟩:=b3n ts vs _ _ i hts;refine a0v (v:=vs.getD i undef) (w':=w) ?_ (a0A h o.dst h1 (hf.sub h2 h3)) hk;have hvl:=h4.1 hlt;simp[execOp,ho,hv,Instr.extract,hvl]
theorem b3k {E:Env} {R:Type} {o:Oper} {σ:St} {a:Act} {w:World} {G:Nat->RG} {k:St->Option R} {r:R} {c:Ctx} {cl:Call} {x:Operand} {T:TypeId} (ho:o.op = .call cl) (hcl:cl.callee = .builtin .len) (hargs:cl.args.toList=[x]) (hat:cl.argTypes.toList=[T])
   {t:Ty} {e:TypeId} {fs:List (Nat×Nat×Bool)} (hT:c.tab T=some ⟨false,.sl t,e,fs⟩) (ht:TabOK P c.tab)
   (h:Rel P E σ a w G) (hk:lenK o x σ k=some r):Good P E o a w k r:=by
 obtain⟨hu,-⟩:=ht.slice T t e fs hT;have hargs':cl.args=#[x]:=by apply zR;simpa using hargs
 have hat':cl.argTypes=#[T]:=by apply zR;simpa using hat
 have run:∀ A n cc,a.eval x = .slice A n cc->(execOp a.eval o).run P w = .ok (.value (.int .i64 (n:Int))) w:=by
   intro A n cc hv;simp[execOp,ho,resolve,hcl,hargs',hat',hv,invoke,builtin,Builtin.len_,run_underlying hu,goInt]
 obtain⟨S1,A1,hx,hf⟩:=a0q h x;unfold lenK at hk;split at hk
 case h_2=>cases hk
 rename_i n hn;unfold lenOf at hn;split at hn
 . rename_i t0 m xs he;obtain rfl:=zc hn;rw[he]at hx;obtain⟨rfl,vs,hr,hs⟩:=hx;obtain⟨u,us,F1,F2,T1,T2,rfl,hF,rfl,hc,h2⟩:=a0T hr;obtain⟨rfl,-,-⟩:=h2;simp only[a0E,zA,if_false,zp,and_true]at hs;subst hs;obtain⟨A,cc,hv⟩:=a1I hc;exact a0v (run A _ cc hv) (a0A h o.dst (a1E _ _ _ _ _) (Fine2.nil _ _)) hk
 . rename_i q p he;split at hn
   . cases hn
   rename_i root hroot;split at hn
   . rename_i t0 m xs rest hg;obtain rfl:=zc hn;rw[he]at hx;obtain⟨rfl,rfl,y,ad0,us,hy,hp,hl,hn1,hs⟩:=hx;rw[hy]at hroot;obtain rfl:=zc hroot;obtain⟨A,cc,us',rfl,hv,-⟩:=a5T (h.r.roots q y hy) hp hl hn1 hg hs;exact a0v (run A _ cc hv) (a0A h o.dst (a1E _ _ _ _ _) (Fine2.nil _ _)) hk
   . cases hn
 . cases hn
theorem a3N {T:TypeId} (hu:P.underlying T=some .bool) (d:Nat) (a b:Bool) (w:World):(Op.equalIn (d+1) T (.bool a) (.bool b)).run P w = .ok (a==b) w:=by
 simp only[Op.equalIn,Sem.run_bind,run_underlying hu,Result.andThen_ok];rfl
theorem a7M {T:TypeId} (hu:P.underlying T=some .bool) (a b:Bool) (w:World):(Op.equal T (.bool a) (.bool b)).run P w = .ok (a==b) w:=by
 unfold Op.equal;exact a3N hu 9999 a b w
theorem a9D {E:Env} {R:Type} {o:Oper} {σ:St} {a:Act} {w:World} {G:Nat->RG} {k:St->Option R} {r:R} {op:BinOp} {b:Bool}
   (h:Rel P E σ a w G) (hrun:∀ v,(op = .eql/\v = .bool b∨op = .neq/\v = .bool (!b))->(execOp a.eval o).run P w = .ok (.value v) w) (hk:eqB op b (fun t=>k (σ.put o.dst t))=some r):Good P E o a w k r:=by
 unfold eqB at hk;split at hk
 . exact a0v (hrun _ (.inl ⟨rfl,rfl⟩)) (a0A h _ (a2N _ _ _ _) (Fine2.nil _ _)) hk
 . exact a0v (hrun _ (.inr ⟨rfl,rfl⟩)) (a0A h _ (a2N _ _ _ _) (Fine2.nil _ _)) hk
 . cases hk
theorem b4D {E:Env} {R:Type} {o:Oper} {σ:St} {a:Act} {w:World} {G:Nat->RG} {k:St->Option R} {r:R} {c:Ctx} {op:BinOp} {T T':TypeId} {x y:Operand} (ho:o.op = .binOp op T x y T') (hctx:CtxOK P c)
   (h:Rel P E σ a w G) (hk:eqK c op T (a0x σ x) (a0x σ y) (fun t=>k (σ.put o.dst t))=some r):Good P E o a w k r:=by
 obtain⟨S1,A1,hx,-⟩:=a0q h x;obtain⟨S2,A2,hy,-⟩:=a0q h y;unfold eqK at hk;split at hk
 . cases hk
 rename_i i hi;split at hk
 . rename_i hag;split at hk
   case h_2=>cases hk
   rename_i p q ht hp hq;have ex:=a2M hx hp;have ey:=a2M hy hq;have hu:=hctx.tab.bool T i hi ht hag;refine a9D h (fun v hv=>?_) hk;have he:=a7M (P:=P) hu p q w;rcases hv with⟨rfl,rfl⟩|⟨rfl,rfl⟩<;>simp[execOp,ho,ex,ey,Go.binOp,eqGuard,he]
 . rename_i hag;split at hk
   case h_2=>cases hk
   rename_i cs ds hcx hcy;split at hk
   case h_2=>cases hk
   rename_i hhas;simp only[zq]at hhas;split at hk
   case h_2=>cases hk
   rename_i p q hp hq;rw[hcx]at hx;rw[hcy]at hy;obtain⟨rfl,vs,hr1,hs1⟩:=hx;obtain⟨rfl,us,hr2,hs2⟩:=hy;have r1:=a0J hp hr1;have r2:=a0J hq hr2;have e1:=a2l i.t (m := .sh) (by simp[hhas.2]) r1;have e2:=a2l i.t (m := .sh) (by simp[hhas.2]) r2;subst e1 e2;simp only[a0E,if_true]at hs1 hs2;obtain⟨hg,heq⟩:=hctx.eqs T (a0Q hhas.1) i hi hag hhas.2;have hrun:=heq w p q vs us r1 r2;refine a9D h (fun v hv=>?_) hk;rcases hv with⟨rfl,rfl⟩|⟨rfl,rfl⟩<;>simp[execOp,ho,hs1,hs2,run_eqGuard_agg w _ T x y vs.toArray us.toArray hg,run_eql_struct,run_neq_struct,hrun]
end Go.Vm
end
section
namespace Go.Vm
variable {P:Program}
theorem a8g {E:Env} {σ:St} {a:Act} {w:World} {G:Nat->RG} (h:Rel P E σ a w G) (q g0:Nat) (hg0n:rget σ.rs g0=none) (hqg:q≠g0) :
   Rel P E (σ.del q) a w (upG (upG G q noRG) g0 (a0f ((G g0).F++(G q).F))):=by
 have h1:Rel P E (σ.del q) a w G:=by
   refine⟨h.defers,a1q h.temps (a1v _ _) fun i t' ht'=>?_,a6z h.r fun p x hx=>?_⟩
   . rcases a2q ht' with rfl|⟨ht,hu⟩
     . exact .inl rfl
     . exact .inr ⟨t',ht,fun v S A hS hf=>⟨a1k q (fun p hp=>by simp only[St.del];rw[a0D,if_neg hp]) (fun p _ _=>rfl) t' v S A hu hS,hf⟩⟩
   . simp only[St.del]at hx;rw[a0D]at hx;split at hx
     . cases hx
     . exact hx
 have hG:∀ p b,b∈(upG (upG G q noRG) g0 (a0f ((G g0).F++(G q).F)) p).F->(p=g0/\(b∈(G g0).F∨b∈(G q).F))∨(p≠g0/\p≠q/\b∈(G p).F):=by
   intro p b hb;by_cases hp:p=g0
   . subst hp;rw[a0y]at hb;exact .inl ⟨rfl,by simpa[a0f]using hb⟩
   . rw[a0z _ _ hp]at hb;by_cases hp2:p=q
     . subst hp2;rw[a0y]at hb;cases hb
     . rw[a0z _ _ hp2]at hb;exact .inr ⟨hp,hp2,hb⟩
 refine a4W h1 (fun p hp=>?_) (fun p b hb=>?_) (fun p=>?_) (fun p p' b hb hb'=>?_) ?_
 . simp only[St.del,a0D]at hp;by_cases hpq:p=q
   . simp[hpq]at hp
   . rw[if_neg hpq]at hp;rw[a0z _ _ (by rintro rfl;exact hp hg0n),a0z _ _ hpq]
 . rcases hG p b hb with⟨rfl,h2|h2⟩|⟨_,_,h2⟩
   . exact⟨_,h2⟩
   . exact⟨_,h2⟩
   . exact⟨_,h2⟩
 . by_cases hp:p=g0
   . subst hp;rw[a0y];exact zb.2 ⟨h.r.nodup _,h.r.nodup _,fun b hb c hc e=>by subst e;exact hqg (h.r.disj q p b hc hb)⟩
   . rw[a0z _ _ hp];by_cases hp2:p=q
     . subst hp2;rw[a0y];simp[noRG]
     . rw[a0z _ _ hp2];exact h.r.nodup p
 . rcases hG p b hb with⟨rfl,h2⟩|⟨h2,h3,h4⟩<;>rcases hG p' b hb' with⟨rfl,k2⟩|⟨k2,k3,k4⟩
   . rfl
   . exfalso;rcases h2 with h2|h2
     . exact k2 (h.r.disj _ _ b k4 h2)
     . exact k3 (h.r.disj _ _ b k4 h2)
   . exfalso;rcases k2 with k2|k2
     . exact h2 (h.r.disj _ _ b h4 k2)
     . exact h3 (h.r.disj _ _ b h4 k2)
   . exact h.r.disj p p' b h4 k4
 . obtain⟨n,hn⟩:=h.r.fin;refine⟨max n (max (q+1) (g0+1)),fun r hr=>?_⟩;rw[a0z _ _ (by omega),a0z _ _ (by omega)];exact(hn r (by omega)).2
theorem a3b {E:Env} {σ:St} {a:Act} {w w':World} {G:Nat->RG} (h:Rel P E σ a w G) (g0 g1:Nat) (hg0n:rget σ.rs g0=none) (hg1n:rget σ.rs g1=none) (hg1:(G g1).F=[]) (hne:g0≠g1) (F:List Nat)
   (hsame:∀ b,b<w.heap.size->b∉(G g0).F->w'.heap[b]? = w.heap[b]?) (hbase:Bel w w') (hF:∀ b∈F,b∈(G g0).F∨w.heap.size≤b) (hFn:F.Nodup) (hFlt:∀ b∈F,b<w'.heap.size) :
   Rel P E σ a w' (upG (upG G g0 noRG) g1 (a0f F)):=by
 refine a3u h g0 g1 hg1 hg1n hne σ.ts σ.rs noRG F hsame hbase (fun _ _=>rfl) (.inl hg0n) (by simp[noRG]) (by simp[noRG]) hF hFn (by simp[noRG]) hFlt (by simp[noRG]) (by simp[noRG]) rfl fun i t' ht' => .inr ⟨ht',fun v S A hS hs=>?_⟩;have hfr:=a0t h.r.roots (fun q x hq b hb=>hsame b (h.r.lt q b hb) fun hb0=>by
   have:=h.r.disj q g0 b hb hb0;subst this;rw[hg0n]at hq;cases hq) hbase.size t' v S A hS hs
 refine a2p (fun q x hx=>hx) (fun q hq=>?_) t' v S A hfr;rw[a0z _ _ (fun e=>hq (by rw[e];exact hg1n)),a0z _ _ (fun e=>hq (by rw[e];exact hg0n))]
theorem a5e {E:Env} {σ:St} {a:Act} {w:World} {G:Nat->RG} (h:Rel P E σ a w G) (g0 id:Nat) (hg0n:rget σ.rs g0=none) (hne:g0≠id) (x:Root) (g:RG) (hx:a0S w x g) (hn:g.F.Nodup)
   (hF:∀ b∈g.F,b∈(G g0).F) (hS:∀ b∈g.S,Fine E G [b]):Rel P E (σ.new id x) a w (upG (upG G g0 (a0f [])) id g) :=
 b1W h g0 id hg0n hne x g [] hx hn hF (by simp) (by simp) (by simp) hS
theorem a3j {E:Env} {σ:St} {a:Act} {w:World} {G:Nat->RG} (h:Rel P E σ a w G) (n:Nat):∃ g,n≤g/\∀ r,g≤r->rget σ.rs r=none/\(G r).F=[]:=by
 obtain⟨m,hm⟩:=h.r.fin;exact⟨max n m,by omega,fun r hr=>hm r (by omega)⟩
end Go.Vm
end
section
namespace Go.Vm
variable {P:Program}
theorem b0v {w:World} {T ty e:TypeId} {i:TypeInfo} (ht:P.underlying T=some (.slice e)) (hi:P.info? e=some i) {b:Nat} {arr:Array Value} {e0:TypeId} (hb:w.heap[b]? = some (.cells arr e0 (0,0))) {n c:Nat} (hn:n≤c) (A':Option Addr) (c':Nat) :
   (Builtin.append_ #[T,T] ty #[.slice (some ⟨b,0,none⟩) n c,.slice A' 0 c']).run P w = .ok (.slice (some ⟨b,0,none⟩) n c) w:=by
 cases A' with
 | none=>simp[Builtin.append_,run_underlying ht,sizeOf,typeInfo,hi,Builtin.lenOf,Builtin.firstCells,hn,storeCells]
 | some ad =>
   have hf:=run_firstCells_some (P:=P) w i.size 0 ad 0 c' [] (by simp) (by simp);simp[Builtin.append_,run_underlying ht,sizeOf,typeInfo,hi,Builtin.lenOf,hf,hn,storeCells]
theorem b0u {w:World} {T ty e:TypeId} {i:TypeInfo} (ht:P.underlying T=some (.slice e)) (hi:P.info? e=some i) (A':Option Addr) (c':Nat) :
   (Builtin.append_ #[T,T] ty #[.slice none 0 0,.slice A' 0 c']).run P w = .ok (.slice none 0 0) w:=by
 cases A' with
 | none=>simp[Builtin.append_,run_underlying ht,sizeOf,typeInfo,hi,Builtin.lenOf,Builtin.firstCells]
 | some ad =>
   have hf:=run_firstCells_some (P:=P) w i.size 0 ad 0 c' [] (by simp) (by simp);simp[Builtin.append_,run_underlying ht,sizeOf,typeInfo,hi,Builtin.lenOf,hf]
theorem b0y {w:World} {T ty e:TypeId} {i:TypeInfo} (ht:P.underlying T=some (.slice e)) (hi:P.info? e=some i) (A A':Option Addr) (c':Nat) :
   (Builtin.append_ #[T,T] ty #[.slice A 0 0,.slice A' 0 c']).run P w = .ok (.slice A 0 0) w:=by
 cases A with
 | none=>exact b0u ht hi A' c'
 | some a0=>cases A' with
   | none=>simp[Builtin.append_,run_underlying ht,sizeOf,typeInfo,hi,Builtin.lenOf,Builtin.firstCells,storeCells]
   | some ad =>
     have hf:=run_firstCells_some (P:=P) w i.size 0 ad 0 c' [] (by simp) (by simp);simp[Builtin.append_,run_underlying ht,sizeOf,typeInfo,hi,Builtin.lenOf,hf,storeCells]
theorem b0x {w:World} {T ty e:TypeId} {i:TypeInfo} (ht:P.underlying T=some (.slice e)) (hi:P.info? e=some i) {g n c:Nat} {cur:Array Value} {e0:TypeId} (hg:w.heap[g]? = some (.cells cur e0 (0,0)))
   {a:Addr} {m c':Nat} {news:List Value} (hl:news.length=m*i.size) (hnews:∀ j u,news[j]? = some u->w.cell? (a.add j)=some u) (h1:∀ u∈news,u.oneCell'=true) (hroom:n+m≤c) (hfit:n*i.size+news.length≤cur.size) :
   (Builtin.append_ #[T,T] ty #[.slice (some ⟨g,0,none⟩) n c,.slice (some a) m c']).run P w =
     .ok (.slice (some ⟨g,0,none⟩) (n+m) c) (w.setRow g (cur.toList.take (n*i.size)++news++cur.toList.drop (n*i.size+news.length)).toArray):=by
 have hf:=run_firstCells_some (P:=P) w i.size m a m c' news hl hnews;have hst:=run_storeCells_at P g (n*i.size) e0 news 0 cur w hg (by simpa using hfit) h1;simp only[zH]at hst;simp[Builtin.append_,run_underlying ht,sizeOf,typeInfo,hi,Builtin.lenOf,hroom,hf,Addr.add_lit,hst]
theorem a3R (w:World) (b:Nat) (arr:Array Value):Bel w (w.setRow b arr):=⟨rfl,rfl,rfl,by simp,ze _⟩
def Row (w:World) (sz n:Nat) (v:Value) (us:List Value) (hd:List Nat):Prop :=
 (∃ A,v = .slice A 0 0/\n=0/\us=[]/\hd=[])∨∃ b arr e0 sp c,v = .slice (some ⟨b,0,none⟩) n c/\hd=[b]/\w.heap[b]? = some (.cells arr e0 (0,0))/\arr.toList=us++sp/\arr.size=c*sz/\c≤maxLen/\n≤c
theorem a4x {w:World} {t:Ty} {m:Mode} {xs:List t.den} {v:Value} {F S:List Nat} (ho:m.own=true) (h:Rep w (.sl t) m xs [v] F S):∃ us hd Fe,Row w t.sz xs.length v us hd/\F=hd++Fe/\RepL (Rep w t m.inn) xs us Fe S:=by
 obtain⟨A,c,he,hc,h⟩:=h;simp only[zp,and_true]at he;subst he;rcases h with⟨rfl,rfl,rfl,h0⟩|⟨_,b,arr,e,us,sp,F',rfl,hb,harr,hsz,hr,rfl⟩|⟨h,_⟩
 . obtain rfl:=h0 ho;exact⟨[],[],[],.inl ⟨A,rfl,rfl,rfl,rfl⟩,rfl,rfl,rfl,rfl⟩
 . exact⟨us,[b],F',.inr ⟨b,arr,e,sp,c,rfl,rfl,hb,harr,hsz.1,hsz.2,hc⟩,rfl,hr⟩
 . rw[ho]at h;cases h
theorem a2C {w:World} {t:Ty} {m:Mode} {xs:List t.den} {v:Value} {us:List Value} {hd Fe S:List Nat} (ho:m.own=true) (h:Row w t.sz xs.length v us hd) (hr:RepL (Rep w t m.inn) xs us Fe S):Rep w (.sl t) m xs [v] (hd++Fe) S:=by
 rcases h with⟨A,rfl,hn,rfl,rfl⟩|⟨b,arr,e0,sp,c,rfl,rfl,hb,harr,hsz,hcm,hc⟩
 . have:xs=[]:=zf hn;subst this;obtain⟨_,rfl,rfl⟩:=hr;exact⟨A,0,rfl,ze _,.inl ⟨rfl,rfl,rfl,fun _=>rfl⟩⟩
 . exact⟨some ⟨b,0,none⟩,c,rfl,hc,.inr (.inl ⟨ho,b,arr,e0,us,sp,Fe,rfl,hb,harr,⟨hsz,hcm⟩,hr,rfl⟩)⟩
theorem b3a {w:World} {T ty e:TypeId} {i:TypeInfo} {z:Value} {sz:Nat} (ht:P.underlying T=some (.slice e)) (hi:P.info? e=some i) (hz:i.zero=some z) (hsz:i.size=sz) (hzs:z.cells.size=sz) (hpos:0<sz) (hb1:i.bytes≤256)
   {n:Nat} {v:Value} {us:List Value} {hd:List Nat} (hrow:Row w sz n v us hd) (hul:us.length=n*sz) {A':Option Addr} {m c':Nat} {us':List Value} (hl:us'.length=m*sz) (hcells:∀ ad,A'=some ad->∀ j u,us'[j]? = some u->w.cell? (ad.add j)=some u)
   (hne:m≠0->A'≠none) (h1:∀ u∈us',u.oneCell'=true) (hbig:n+m≤bigA) :
   ∃ v' w' hd',(Builtin.append_ #[T,T] ty #[v,.slice A' m c']).run P w = .ok v' w'/\Bel w w'/\(∀ k,k<w.heap.size->k∉hd->w'.heap[k]? = w.heap[k]?)/\Row w' sz (n+m) v' (us++us') hd'/\(∀ g∈hd',g∈hd∨w.heap.size≤g)/\(∀ g∈hd',g<w'.heap.size)/\hd'.Nodup:=by
 subst hsz;have hA:n+m≤549755813888:=hbig;have hbytes:(n+m)*i.bytes≤140737488355328:=by
   calc (n+m)*i.bytes≤549755813888*256:=ye hA hb1
     _=140737488355328:=by decide
 have h63:n+m≤maxLen:=by simp only[maxLen];omega
 by_cases hm:m=0
 . subst hm;have hu':us'=[]:=zf (by simpa using hl);subst hu';rcases hrow with⟨A0,rfl,rfl,rfl,rfl⟩|⟨b,arr,e0,sp,c,rfl,rfl,hb,harr,hs,hcm,hc⟩
   . exact⟨_,w,[],b0y ht hi A0 A' c',Bel.refl _,fun _ _ _=>rfl,.inl ⟨A0,rfl,rfl,rfl,rfl⟩,by simp,by simp,by simp⟩
   . refine⟨_,w,[b],b0v ht hi hb hc A' c',Bel.refl _,fun _ _ _=>rfl,.inr ⟨b,arr,e0,sp,c,rfl,rfl,hb,by simpa using harr,hs,hcm,hc⟩,by simp,fun g hg=>?_,by simp⟩;simp only[zj]at hg;subst hg;rcases zI g w.heap.size with h|h
     . exact h
     . simp[zy h]at hb
 obtain⟨ad,rfl⟩:∃ ad,A'=some ad:=by
   cases A' with
   | none=>exact absurd rfl (hne hm)
   | some ad=>exact⟨ad,rfl⟩
 have hnews:=hcells ad rfl;have grown:∀ old,old<n+m->∀ (X:Array Value),X.toList=us++us' →
     Bel w (w.drew.alloc (.cells (X++Builtin.zeroCells z.cells (grownCap w (n+m) old e-(n+m))) e))/\(∀ k,k<w.heap.size->(w.drew.alloc (.cells (X++Builtin.zeroCells z.cells (grownCap w (n+m) old e-(n+m))) e)).heap[k]? = w.heap[k]?) ∧
     Row (w.drew.alloc (.cells (X++Builtin.zeroCells z.cells (grownCap w (n+m) old e-(n+m))) e)) i.size (n+m) (.slice (some ⟨w.heap.size,0,none⟩) (n+m) (grownCap w (n+m) old e)) (us++us') [w.heap.size]:=by
   intro old ho X hX;have hge:=grownCap_ge w (n+m) old e;have hcm:=grownCap_le_maxLen w (n+m) old e h63;refine⟨⟨rfl,rfl,rfl,by simp,Nat.le_succ _⟩,fun k hk=>heap_alloc_old w.drew _ k hk,.inr ⟨w.heap.size,_,e,(Builtin.zeroCells z.cells (grownCap w (n+m) old e-(n+m))).toList,_,rfl,rfl,heap_alloc_new w.drew _,by rw[z2,hX],?_,hcm,hge⟩⟩;have hXs:X.size=(n+m)*i.size:=by rw[<-zr,hX,zt,hul,hl,zF]
   rw[z5,size_zeroCells,hzs,hXs,<-zF];congr 1;omega
 rcases hrow with⟨A0,rfl,rfl,rfl,rfl⟩|⟨b,arr,e0,sp,c,rfl,rfl,hb,harr,hs,hcm,hc⟩
 . cases A0 with
   | some a0 =>
     have hr:=run_append_grow (P:=P) w T ty e i z ht hi hz a0 0 0 [] (by simp) (fun j u hu=>by simp at hu) ad m c' us' hl hnews (by omega) (by omega) (growslice_fits (by omega) hbytes);obtain⟨k1,k2,k3⟩:=grown 0 (by omega) (#[]++us'.toArray) (by simp);simp only[zL,zz]at k1 k2 k3 hr ⊢;exact⟨_,_,[w.heap.size],hr,k1,fun k hk _=>k2 k hk,k3,by simp,by simp,by simp⟩
   | none =>
   have hr:=run_append_nil (P:=P) w T ty e i z ht hi hz ad m c' us' hl hnews (by omega) (by omega) (by simp only[zL]at hbytes;omega);obtain⟨k1,k2,k3⟩:=grown 0 (by omega) us'.toArray (by simp);simp only[zL,zz]at k1 k2 k3 ⊢;exact⟨_,_,[w.heap.size],hr,k1,fun k hk _=>k2 k hk,k3,by simp,by simp,by simp⟩
 . by_cases hroom:n+m≤c
   . have hfit:n*i.size+us'.length≤arr.size:=by rw[hl,hs,<-zF];exact zv _ hroom
     have hr:=b0x (P:=P) (ty:=ty) (c':=c') ht hi hb hl hnews h1 hroom hfit;refine⟨_,_,[b],hr,a3R _ _ _,fun k _ hk=>setRow_other w b k _ (fun h=>hk (by simp[h])),.inr ⟨b,_,e0,arr.toList.drop (n*i.size+us'.length),c,rfl,rfl,setRow_heap w b arr _ e0 _ hb,?_,?_,hcm,hroom⟩,by simp,fun g hg=>?_,by simp⟩
     . simp only[harr];rw[<-hul,z0]
     . simp only[zM,zt,zu,zC,zr];omega
     . simp only[zj]at hg;subst hg;show g<(w.setRow g _).heap.size;rcases zI g w.heap.size with h|h
       . simpa using h
       . simp[zy h]at hb
   . have holds:∀ j u,us[j]? = some u->w.cell? ((⟨b,0,none⟩:Addr).add j)=some u:=fun j u hu=>a0V hb harr j u hu;have hr:=run_append_grow (P:=P) w T ty e i z ht hi hz ⟨b,0,none⟩ n c us hul holds ad m c' us' hl hnews (by omega) (by omega) (growslice_fits (by omega) hbytes);obtain⟨k1,k2,k3⟩:=grown c (by omega) (us.toArray++us'.toArray) (by simp);exact⟨_,_,[w.heap.size],hr,k1,fun k hk _=>k2 k hk,k3,by simp,by simp,by simp⟩
end Go.Vm
end
section
namespace Go.Vm
variable {P:Program}
theorem a4Q {x:Operand} (h:nilO x=true):x = .const (.slice none 0 0):=by
 unfold nilO at h;split at h
 . rfl
 . cases h
theorem a6r {t:Ty} {cs:List Cell} {xs:List t.den} {m:Mode} (h:slOf t cs=some (xs,m)):∃ rest,cs=⟨.sl t,m,xs⟩::rest:=by
 unfold slOf at h;split at h
 . rename_i c rest;split at h
   . rename_i ys hy;simp only[zd,zg]at h;obtain⟨rfl,rfl⟩:=h;exact⟨rest,by rw[<-b2r hy]⟩
   . cases h
 . cases h
theorem b4f {E:Env} {σ:St} {a:Act} {w:World} {G:Nat->RG} (h:Rel P E σ a w G) {r:Nat} {x x':Root} (hx:rget σ.rs r=some x) (g0:Nat) (hg0n:rget σ.rs g0=none) (hg0:(G g0).F=[]) {g':RG} {Fm:List Nat} (hroot:a0S w x' g') (hvs:g'.vs=(G r).vs) (hblk:g'.blk=(G r).blk)
   (hlen:x.cs.length≤x'.cs.length) (hF:∀ b∈g'.F,b∈(G r).F) (hn:g'.F.Nodup) (hFm:∀ b∈Fm,b∈(G r).F) (hFmn:Fm.Nodup) (hd:∀ b∈Fm,b∉g'.F) (hS:∀ b∈g'.S,b∈(G r).S) :
   Rel P E ⟨a0g r false σ.ts,rput σ.rs r x'⟩ a w (upG (upG G r g') g0 (a0f Fm)):=by
 have hrg:r≠g0:=by rintro rfl;rw[hg0n]at hx;cases hx
 refine a3u h r g0 hg0 hg0n hrg _ _ g' Fm (fun _ _ _=>rfl) (Bel.refl _) (fun p hp=>by rw[a0j,if_neg hp]) (.inr ⟨x',by rw[a0j,if_pos rfl],hroot⟩) (fun b hb => .inl (hF b hb)) hn (fun b hb => .inl (hFm b hb)) hFmn hd
   (fun b hb=>h.r.lt r b (hFm b hb)) (fun b hb=>h.r.lt r b (hF b hb)) (fun b hb=>?_) (a0l _ _ _) fun i t' ht'=>?_
 . obtain⟨h1,h2⟩:=h.r.shr r x hx b (hS b hb);refine⟨fun hbF=>h1 r (hF b hbF),fun hbF=>h1 r (hFm b hbF),fun _ => .inr fun c hc=>?_⟩;simp only[zj]at hc;subst hc;exact⟨h1,h2⟩
 . rcases a1F ht' with rfl|⟨ht1,hu1⟩
   . exact .inl rfl
   refine .inr ⟨ht1,fun v S A hS hs=>?_⟩;refine a1L r false x x' hx (by rw[a0j,if_pos rfl]) hlen (by rw[a0z _ _ hrg,a0y,hblk]) (fun _=>by rw[a0z _ _ hrg,a0y,hvs]) (fun q hq=>by rw[a0j,if_neg hq]) (fun q hq hqn=>?_) h.r.roots (fun _ _ _ _=>rfl) (ze _) t' v S A hu1 hS hs;rw[a0z _ _ (by rintro rfl;exact hqn hg0n),a0z _ _ hq]
def Free (G G':Nat->RG):Prop:=∀ b,(∀ p,b∉(G p).F)->∀ p,b∉(G' p).F
theorem Free.trans {G G' G'':Nat->RG} (h:Free G G') (k:Free G' G''):Free G G'':=fun b hb=>k b (h b hb)
theorem Free.fine {E:Env} {G G':Nat->RG} (h:Free G G') {S:List Nat} (hf:Fine E G S):Fine E G' S:=fun b hb=>⟨h b (hf b hb).1,(hf b hb).2⟩
theorem rep_any (w:World) {v:Value} (h1:v.oneCell'=true) (h2:∀ cs,v ≠ .agg cs):RepC w anyC [v] [] []:=⟨⟨v,rfl⟩,⟨v,rfl,h1,h2⟩,rfl,rfl⟩
theorem a7x {E:Env} {σ:St} {a:Act} {w:World} {G:Nat->RG} (h:Rel P E σ a w G) {t:Ty} {s:Operand} {xs:List t.den} {m:Mode} {σ':St} (hk:b2Z σ t s=some (xs,m,σ')) (g0:Nat) (hg0:rget σ.rs g0=none) (hg0F:(G g0).F=[]) :
   ∃ G' F S,Rel P E σ' a w G'/\(∀ p,rget σ.rs p=none->rget σ'.rs p=none)/\(G' g0).F=F/\(∀ p,rget σ.rs p=none->p≠g0->G' p=G p)/\Rep w (.sl t) m xs [a.eval s] F S/\m.own=true/\Fine E G' S/\F.Nodup/\Free G G':=by
 unfold b2Z at hk;split at hk
 . rename_i hn;have hs:=a4Q hn;subst hs;simp only[zd,zg]at hk;obtain⟨rfl,rfl,rfl⟩:=hk;exact⟨G,[],[],h,fun _ hp=>hp,hg0F,fun _ _ _=>rfl,⟨none,0,rfl,ze _,.inl ⟨rfl,rfl,rfl,fun _=>rfl⟩⟩,rfl,a1o _ _,by simp,fun _ hb=>hb⟩
 . split at hk
   case h_2=>cases hk
   rename_i r j hev;split at hk
   . cases hk
   rename_i root hroot;split at hk
   . cases hk
   rename_i ys m' hsl;split at hk
   . cases hk
   rename_i hown;simp only[zd,zg]at hk;obtain⟨rfl,rfl,rfl⟩:=hk;obtain⟨S1,A1,hx,-⟩:=a0q h s;rw[hev]at hx;obtain⟨rfl,rfl,y,ad,us,hy,hp,⟨hl1,hl2⟩,hnn,hsv⟩:=hx;rw[hroot]at hy;obtain rfl:=zc hy;obtain⟨rest,hrest⟩:=a6r hsl;have hroots:=h.r.roots r root hroot;obtain⟨FF,hcs,hm⟩:=hroots;obtain⟨F1,F2,T1,T2,rfl,hS,hr1,hr2⟩:=a0F j hcs;rw[hrest]at hr2;obtain⟨v,vs',F3,F4,T3,T4,hvs,rfl,rfl,hc,hr4⟩:=a0T hr2;have hjl:j<root.cs.length:=by
     rcases zI j root.cs.length with h|h
     . exact h
     . rw[List.drop_of_length_le h]at hrest;cases hrest
   have hd1:root.cs.drop (j+1)=rest:=by
     rw[List.drop_add_one_eq_tail_drop,hrest];rfl
   subst hl2;rw[hvs]at hsv hnn;have hv:v=a.eval s:=by simpa[a0E]using hsv
   have hone:=a8m _ hc v (by simp);let g':RG:=⟨(G r).vs,(G r).blk,(G r).blk.toList++(F1++F4),T1++T4⟩;have hnd:=h.r.nodup r;have hcells:a0K w (root.cs.take j++anyC::root.cs.drop (j+1)) (G r).vs (F1++([]++F4)) (T1++([]++T4)):=by
     have hv2:(G r).vs=(G r).vs.take j++(v::vs'):=by rw[<-hvs,zN]
     rw[hv2,hd1];exact a0M hr1 (by
       have:=a2U (c:=anyC) (rep_any w hone.1 hone.2).2 hr4;simpa using this)
   simp only[zz]at hcells;have hGF:(G r).F=(G r).blk.toList++(F1++(F3++F4)):=by
     rcases hm with⟨_,hb2,he⟩|⟨_,b',arr,e,hb2,_,_,he⟩
     . rw[he,hb2];rfl
     . rw[he,hb2];rfl
   rw[hGF]at hnd;have hrootN:a0S w ⟨root.mem,root.cs.take j++anyC::root.cs.drop (j+1)⟩ g':=by
     refine⟨F1++F4,hcells,?_⟩;rcases hm with⟨h1,hb2,he⟩|⟨h1,b',arr,e,hb2,hh,ha,he⟩
     . exact .inl ⟨h1,hb2,by simp[g',hb2]⟩
     . exact .inr ⟨h1,b',arr,e,hb2,hh,ha,by simp[g',hb2]⟩
   have hrel:=b4f h hroot g0 hg0 hg0F (g':=g') (Fm:=F3) hrootN rfl rfl (by simp;omega) (fun b hb=>by rw[hGF];simp only[g',za]at hb ⊢;grind) (by
       simp only[g',zb,za]at hnd ⊢;grind) (fun b hb=>by rw[hGF];simp[hb]) (by simp only[zb]at hnd;grind) (fun b hb hbg=>by
       simp only[g',zb,za]at hnd hbg;grind) (fun b hb=>by rw[hS];simp only[g',za]at hb ⊢;grind)
   have hrg:r≠g0:=by rintro rfl;rw[hg0]at hroot;cases hroot
   refine⟨_,F3,T3,hrel,fun p hp=>?_,by rw[a0y];rfl,fun p hp hpg=>?_,?_,hown,fun b hb=>?_,by simp only[zb]at hnd;grind,fun b hb p hbp=>?_⟩
   . have:p≠r:=by rintro rfl;rw[hp]at hroot;cases hroot
     rw[a0j,if_neg this];exact hp
   . have:p≠r:=by rintro rfl;rw[hp]at hroot;cases hroot
     rw[a0z _ _ hpg,a0z _ _ this]
   . rw[<-hv];exact hc
   . obtain⟨h1,h2⟩:=h.r.shr r root hroot b (by rw[hS];simp[hb]);refine⟨fun p hbp=>?_,h2⟩;by_cases hp1:p=g0
     . subst hp1;rw[a0y]at hbp;exact h1 r (by rw[hGF];simp only[a0f]at hbp;simp[hbp])
     . rw[a0z _ _ hp1]at hbp;by_cases hp2:p=r
       . subst hp2;rw[a0y]at hbp;exact h1 p (by rw[hGF];simp only[g',za]at hbp ⊢;grind)
       . rw[a0z _ _ hp2]at hbp;exact h1 p hbp
   . by_cases hp1:p=g0
     . subst hp1;rw[a0y]at hbp;exact hb r (by rw[hGF];simp only[a0f]at hbp;simp[hbp])
     . rw[a0z _ _ hp1]at hbp;by_cases hp2:p=r
       . subst hp2;rw[a0y]at hbp;exact hb p (by rw[hGF];simp only[g',za]at hbp ⊢;grind)
       . rw[a0z _ _ hp2]at hbp;exact hb p hbp
theorem a4v {w:World} {t:Ty} {m:Mode} {xs:List t.den} {v:Value} {F S:List Nat} (h:Rep w (.sl t) m xs [v] F S):∃ A c us Fe Se,v = .slice A xs.length c/\RepL (Rep w t m.inn) xs us Fe Se/\(∀ ad,A=some ad->∀ j u,us[j]? = some u->w.cell? (ad.add j)=some u)/\(xs.length≠0->A≠none)/\Fe.Sublist F/\∀ b∈Se,b∈S:=by
 obtain⟨A,c,he,hc,h⟩:=h;simp only[zp,and_true]at he;subst he;rcases h with⟨rfl,rfl,rfl,h0⟩|⟨ho,b,arr,e,us,sp,F',rfl,hb,harr,hsz,hr,rfl⟩|⟨ho,hne,ad,us,S',rfl,hcell,hr,rfl,rfl⟩
 . exact⟨A,c,[],[],[],rfl,⟨rfl,rfl,rfl⟩,by simp,by simp,by simp,by simp⟩
 . refine⟨_,c,us,F',S,rfl,hr,fun ad had j u hu=>?_,by simp,List.sublist_cons_self _ _,fun _ h=>h⟩;obtain rfl:=zc had;exact a0V hb harr j u hu
 . have hm:m.inn = .sh:=by cases m<;>simp_all [Mode.own,Mode.inn]
   rw[hm];refine⟨_,c,us,[],S',rfl,hr,fun ad' had j u hu=>?_,by simp,by simp,fun b hb=>by simp[hb]⟩;obtain rfl:=zc had;exact hcell j u hu
theorem b4h {w:World} (t:Ty):∀ {m:Mode} {x:t.den} {vs:List Value} {F S:List Nat},noSl t=true->Rep w t m x vs F S->F=[]/\S=[]/\∀ m',Rep w t m' x vs [] []:=by
 induction t with
 | int k=>rintro m x vs F S _ ⟨rfl,rfl,rfl⟩;exact⟨rfl,rfl,fun _=>⟨rfl,rfl,rfl⟩⟩
 | bool=>rintro m x vs F S _ ⟨rfl,rfl,rfl⟩;exact⟨rfl,rfl,fun _=>⟨rfl,rfl,rfl⟩⟩
 | any=>intro m x vs F S h;cases h
 | pair a b iha ihb =>
   rintro m x vs F S hn ⟨v1,v2,F1,F2,S1,S2,rfl,rfl,rfl,h1,h2⟩;simp only[noSl,zq]at hn;obtain⟨rfl,rfl,k1⟩:=iha hn.1 h1;obtain⟨rfl,rfl,k2⟩:=ihb hn.2 h2;exact⟨rfl,rfl,fun m'=>⟨v1,v2,[],[],[],[],rfl,rfl,rfl,k1 m',k2 m'⟩⟩
 | sl t _=>intro m x vs F S h;cases h
theorem a1t {w:World} {t:Ty} {m:Mode} (hn:noSl t=true):∀ {xs:List t.den} {us:List Value} {F S:List Nat},RepL (Rep w t m) xs us F S->F=[]/\S=[]/\∀ m',RepL (Rep w t m') xs us [] []:=by
 intro xs;induction xs with
 | nil=>rintro us F S ⟨rfl,rfl,rfl⟩;exact⟨rfl,rfl,fun _=>⟨rfl,rfl,rfl⟩⟩
 | cons x xs ih =>
   rintro us F S ⟨v1,v2,F1,F2,S1,S2,rfl,rfl,rfl,h1,h2⟩;obtain⟨rfl,rfl,k1⟩:=b4h t hn h1;obtain⟨rfl,rfl,k2⟩:=ih h2;exact⟨rfl,rfl,fun m'=>⟨v1,v2,[],[],[],[],rfl,rfl,rfl,k1 m',k2 m'⟩⟩
theorem a6x {w:World} {t:Ty} {m:Mode}:∀ {xs:List t.den} {us:List Value} {F S:List Nat},RepL (Rep w t m) xs us F S->∀ u∈us,u.oneCell'=true:=by
 intro xs us F S h u hu;exact(a2i ((a5k _ _ _ _ _ _ _).1 h) u hu).1
theorem a2y {w:World} {t:Ty} {m:Mode} {xs:List t.den} {us:List Value} {F S:List Nat} (h:RepL (Rep w t m) xs us F S):∀ b,b∈F∨b∈S->b<w.heap.size:=a3F ((a5k _ _ _ _ _ _ _).1 h)
theorem a1D {w w':World} {t:Ty} {m:Mode} {xs:List t.den} {us:List Value} {F S:List Nat} (h:RepL (Rep w t m) xs us F S) (hs:a0a w w' (F++S)):RepL (Rep w' t m) xs us F S:=(a5k _ _ _ _ _ _ _).2 (a0I ((a5k _ _ _ _ _ _ _).1 h) hs)
theorem b3V {w:World} {t:Ty} {m:Mode} {xs:List t.den} {us:List Value} {F S:List Nat} (h:RepL (Rep w t m) xs us F S):∃ S',RepL (Rep w t .sh) xs us [] S'/\∀ b∈S',b∈F∨b∈S:=a4X h fun x us F1 S1 hx=>a9m t hx
def ElOK (E:Env) (G:Nat->RG) (w:World) (t:Ty) (g0:Nat) (ys:List t.den) (us:List Value):RK->Prop
 | .copy=>(∀ m,RepL (Rep w t m) ys us [] [])/\(G g0).F=[]
 | .move=>∃ F S,RepL (Rep w t .deep) ys us F S/\(∀ b∈F,b∈(G g0).F)/\F.Nodup/\Fine E G S
 | .share=>∃ S,RepL (Rep w t .sh) ys us [] S/\Fine E G S/\(G g0).F=[]
theorem b4I {c:Cell} {cs:List Cell} (h:isSh (c::cs)=true):c.m = .sh:=a6Q h c (by simp)
theorem a3c {E:Env} {σ:St} {a:Act} {w:World} {G:Nat->RG} (h:Rel P E σ a w G) {t:Ty} {x:Operand} {ys:List t.den} {kd:RK} {σ':St} {f:Bool} (hk:a6o f σ t x=some (ys,kd,σ')) (g0:Nat) (hg0:rget σ.rs g0=none) (hg0F:(G g0).F=[]) :
   ∃ G' A c us,Rel P E σ' a w G'/\(∀ p,rget σ.rs p=none->rget σ'.rs p=none)/\(∀ p,rget σ.rs p=none->p≠g0->(G p).F=[]->(G' p).F=[])/\a.eval x = .slice A ys.length c/\us.length=ys.length*t.sz/\(∀ ad,A=some ad->∀ j u,us[j]? = some u->w.cell? (ad.add j)=some u)/\(ys.length≠0->A≠none) ∧
     (∀ u∈us,u.oneCell'=true)/\ElOK E G' w t g0 ys us kd:=by
 unfold a6o at hk;split at hk
 . rename_i hn;have hs:=a4Q hn;subst hs;simp only[zd,zg]at hk;obtain⟨rfl,rfl,rfl⟩:=hk;exact⟨G,none,0,[],h,fun _ hp=>hp,fun _ _ _ hp=>hp,rfl,by simp,by simp,by simp,by simp,fun m=>⟨rfl,rfl,rfl⟩,hg0F⟩
 obtain⟨S1,A1,hx,hf⟩:=a0q h x;split at hk
 . rename_i cs hev;split at hk
   case h_2=>cases hk
   rename_i zs m hsl hsh;simp only[zd,zg]at hk;obtain⟨rfl,hkd,rfl⟩:=hk;obtain⟨rest,rfl⟩:=a6r hsl;have hm:=b4I hsh;simp only[]at hm;subst hm;rw[hev]at hx;have hlt:=a0o _ _ _ _ hx;obtain⟨rfl,vs,hr,hsv⟩:=hx;obtain⟨v,vs',F1,F2,T1,T2,rfl,hF,rfl,hc,hr2⟩:=a0T hr;obtain⟨rfl,rfl⟩:=zG.1 hF.symm;have hv:v=a.eval x:=by
     simp only[a0E,zA,if_false,zp]at hsv;exact hsv.1
   obtain⟨A,c,us,Fe,Se,he,hre,hcell,hne,hFe,hSe⟩:=a4v hc;have hFe0:Fe=[]:=List.sublist_nil.1 hFe;subst hFe0;refine⟨G,A,c,us,h,fun _ hp=>hp,fun _ _ _ hp=>hp,by rw[<-hv,he],a0Y hre,hcell,hne,a6x hre,?_⟩;cases hns:noSl t with
   | true=>rw[hns]at hkd;subst hkd;exact⟨(a1t hns hre).2.2,hg0F⟩
   | false=>rw[hns]at hkd;subst hkd;exact⟨Se,hre,a2S hf.one fun b hb=>by simp[hSe b hb],hg0F⟩
 . rename_i r p hev;split at hk
   . cases hk
   rename_i root hroot;split at hk
   . cases hk
   rename_i zs m hsl;obtain⟨rest,hg⟩:=a6r hsl;rw[hev]at hx;obtain⟨rfl,rfl,y,ad,us,hy,hp,hl,hnn,hsv⟩:=hx;rw[hroot]at hy;obtain rfl:=zc hy;obtain⟨F,S,hrep,hF,hS,-,hFn⟩:=a1H (h.r.roots r root hroot) (h.r.nodup r) hp hl;rw[hg]at hrep;obtain⟨v,vs',F1,F2,T1,T2,rfl,rfl,rfl,hc,hr2⟩:=a0T hrep;have hv:v=a.eval x:=by simpa[a0E]using hsv
   obtain⟨A,c,vs,Fe,Se,he,hre,hcell,hne,hFe,hSe⟩:=a4v hc;have hev2:a.eval x = .slice A zs.length c:=by rw[<-hv,he]
   split at hk
   . rename_i hns;simp only[zd,zg]at hk;obtain⟨rfl,rfl,rfl⟩:=hk;exact⟨G,A,c,vs,h,fun _ hp=>hp,fun _ _ _ hp=>hp,hev2,a0Y hre,hcell,hne,a6x hre,(a1t hns hre).2.2,hg0F⟩
   rename_i hns;have hshr:=h.r.shr r root hroot;split at hk
   . rename_i hw;simp only[zd,zg]at hk;obtain⟨rfl,rfl,rfl⟩:=hk;have hrg:r≠g0:=by rintro rfl;rw[hg0]at hroot;cases hroot
     simp only[zq]at hw
     replace hw:=hw.2
     unfold b0F at hw;split at hw
     case h_2=>cases hw
     rename_i cc;simp only[a0W,List.drop_zero,zp]at hg;obtain⟨rfl,rfl⟩:=hg;have hm:m = .deep:=by cases m<;>simp_all [Mode.isDeep]
     subst hm;have hrel:=a8g h r g0 hg0 hrg;rw[hg0F,zz]at hrel;refine⟨_,A,c,vs,hrel,fun p hp=>?_,fun p hp hpg hpF=>?_,hev2,a0Y hre,hcell,hne,a6x hre,Fe,Se,hre,fun b hb=>?_,hFe.nodup (zb.1 hFn).1,fun b hb=>?_⟩
     . simp only[St.del,a0D];split
       . rfl
       . exact hp
     . have:p≠r:=by rintro rfl;rw[hp]at hroot;cases hroot
       rw[a0z _ _ hpg,a0z _ _ this];exact hpF
     . rw[a0y];exact(hF b (by simp[hFe.subset hb])).1
     . obtain⟨k1,k2⟩:=hshr b (hS b (by simp[hSe b hb]));refine⟨fun q hq=>?_,k2⟩;by_cases hq1:q=g0
       . subst hq1;rw[a0y]at hq;exact k1 r hq
       . rw[a0z _ _ hq1]at hq;by_cases hq2:q=r
         . subst hq2;rw[a0y]at hq;cases hq
         . rw[a0z _ _ hq2]at hq;exact k1 q hq
   . simp only[zd,zg]at hk;obtain⟨rfl,rfl,rfl⟩:=hk;obtain⟨Sx,hsx,hSx⟩:=b3V hre;obtain⟨G',hrel,hkeep,hfr⟩:=a3U [r] σ G h;have habs:∀ p,rget σ.rs p=none->p∉[r]:=by
       intro p hp hpr;simp only[zj]at hpr;subst hpr;rw[hroot]at hp;cases hp
     refine⟨G',A,c,vs,hrel,fun p hp=>?_,fun p hp _ hpF=>?_,hev2,a0Y hre,hcell,hne,a6x hre,Sx,hsx,fun b hb=>?_,?_⟩
     . rw[(hkeep p (habs p hp)).2];exact hp
     . rw[(hkeep p (habs p hp)).1];exact hpF
     . have hok:=a5q (T:=Sx) h.r hroot (cs:=a0W root.cs p) (vs:=v::vs') (F:=F1++F2) (S:=T1++T2) (by rw[hg];exact a2U (c:=⟨.sl t,m,zs⟩) hc hr2) hF hS (fun b hb=>(hSx b hb).elim (fun h => .inl (by simp[hFe.subset h])) (fun h => .inr (by simp[hSe b h])));refine⟨fun q hq=>?_,(hok.lent b hb).1⟩;obtain⟨h4,h5⟩:=hfr q b hq;have hqr:=hok.read b hb q h4;obtain⟨_,h6,h7⟩:=(hok.lent b hb).2 q h4;exact h7 (h5 hqr h6)
     . rw[(hkeep g0 (habs g0 hg0)).1];exact hg0F
 . cases hk
theorem a3G {E:Env} {R:Type} {o:Oper} {σ:St} {a:Act} {w w':World} {G:Nat->RG} {k:St->Option R} {r:R} {d:Nat} (hd:o.dst=some d) {t:Ty} {m:Mode} {xs:List t.den} {v:Value} {F S:List Nat} (hrun:(execOp a.eval o).run P w = .ok (.value v) w')
   (h:Rel P E σ a w' G) (g0:Nat) (hg0:rget σ.rs g0=none) (hne:g0≠4*d) (hrep:Rep w' (.sl t) m xs [v] F S) (hn:F.Nodup) (hF:∀ b∈F,b∈(G g0).F) (hS:Fine E G S) (hk:k (a5B σ d t m xs)=some r):Good P E o a w k r:=by
 have hroot:a0S w' ⟨false,[⟨.sl t,m,xs⟩]⟩ ⟨[v],none,F,S⟩:=⟨F,⟨[v],[],F,[],S,[],rfl,by simp,by simp,⟨⟨_,rfl⟩,hrep⟩,⟨rfl,rfl,rfl⟩⟩,.inl ⟨rfl,rfl,rfl⟩⟩;have h1:=a5e h g0 (4*d) hg0 hne _ _ hroot hn hF fun b hb=>a2S hS (by simpa using hb);refine a0v hrun (a0A h1 o.dst (t := .view (4*d) (.root 0) 1 false) ⟨rfl,rfl,_,_,_,by rw[St.new,a0j,if_pos rfl],z8 _,by rw[a0y];exact a2g,by simp,by simp[a0E]⟩ (Fine2.nil _ _)) ?_;rw[hd];exact hk
theorem a3l {tab:Tab} (ht:TabOK P tab) {T:TypeId} {i:TInfo} (hi:tab T=some i):(a3i i).cells.size=i.t.sz:=by
 rw[a2z ht hi];simp[a5U]
theorem a9y {f:Bool} {σ σ2:St} {t:Ty} {s x:Operand} {xs ys:List t.den} {m':Mode} (h:b4x f σ t s x=some (xs,ys,m',σ2)):∃ f kd σ1 m,a6o f σ t x=some (ys,kd,σ1)/\b2Z σ1 t s=some (xs,m,σ2)/\a6m kd m=some m':=by
 unfold b4x at h;split at h
 . cases h
 rename_i ys kd σ1 hra;split at h
 . cases h
 rename_i xs m σ2 hta;split at h
 . cases h
 rename_i m' hrm;simp only[zd,zg]at h;obtain⟨rfl,rfl,rfl,rfl⟩:=h;exact⟨f,kd,σ1,m,hra,hta,hrm⟩
theorem b4v {σ σ2:St} {t:Ty} {s x:Operand} {xs ys:List t.den} {m':Mode} (h:appM σ t s x=some (xs,ys,m',σ2)):∃ f kd σ1 m,a6o f σ t x=some (ys,kd,σ1)/\b2Z σ1 t s=some (xs,m,σ2)/\a6m kd m=some m':=by
 unfold appM at h;split at h
 . rename_i q hq;rw[h]at hq;exact a9y hq
 . exact a9y h
theorem a9x {E:Env} {R:Type} {o:Oper} {σ:St} {a:Act} {w:World} {G:Nat->RG} {k:St->Option R} {r:R} {c:Ctx} {cl:Call} {T:TypeId} {s x:Operand} (ho:o.op = .call cl) (hcl:cl.callee = .builtin .append) (hargs:cl.args.toList=[s,x]) (hat:cl.argTypes.toList=[T,T]) (ht:TabOK P c.tab)
   (h:Rel P E σ a w G) (hk:a8w c o T s x σ k=some r):Good P E o a w k r:=by
 have hargs':cl.args=#[s,x]:=by rw[<-zo (xs:=cl.args),hargs]
 have hat':cl.argTypes=#[T,T]:=by rw[<-zo (xs:=cl.argTypes),hat]
 unfold a8w at hk;split at hk
 case h_2=>cases hk
 rename_i d t e fs hd hT;split at hk
 . cases hk
 rename_i xs ys m' σ2 hq;split at hk
 case isFalse=>cases hk
 rename_i hbig;obtain⟨f,kd,σ1,m,hra,hta,hrm⟩:=b4v hq;obtain⟨hu,ti,hti,rfl⟩:=ht.slice T t e fs hT;obtain⟨inf,hinf,hsz,hb0,hb1,hz⟩:=ht.info e ti hti;obtain⟨g1,hg1,hfresh⟩:=a3j h (4*d+1);obtain⟨G1,A,cc,us',h1,hab1,hF1,hevx,hul',hcell,hne,hone,hel⟩:=a3c h hra g1 (hfresh g1 (ze _)).1 (hfresh g1 (ze _)).2;have hn0:∀ j,g1≤j->rget σ1.rs j=none:=fun j hj=>hab1 j (hfresh j hj).1;have hF0:∀ j,g1<j->(G1 j).F=[]:=fun j hj=>hF1 j (hfresh j (by omega)).1 (by omega) (hfresh j (by omega)).2;obtain⟨G2,Fx,Sx,h2,hab2,hFx,hkeep,hrx,hown,hfx,hnx,hfree⟩:=a7x h1 hta (g1+1) (hn0 _ (by omega)) (hF0 _ (by omega));have hn2:∀ j,g1≤j->rget σ2.rs j=none:=fun j hj=>hab2 j (hn0 j hj);have hG2g1:G2 g1=G1 g1:=hkeep g1 (hn0 _ (ze _)) (by omega);obtain⟨us,hd1,Fe,hrow,hFxe,hrl⟩:=a4x hown hrx;obtain⟨v',w',hd',hrun,hbel,hsame,hrow',hhd,hhlt,hhn⟩:=b3a (P:=P) (ty:=o.type) (c':=cc) hu hinf hz hsz (a3l ht hti) (a3O _) hb1 hrow (a0Y hrl) hul' hcell hne hone hbig;have run:(execOp a.eval o).run P w = .ok (.value v') w':=by
   have ho':o.op = .call { callee := .builtin .append,args:=#[s,x],argTypes:=#[T,T] }:=by rw[ho,<-hcl,<-hargs',<-hat']
   simp only[execOp,ho',resolve,invoke,builtin,Sem.run_bind,Sem.run_pure,Result.andThen_ok,zO,zw,zK,hevx,hrun]
 have hdF:∀ b∈hd1,b∈(G2 (g1+1)).F:=fun b hb=>by rw[hFx,hFxe];simp[hb]
 have hnx':(hd1++Fe).Nodup:=hFxe▸hnx;let Gm:Nat->RG:=upG (upG G2 g1 noRG) (g1+1) (a0f (Fx++(G1 g1).F));have hdisj:∀ b,b∈Fx->b∉(G1 g1).F:=fun b hb hb1=>by
   have:=h2.r.disj (g1+1) g1 b (by rw[hFx];exact hb) (by rw[hG2g1];exact hb1);omega
 have hback:∀ p b,b∈(Gm p).F->∃ p',b∈(G2 p').F:=by
   intro p b hb;by_cases hp:p=g1+1
   . subst hp;simp only[Gm,a0y,a0f,za]at hb;rcases hb with hb|hb
     . exact⟨g1+1,by rw[hFx];exact hb⟩
     . exact⟨g1,by rw[hG2g1];exact hb⟩
   . simp only[Gm]at hb;rw[a0z _ _ hp]at hb;by_cases hp2:p=g1
     . subst hp2;rw[a0y]at hb;cases hb
     . rw[a0z _ _ hp2]at hb;exact⟨p,hb⟩
 have h3 : Rel P E σ2 a w Gm:=by
   refine a4W h2 (fun q hq=>?_) hback (fun p=>?_) (fun p p' b hb hb'=>?_) ?_
   . have e1:q≠g1:=by rintro rfl;exact hq (hn2 _ (ze _))
     have e2:q≠g1+1:=by rintro rfl;exact hq (hn2 _ (by omega))
     simp only[Gm];rw[a0z _ _ e2,a0z _ _ e1]
   . by_cases hp:p=g1+1
     . subst hp;simp only[Gm,a0y,a0f];exact zb.2 ⟨hnx,by rw[<-hG2g1];exact h2.r.nodup g1,fun b hb c hc e=>by subst e;exact hdisj b hb hc⟩
     . simp only[Gm];rw[a0z _ _ hp];by_cases hp2:p=g1
       . subst hp2;rw[a0y];simp[noRG]
       . rw[a0z _ _ hp2];exact h2.r.nodup p
   . have whose:∀ p b,b∈(Gm p).F->(p=g1+1/\(b∈(G2 (g1+1)).F∨b∈(G2 g1).F))∨(p≠g1+1/\p≠g1/\b∈(G2 p).F):=by
       intro p b hb;by_cases hp:p=g1+1
       . subst hp;simp only[Gm,a0y,a0f,za]at hb;exact .inl ⟨rfl,hb.imp (fun hb=>by rw[hFx];exact hb) (fun hb=>by rw[hG2g1];exact hb)⟩
       . simp only[Gm]at hb;rw[a0z _ _ hp]at hb;by_cases hp2:p=g1
         . subst hp2;rw[a0y]at hb;cases hb
         . rw[a0z _ _ hp2]at hb;exact .inr ⟨hp,hp2,hb⟩
     rcases whose p b hb with⟨rfl,j1⟩|⟨j1,j2,j3⟩<;>rcases whose p' b hb' with⟨rfl,i1⟩|⟨i1,i2,i3⟩
     . rfl
     . exfalso;rcases j1 with j1|j1
       . exact i1 (h2.r.disj _ _ b i3 j1)
       . exact i2 (h2.r.disj _ _ b i3 j1)
     . exfalso;rcases i1 with i1|i1
       . exact j1 (h2.r.disj _ _ b j3 i1)
       . exact j2 (h2.r.disj _ _ b j3 i1)
     . exact h2.r.disj p p' b j3 i3
   . obtain⟨n,hn⟩:=h2.r.fin;refine⟨max n (g1+2),fun r hr=>?_⟩;simp only[Gm];rw[a0z _ _ (by omega),a0z _ _ (by omega)];exact(hn r (by omega)).2
 have hGm1:(Gm (g1+1)).F=Fx++(G1 g1).F:=by simp only[Gm,a0y,a0f]
 have hGm2:(Gm (g1+2)).F=[]:=by
   simp only[Gm];rw[a0z _ _ (by omega),a0z _ _ (by omega),hkeep _ (hn0 _ (by omega)) (by omega)];exact hF0 _ (by omega)
 have hold:∀ b,b<w.heap.size->b∉hd1->w'.heap[b]? = w.heap[b]? := hsame;have finish:∀ (Fy S:List Nat),RepL (Rep w' ti.t m'.inn) (xs++ys) (us++us') Fy S->m'.own=true->(∀ b∈Fy,b∈Fe∨b∈(G1 g1).F)->Fy.Nodup->(∀ b∈Fy,b∉hd1)->Fine E Gm S->(∀ b∈S,b<w.heap.size)->Good P E o a w k r:=by
   intro Fy S hr ho' hFy hFyn hFyd hSf hSlt;have hFyl:∀ b∈Fy,b<w.heap.size:=fun b hb=>by
     rcases hFy b hb with h4|h4
     . exact h2.r.lt (g1+1) b (by rw[hFx,hFxe];simp[h4])
     . exact h2.r.lt g1 b (by rw[hG2g1];exact h4)
   have hrep:=a2C ho' (by simpa using hrow') hr;have hFn:(hd'++Fy).Nodup:=zb.2 ⟨hhn,hFyn,fun b hb c hc e=>by
     subst e;rcases hhd b hb with h4|h4
     . exact hFyd b hc h4
     . have:=hFyl b hc;omega⟩
   have h4:=a3b h3 (g1+1) (g1+2) (hn2 _ (by omega)) (hn2 _ (by omega)) hGm2 (by omega) (hd'++Fy) (fun b hb hb2=>hold b hb fun hh=>hb2 (by rw[hGm1,hFxe];simp[hh])) hbel (fun b hb=>by
     rw[hGm1,hFxe];simp only[za]at hb ⊢;rcases hb with hb|hb
     . exact(hhd b hb).imp (fun h => .inl (.inl h)) id
     . exact .inl ((hFy b hb).imp (fun h => .inr h) id)) hFn (fun b hb=>by
     simp only[za]at hb;rcases hb with hb|hb
     . exact hhlt b hb
     . exact zU (hFyl b hb) hbel.size)
   refine a3G hd run h4 (g1+2) (hn2 _ (by omega)) (by omega) hrep hFn (fun b hb=>by rw[a0y];exact hb) (fun b hb=>⟨fun p hp=>?_,(hSf b hb).2⟩) hk;by_cases hp1:p=g1+2
   . subst hp1;rw[a0y]at hp;simp only[a0f,za]at hp;rcases hp with hp|hp
     . rcases hhd b hp with h5|h5
       . exact(hSf b hb).1 (g1+1) (by rw[hGm1,hFxe];simp[h5])
       . have:=hSlt b hb;omega
     . exact(hSf b hb).1 (g1+1) (by
         rw[hGm1,hFxe];simp only[za];exact(hFy b hp).imp .inr id)
   . rw[a0z _ _ hp1]at hp;by_cases hp2:p=g1+1
     . subst hp2;rw[a0y]at hp;cases hp
     . rw[a0z _ _ hp2]at hp;exact(hSf b hb).1 p hp
 have hGmfree:Free G2 Gm:=fun b hb p hp=>by
   obtain⟨p',h4⟩:=hback p b hp;exact hb p' h4
 have hfrx:RepL (Rep w' ti.t m.inn) xs us Fe Sx:=a1D hrl fun b hb=>by
   simp only[za]at hb;refine hold b (a2y hrl b hb) fun hbd=>?_;rcases hb with hb|hb
   . exact(zb.1 hnx').2.2 b hbd b hb rfl
   . exact(hfx b hb).1 (g1+1) (hdF b hbd)
 have hFen:Fe.Nodup:=(zb.1 hnx').2.1;have hFed:∀ b∈Fe,b∉hd1:=fun b hb hbd=>(zb.1 hnx').2.2 b hbd b hb rfl;have hSxlt:∀ b∈Sx,b<w.heap.size:=fun b hb=>a2y hrl b (.inr hb);cases kd with
 | copy =>
   obtain⟨hcp,hg1F⟩:=hel;simp only[a6m,zd]at hrm;subst hrm;have hy:=a1D (w':=w') (hcp m.inn) (by simp[a0a]);have hall:=(a0R xs ys _ _ _).2 ⟨us,us',Fe,[],Sx,[],rfl,rfl,rfl,hfrx,hy⟩;rw[zm,zm]at hall;exact finish Fe Sx hall hown (fun b hb => .inl hb) hFen hFed (hGmfree.fine hfx) hSxlt
 | move =>
   obtain⟨Fy,Sy,hry,hFyg,hFyn,hSy⟩:=hel;have hm:m = .deep/\m' = .deep:=by
     cases m with
     | deep=>exact⟨rfl,(zc hrm).symm⟩
     | shal=>cases hrm
     | sh=>cases hrm
   obtain⟨rfl,rfl⟩:=hm;have hy:=a1D (w':=w') hry fun b hb=>by
     simp only[za]at hb;refine hold b (a2y hry b hb) fun hbd=>?_;rcases hb with hb|hb
     . exact hdisj b (by rw[hFxe];simp[hbd]) (hFyg b hb)
     . exact(hfree b (hSy b hb).1 (g1+1)) (hdF b hbd)
   have hall:=(a0R xs ys _ _ _).2 ⟨us,us',Fe,Fy,Sx,Sy,rfl,rfl,rfl,hfrx,hy⟩;refine finish (Fe++Fy) (Sx++Sy) hall rfl (fun b hb=>?_) (zb.2 ⟨hFen,hFyn,fun b hb c hc e=>by subst e;exact hdisj b (by rw[hFxe];simp[hb]) (hFyg b hc)⟩) (fun b hb hbd=>?_) (fun b hb=>?_) (fun b hb=>?_)
   . simp only[za]at hb;exact hb.imp id (hFyg b)
   . simp only[za]at hb;rcases hb with hb|hb
     . exact hFed b hb hbd
     . exact hdisj b (by rw[hFxe];simp[hbd]) (hFyg b hb)
   . simp only[za]at hb;rcases hb with hb|hb
     . exact hGmfree.fine hfx b hb
     . exact hGmfree.fine (hfree.fine hSy) b hb
   . simp only[za]at hb;rcases hb with hb|hb
     . exact hSxlt b hb
     . exact a2y hry b (.inr hb)
 | share =>
   obtain⟨Sy,hry,hSy,hg1F⟩:=hel;simp only[a6m,zd]at hrm;subst hrm;obtain⟨Sx',hrx',hSx'⟩:=b3V hrl;have hfx':=a1D (w':=w') hrx' fun b hb=>by
     simp only[zz]at hb;refine hold b (a2y hrx' b (.inr hb)) fun hbd=>?_;rcases hSx' b hb with hb|hb
     . exact hFed b hb hbd
     . exact(hfx b hb).1 (g1+1) (hdF b hbd)
   have hy:=a1D (w':=w') hry fun b hb=>by
     simp only[zz]at hb;refine hold b (a2y hry b (.inr hb)) fun hbd=>?_;exact(hfree b (hSy b hb).1 (g1+1)) (hdF b hbd)
   have hall:=(a0R xs ys _ _ _).2 ⟨us,us',[],[],Sx',Sy,rfl,rfl,rfl,hfx',hy⟩;simp only[zm]at hall;have hrep:=a2C (m := .shal) rfl (by simpa using hrow') hall;have h4:=a3b h3 (g1+1) (g1+2) (hn2 _ (by omega)) (hn2 _ (by omega)) hGm2 (by omega) hd' (fun b hb hb2=>hold b hb fun hh=>hb2 (by rw[hGm1,hFxe];simp[hh])) hbel (fun b hb=>by
     rw[hGm1,hFxe];exact(hhd b hb).imp (fun h=>by simp[h]) id) hhn hhlt
   have hSin:∀ b∈Sx'++Sy,b<w.heap.size:=fun b hb=>by
     simp only[za]at hb;rcases hb with hb|hb
     . exact a2y hrx' b (.inr hb)
     . exact a2y hry b (.inr hb)
   refine a3G hd run h4 (g1+2) (hn2 _ (by omega)) (by omega) hrep (by simpa using hhn) (fun b hb=>by rw[a0y];simpa[a0f]using hb) (fun b hb=>⟨fun p hp=>?_,fun hlt=>?_⟩) hk
   . have hlt:=hSin b hb;simp only[za]at hb;by_cases hp1:p=g1+2
     . subst hp1;rw[a0y]at hp;simp only[a0f]at hp;rcases hhd b hp with h5|h5
       . rcases hb with hb|hb
         . rcases hSx' b hb with h6|h6
           . exact hFed b h6 h5
           . exact(hfx b h6).1 (g1+1) (hdF b h5)
         . exact(hfree b (hSy b hb).1 (g1+1)) (hdF b h5)
       . omega
     . rw[a0z _ _ hp1]at hp;by_cases hp2:p=g1+1
       . subst hp2;rw[a0y]at hp;cases hp
       . rw[a0z _ _ hp2]at hp;simp only[Gm]at hp;rw[a0z _ _ hp2]at hp;by_cases hp3:p=g1
         . subst hp3;rw[a0y]at hp;cases hp
         . rw[a0z _ _ hp3]at hp;rcases hb with hb|hb
           . rcases hSx' b hb with h6|h6
             . have:=h2.r.disj p (g1+1) b hp (by rw[hFx,hFxe];simp[h6]);exact hp2 this
             . exact(hfx b h6).1 p hp
           . exact(hfree b (hSy b hb).1 p) hp
   . simp only[za]at hb;rcases hb with hb|hb
     . rcases hSx' b hb with h6|h6
       . rcases h2.r.own (g1+1) b (by rw[hFx,hFxe];simp[h6])with h7|h7
         . omega
         . exact E.ma b h7
       . exact(hfx b h6).2 hlt
     . exact(hSy b hb).2 hlt
theorem a9W {E:Env} {a:Act} {w:World} {c:Ctx} {e:TypeId} {t:Ty} {g0:Nat}:∀ (l:List Operand) (σ:St) (G:Nat->RG),Rel P E σ a w G->rget σ.rs g0=none->∀ (ys:List t.den) (σ':St),a3M c e t l σ=some (ys,σ') →
   ∃ G' us F S,Rel P E σ' a w G'/\(∀ p,rget σ.rs p=none->rget σ'.rs p=none)/\(∀ p,rget σ.rs p=none->p≠g0->G' p=G p)/\(∀ b∈(G g0).F,b∈(G' g0).F)/\RepL (Rep w t .deep) ys us F S/\F.Nodup/\(∀ b∈F,b∈(G' g0).F/\∃ p,p≠g0/\b∈(G p).F)/\Fine E G' S/\Free G G' ∧
     us=l.flatMap (fun x=>(a.eval x).cells.toList)/\ys.length=l.length/\∀ x∈l,(a.eval x).cells.size=t.sz:=by
 intro l;induction l with
 | nil =>
   intro σ G h _ ys σ' hk;simp only[a3M,zd,zg]at hk;obtain⟨rfl,rfl⟩:=hk;exact⟨G,[],[],[],h,fun _ hp=>hp,fun _ _ _=>rfl,fun _ hb=>hb,⟨rfl,rfl,rfl⟩,by simp,by simp,a1o _ _,fun _ hb=>hb,rfl,rfl,by simp⟩
 | cons x l ih =>
   intro σ G h hg0 ys σ' hk;simp only[a3M]at hk;split at hk
   . rename_i ag cs hsrc;split at hk
     case h_2=>cases hk
     rename_i y hy;split at hk
     case h_2=>cases hk
     rename_i zs σ2 hrec;simp only[zd,zg]at hk;obtain⟨rfl,rfl⟩:=hk;obtain⟨vs,S,hr,hsv,hf,hlt⟩:=a3d h hsrc;have hrep:=a0J hy hr;obtain⟨G',us,F,S2,k1,k2,k3,k4,k5,k6,k7,k8,k9,k10,k11,k12⟩:=ih σ G h hg0 zs σ2 hrec;have hcell:=a0e hr hsv;refine⟨G',vs++us,F,S++S2,k1,k2,k3,k4,⟨vs,us,[],F,S,S2,rfl,rfl,rfl,hrep,k5⟩,k6,k7,fun b hb=>?_,k9,by simp[hcell,k10],by simp[k11],fun z hz=>?_⟩
     . simp only[za]at hb;rcases hb with hb|hb
       . exact k9.fine hf b hb
       . exact k8 b hb
     . simp only[zk]at hz;rcases hz with rfl|hz
       . rw[hcell];simp[a0s hrep]
       . exact k12 z hz
   . rename_i q ag cs hsrc;split at hk
     case h_2=>cases hk
     rename_i y hy;split at hk
     case h_2=>cases hk
     rename_i zs σ2 hrec;simp only[zd,zg]at hk;obtain⟨rfl,rfl⟩:=hk;obtain⟨mem,F1,hq,hsv,hr,hFs,hFn,-⟩:=a5E h hsrc;have hrep:=a0J hy hr;have hcell:=a0e hr hsv;have hqg:q≠g0:=by rintro rfl;rw[hg0]at hq;cases hq
     have h1:=a8g h q g0 hg0 hqg;have hshr:=h.r.shr q _ hq;let G1:Nat->RG:=upG (upG G q noRG) g0 (a0f ((G g0).F++(G q).F));have hG1:∀ p b,b∈(G1 p).F->∃ p',b∈(G p').F:=by
       intro p b hb;by_cases hp:p=g0
       . subst hp;simp only[G1,a0y,a0f,za]at hb;exact hb.elim (fun h=>⟨_,h⟩) fun h=>⟨_,h⟩
       . simp only[G1]at hb;rw[a0z _ _ hp]at hb;by_cases hp2:p=q
         . subst hp2;rw[a0y]at hb;cases hb
         . rw[a0z _ _ hp2]at hb;exact⟨p,hb⟩
     have hfree1:Free G G1:=fun b hb p hp=>by
       obtain⟨p',h4⟩:=hG1 p b hp;exact hb p' h4
     have hab:∀ p,rget σ.rs p=none->rget (σ.del q).rs p=none:=fun p hp=>by
       simp only[St.del,a0D];split
       . rfl
       . exact hp
     obtain⟨G',us,F,S2,k1,k2,k3,k4,k5,k6,k7,k8,k9,k10,k11,k12⟩:=ih (σ.del q) G1 h1 (hab g0 hg0) zs σ2 hrec;have hF1g:∀ b∈F1,b∈(G1 g0).F:=fun b hb=>by simp only[G1,a0y,a0f];simp[hFs b hb]
     refine⟨G',(G q).vs++us,F1++F,(G q).S++S2,k1,fun p hp=>k2 p (hab p hp),fun p hp hpg=>?_,fun b hb=>k4 b ?_,⟨(G q).vs,us,F1,F,(G q).S,S2,rfl,rfl,rfl,hrep,k5⟩,?_,fun b hb=>?_,fun b hb=>?_,hfree1.trans k9,by simp[hcell,k10],by simp[k11],fun z hz=>?_⟩
     . have:p≠q:=by rintro rfl;rw[hp]at hq;cases hq
       rw[k3 p (hab p hp) hpg];simp only[G1];rw[a0z _ _ hpg,a0z _ _ this]
     . simp only[G1,a0y,a0f];simp[hb]
     . refine zb.2 ⟨hFn,k6,fun b hb c hc e=>?_⟩;subst e;obtain⟨p,hp,hbp⟩:=(k7 b hc).2;exact hp (h1.r.disj p g0 b hbp (hF1g b hb))
     . simp only[za]at hb;rcases hb with hb|hb
       . exact⟨k4 b (hF1g b hb),q,hqg,hFs b hb⟩
       . obtain⟨k13,p,hp,hbp⟩:=k7 b hb;refine⟨k13,p,hp,?_⟩;simp only[G1]at hbp;rw[a0z _ _ hp]at hbp;by_cases hp2:p=q
         . subst hp2;rw[a0y]at hbp;cases hbp
         . rw[a0z _ _ hp2]at hbp;exact hbp
     . simp only[za]at hb;rcases hb with hb|hb
       . exact k9.fine (hfree1.fine hshr) b hb
       . exact k8 b hb
     . simp only[zk]at hz;rcases hz with rfl|hz
       . rw[hcell];simp[a0s hrep]
       . exact k12 z hz
   . cases hk
theorem a5a {E:Env} {a:Act} {w:World} {c:Ctx} {e:TypeId} {t:Ty}:∀ (l:List Operand) (σ:St) (G:Nat->RG),Rel P E σ a w G->∀ (ys:List t.den) (σ':St),a4G c e t l σ=some (ys,σ') →
   ∃ G' us S,Rel P E σ' a w G'/\(∀ p,rget σ.rs p=none->rget σ'.rs p=none)/\(∀ p,rget σ.rs p=none->G' p=G p)/\RepL (Rep w t .sh) ys us [] S/\Fine E G' S/\Free G G' ∧
     us=l.flatMap (fun x=>(a.eval x).cells.toList)/\ys.length=l.length/\∀ x∈l,(a.eval x).cells.size=t.sz:=by
 intro l;induction l with
 | nil =>
   intro σ G h ys σ' hk;simp only[a4G,zd,zg]at hk;obtain⟨rfl,rfl⟩:=hk;exact⟨G,[],[],h,fun _ hp=>hp,fun _ _=>rfl,⟨rfl,rfl,rfl⟩,a1o _ _,fun _ hb=>hb,rfl,rfl,by simp⟩
 | cons x l ih =>
   intro σ G h ys σ' hk;simp only[a4G]at hk;split at hk
   . rename_i ag cs hsrc;split at hk
     case h_2=>cases hk
     rename_i y hy;split at hk
     case h_2=>cases hk
     rename_i zs σ2 hrec;simp only[zd,zg]at hk;obtain⟨rfl,rfl⟩:=hk;obtain⟨vs,S,hr,hsv,hf,hlt⟩:=a3d h hsrc;obtain⟨S0,hr0,hS0⟩:=a2k hr;have hrep:=a0J hy hr0;obtain⟨G',us,S2,k1,k2,k3,k5,k8,k9,k10,k11,k12⟩:=ih σ G h zs σ2 hrec;have hcell:=a0e hr hsv;refine⟨G',vs++us,S0++S2,k1,k2,k3,⟨vs,us,[],[],S0,S2,rfl,rfl,rfl,hrep,k5⟩,fun b hb=>?_,k9,by simp[hcell,k10],by simp[k11],fun z hz=>?_⟩
     . simp only[za]at hb;rcases hb with hb|hb
       . exact k9.fine hf b ((hS0 b hb).resolve_left (by simp))
       . exact k8 b hb
     . simp only[zk]at hz;rcases hz with rfl|hz
       . rw[hcell];simp[a0s hrep]
       . exact k12 z hz
   . split at hk
     case h_2=>cases hk
     rename_i r p n ag hev;split at hk
     . cases hk
     rename_i root hroot;split at hk
     case h_2=>cases hk
     rename_i y hy;split at hk
     case h_2=>cases hk
     rename_i zs σ2 hrec;simp only[zd,zg]at hk;obtain⟨rfl,rfl⟩:=hk;obtain⟨S1,A1,hx,-⟩:=a0q h x;rw[hev]at hx;obtain⟨rfl,rfl,y',ad,us0,hy',hp,hl,hnn,hsv⟩:=hx;rw[hroot]at hy';obtain rfl:=zc hy';obtain⟨F,S,hrep,hF,hS,-⟩:=a1H (h.r.roots r root hroot) (h.r.nodup r) hp hl;obtain⟨F1,F2,T1,T2,rfl,rfl,hr1,-⟩:=a0F n hrep;obtain⟨S0,hr0,hS0⟩:=a2k hr1;have hrepy:=a0J hy hr0;have hcell:=a0e hr1 hsv;have hok:=a5q (T:=S0) h.r hroot hr1 (fun b hb=>hF b (by simp[hb])) (fun b hb=>hS b (by simp[hb])) hS0;obtain⟨G1,hrel,hkeep,hfr⟩:=a3U [r] σ G h;have habs:∀ p,rget σ.rs p=none->p∉[r]:=by
       intro p hp hpr;simp only[zj]at hpr;subst hpr;rw[hroot]at hp;cases hp
     have hf1:Fine E G1 S0:=fun b hb=>by
       refine⟨fun q hq=>?_,(hok.lent b hb).1⟩;obtain⟨h4,h5⟩:=hfr q b hq;have hqr:=hok.read b hb q h4;obtain⟨_,h6,h7⟩:=(hok.lent b hb).2 q h4;exact h7 (h5 hqr h6)
     have hfree1:Free G G1:=fun b hb q hq=>hb q (hfr q b hq).1;have hab:∀ p,rget σ.rs p=none->rget (a4F [r] σ).rs p=none:=fun p hp=>by rw[(hkeep p (habs p hp)).2];exact hp
     obtain⟨G',us,S2,k1,k2,k3,k5,k8,k9,k10,k11,k12⟩:=ih (a4F [r] σ) G1 hrel zs σ2 hrec;refine⟨G',us0.take n++us,S0++S2,k1,fun p hp=>k2 p (hab p hp),fun p hp=>by rw[k3 p (hab p hp),(hkeep p (habs p hp)).1],⟨_,us,[],[],S0,S2,rfl,rfl,rfl,hrepy,k5⟩,fun b hb=>?_,hfree1.trans k9,by simp[hcell,k10],by simp[k11],fun z hz=>?_⟩
     . simp only[za]at hb;rcases hb with hb|hb
       . exact k9.fine hf1 b hb
       . exact k8 b hb
     . simp only[zk]at hz;rcases hz with rfl|hz
       . rw[hcell];simpa using a0s hrepy
       . exact k12 z hz
theorem a7h:∀ (l:List (Nat×Operand)) (i:Nat) (xs:List Operand),a3W i l=some xs->l=(xs.zipIdx i).map fun x=>(x.2,x.1):=by
 intro l;induction l with
 | nil=>intro i xs h;simp only[a3W,zd]at h;subst h;rfl
 | cons p l ih =>
   intro i xs h;obtain⟨j,x⟩:=p;simp only[a3W]at h;split at h
   . cases h
   rename_i hj _;split at h
   case h_2=>cases h
   rename_i ys hys;obtain rfl:=(zc h).symm;subst hj;rw[List.zipIdx_cons,zw,<-ih _ _ hys]
theorem b0j {w:World} {T e:TypeId} {i:TypeInfo} {z:Value} {sz:Nat} (hu:P.underlying T=some (.slice e)) (hi:P.info? e=some i) (hz:i.zero=some z) (hsz:i.size=sz) (hzs:z.cells.size=sz) (hpos:0<sz) {vs:List Value} {len:Nat} (hlen:vs.length=len) (hsmall:len*sz≤16384)
   (h1:∀ v∈vs,v.cells.size=sz) {parts:Array (Nat×Value)} (hp:parts.toList=(vs.zipIdx 0).map fun x=>(x.2,x.1)) :
   (Instr.buildSlice T len parts).run P w = .ok (.slice (some ⟨w.heap.size,0,none⟩) len len) (w.alloc (.cells (vs.flatMap fun v=>v.cells.toList).toArray e)):=by
 subst hsz;by_cases h0:len=0
 . subst h0;have hv:vs=[]:=zf hlen;subst hv;simp[Instr.buildSlice,run_underlying hu,sizeOf,typeInfo,hi,hp,Instr.fill,Go.newRow];congr 2;apply zR;simp
 . have hn:len*i.size≠0:=by
     have:=Nat.mul_pos (show 0<len by omega) hpos;omega
   refine run_buildSlice w T e len parts _ i z hu hi hz (by omega) hn ?_;rw[hp];exact Go.Great.fill_whole hpos vs _ h1 (by simp[hlen])
theorem a5i {E:Env} {R:Type} {o:Oper} {σ:St} {a:Act} {w:World} {G:Nat->RG} {k:St->Option R} {r:R} {c:Ctx} {T:TypeId} {len:Nat} {parts:Array (Nat×Operand)} (ho:o.op = .buildSlice T len parts) (ht:TabOK P c.tab)
   (h:Rel P E σ a w G) (hk:a1x c o T len parts.toList σ k=some r):Good P E o a w k r:=by
 unfold a1x at hk;split at hk
 case h_2=>cases hk
 rename_i d t e fs hd hT;split at hk
 . cases hk
 rename_i xs hxs;split at hk
 . cases hk
 rename_i hb;simp only[zq]at hb;have hlen:=zY hb.1;have hsmall:=zP hb.2;obtain⟨hu,ti,hti,rfl⟩:=ht.slice T t e fs hT;obtain⟨inf,hinf,hsz,hb0,hb1,hz⟩:=ht.info e ti hti;obtain⟨g1,hg1,hfresh⟩:=a3j h (4*d+1);have hparts:=a7h _ _ _ hxs;have finish:∀ (σ1:St) (G1:Nat->RG) (ys:List ti.t.den) (m:Mode) (us:List Value) (F S:List Nat),k (a5B σ1 d ti.t m ys)=some r->m.own=true->Rel P E σ1 a w G1->rget σ1.rs g1=none->rget σ1.rs (g1+1)=none->(G1 (g1+1)).F=[]->RepL (Rep w ti.t m.inn) ys us F S->F.Nodup->(∀ b∈F,b∈(G1 g1).F)->Fine E G1 S →
     us=xs.flatMap (fun x=>(a.eval x).cells.toList)->ys.length=xs.length->(∀ x∈xs,(a.eval x).cells.size=ti.t.sz)->Good P E o a w k r:=by
   intro σ1 G1 ys m us F S hk hown h1 hn1 hn2 hG2 hrl hFn hF hS hus hyl hx1;have hrun:=b0j (P:=P) (w:=w) hu hinf hz hsz (a3l ht hti) (a3O _) (vs:=xs.map a.eval) (len:=len) (by simpa using hlen) hsmall (by simpa using hx1) (parts:=parts.map fun x=>(x.1,a.eval x.2)) (by
     rw[zQ,hparts];simp[List.zipIdx_map,Function.comp_def])
   rw[List.flatMap_map]at hrun;rw[<-hus]at hrun;have run:(execOp a.eval o).run P w = .ok (.value (.slice (some ⟨w.heap.size,0,none⟩) len len)) (w.alloc (.cells us.toArray e)):=by
     simp only[execOp,ho,Sem.run_bind,hrun,Result.andThen_ok,Sem.run_pure]
   have hul:=a0Y hrl;have hlt:=a2y hrl;have hgr:=Grew.alloc w (.cells us.toArray e);have hrl':=a1D hrl (hgr.sameOn fun b hb=>hlt b (by simpa using hb));have hrow:Row (w.alloc (.cells us.toArray e)) ti.t.sz ys.length (.slice (some ⟨w.heap.size,0,none⟩) len len) us [w.heap.size]:=by
     have:ys.length=len:=by omega
     rw[this];refine .inr ⟨w.heap.size,_,e,[],len,rfl,rfl,a5s _ _,by simp,?_,?_,ze _⟩
     . simp only[zM,hul,this]
     . have:=Nat.le_mul_of_pos_right len (a3O ti.t);simp only[maxLen];omega
   have hrep:=a2C hown hrow hrl';have hFn':([w.heap.size]++F).Nodup:=by
     simp only[zD,zi];exact⟨fun hb=>by have:=hlt _ (.inl hb);omega,hFn⟩
   have h4:=a3b h1 g1 (g1+1) hn1 hn2 hG2 (by omega) ([w.heap.size]++F) (fun b hb _=>hgr.same b hb) hgr.base (fun b hb=>by
     simp only[zD,zk]at hb;rcases hb with rfl|hb
     . exact .inr (ze _)
     . exact .inl (hF b hb)) hFn' (fun b hb=>by
     simp only[zD,zk]at hb;have hz:(w.alloc (.cells us.toArray e)).heap.size=w.heap.size+1:=by simp
     rcases hb with rfl|hb
     . omega
     . have:=hlt b (.inl hb);omega)
   refine a3G hd run h4 (g1+1) hn2 (by omega) hrep hFn' (fun b hb=>by rw[a0y];exact hb) (fun b hb=>⟨fun p hp=>?_,(hS b hb).2⟩) hk;by_cases hp1:p=g1+1
   . subst hp1;rw[a0y]at hp;simp only[a0f,zD,zk]at hp;rcases hp with rfl|hp
     . have:=hlt _ (.inr hb);omega
     . exact(hS b hb).1 g1 (hF b hp)
   . rw[a0z _ _ hp1]at hp;by_cases hp2:p=g1
     . subst hp2;rw[a0y]at hp;cases hp
     . rw[a0z _ _ hp2]at hp;exact(hS b hb).1 p hp
 split at hk
 . rename_i ys σ1 hpd;obtain⟨G',us,F,S,k1,k2,k3,k4,k5,k6,k7,k8,k9,k10,k11,k12⟩:=a9W (g0:=g1) xs σ G h (hfresh g1 (ze _)).1 ys σ1 hpd;refine finish σ1 G' ys .deep us F S hk rfl k1 (k2 _ (hfresh _ (ze _)).1) (k2 _ (hfresh _ (by omega)).1) ?_ k5 k6 (fun b hb=>(k7 b hb).1) k8 k10 k11 k12;rw[k3 _ (hfresh _ (by omega)).1 (by omega)];exact(hfresh _ (by omega)).2
 . split at hk
   case h_2=>cases hk
   rename_i ys σ1 hps;obtain⟨G',us,S,k1,k2,k3,k5,k8,k9,k10,k11,k12⟩:=a5a xs σ G h ys σ1 hps;refine finish σ1 G' ys .shal us [] S hk rfl k1 (k2 _ (hfresh _ (ze _)).1) (k2 _ (hfresh _ (by omega)).1) ?_ k5 (by simp) (by simp) k8 k10 k11 k12;rw[k3 _ (hfresh _ (by omega)).1];exact(hfresh _ (by omega)).2
theorem b1O {E:Env} {R:Type} {o:Oper} {σ:St} {a:Act} {w:World} {G:Nat->RG} {k:St->Option R} {r:R} {cl:Call} {x y:Operand} {mx:Bool} (ho:o.op = .call cl) (hcl:cl.callee = .builtin (if mx=true then .max else .min)) (hargs:cl.args.toList=[x,y])
   (h:Rel P E σ a w G) (hk:mmK mx (a0x σ x) (a0x σ y) (fun t=>k (σ.put o.dst t))=some r):Good P E o a w k r:=by
 obtain⟨S1,A1,hx,-⟩:=a0q h x;obtain⟨S2,A2,hy,-⟩:=a0q h y;have hargs':cl.args=#[x,y]:=by rw[<-zo (xs:=cl.args),hargs]
 unfold mmK at hk;split at hk
 case h_2=>cases hk
 rename_i kx p ky q hax hay;have ex:=a1y hx hax;have ey:=a1y hy hay;cases mx with
 | true =>
   simp only[if_true]at hcl hk;have ho':o.op = .call { callee := .builtin .max,args:=#[x,y],argTypes:=cl.argTypes }:=by rw[ho,<-hcl,<-hargs']
   refine a0v (v := .int kx (if q>p then q else p)) (w':=w) ?_ (a0A h _ (a1E _ _ _ _ _) (Fine2.nil _ _)) hk;simp[execOp,ho',resolve,invoke,builtin,ex,ey,Builtin.max_,Builtin.max2]
 | false =>
   simp only[zA,if_false]at hcl hk;have ho':o.op = .call { callee := .builtin .min,args:=#[x,y],argTypes:=cl.argTypes }:=by rw[ho,<-hcl,<-hargs']
   refine a0v (v := .int kx (if q<p then q else p)) (w':=w) ?_ (a0A h _ (a1E _ _ _ _ _) (Fine2.nil _ _)) hk;simp[execOp,ho',resolve,invoke,builtin,ex,ey,Builtin.min_,Builtin.min2]
end Go.Vm
end
section
namespace Go.Vm
variable {P:Program}
theorem a7C {E:Env} {R:Type} {o:Oper} {σ:St} {a:Act} {w:World} {G:Nat->RG} {k:St->Option R} {r:R} {fn:Fn} {first caps:Array Operand} (ho:o.op = .makeFunc fn first caps)
   (h:Rel P E σ a w G) (hk:a2H o fn first.toList caps.toList σ k=some r):Good P E o a w k r:=by
 unfold a2H at hk;split at hk
 case h_2=>cases hk
 rename_i f hfirst;obtain⟨S,A,ht,hf⟩:=a6i h caps.toList;have hfe:first=#[]:=by
   cases first with
   | mk l=>simp at hfirst;rw[hfirst]
 refine a0v (v := .func (.func f) #[] (caps.toList.map a.eval).toArray) (w':=w) ?_ (a0A h o.dst (t := .fn f (caps.toList.map (a0x σ))) ⟨_,rfl,ht⟩ hf) hk;simp[execOp,ho,hfe,Instr.makeFunc,<-zQ]
theorem b3B {E:Env} {R:Type} {o:Oper} {σ:St} {a:Act} {w:World} {G:Nat->RG} {k:St->Option R} {r:R} {c:Ctx} {T:TypeId} {len:Nat} {parts:Array (Nat×Operand)} (ho:o.op = .buildSlice T len parts) (ht:TabOK P c.tab)
   (h:Rel P E σ a w G) (hk:litK c o T len parts.toList σ k=some r):Good P E o a w k r:=by
 unfold litK at hk;split at hk
 case h_2=>cases hk
 rename_i t e fs hT hpl;obtain⟨hu,ti,hti,rfl⟩:=ht.slice T t e fs hT;obtain⟨inf,hinf,hsz,hb0,hb1,hz⟩:=ht.info e ti hti;obtain⟨g1,hg1,hfresh⟩:=a3j h 0;have hrun:=b0j (P:=P) (w:=w) hu hinf hz hsz (a3l ht hti) (a3O _) (vs:=[]) (len:=0) rfl (by omega) (by simp) (parts:=parts.map fun x=>(x.1,a.eval x.2)) (by rw[zQ,hpl];rfl);have run:(execOp a.eval o).run P w = .ok (.value (.slice (some ⟨w.heap.size,0,none⟩) 0 0)) (w.alloc (.cells (([]:List Value).flatMap fun v=>v.cells.toList).toArray e)):=by
   simp only[execOp,ho,Sem.run_bind,hrun,Result.andThen_ok,Sem.run_pure]
 have hgr:=Grew.alloc w (.cells (([]:List Value).flatMap fun v=>v.cells.toList).toArray e);have h4:=a3b h g1 (g1+1) (hfresh _ (ze _)).1 (hfresh _ (by omega)).1 (hfresh _ (by omega)).2 (by omega) [] (fun b hb _=>hgr.same b hb) hgr.base (by simp) (by simp) (by simp);exact a0v run (a0A h4 o.dst (t := .val false [⟨.sl ti.t,.deep,[]⟩]) ⟨rfl,[_],⟨[_],[],[],[],[],[],rfl,rfl,rfl,⟨⟨_,rfl⟩,some ⟨w.heap.size,0,none⟩,0,rfl,ze _,.inl ⟨rfl,rfl,rfl,fun _=>rfl⟩⟩,⟨rfl,rfl,rfl⟩⟩,rfl⟩ (Fine2.nil _ _)) hk
theorem b1v {E:Env} {R:Type} {o:Oper} {σ:St} {a:Act} {w:World} {G:Nat->RG} {k:St->Option R} {r:R} {op:BinOp} {T T':TypeId} {x y:Operand} (ho:o.op = .binOp op T x y T')
   (h:Rel P E σ a w G) (hk:b0A op (a0x σ x) (a0x σ y) (fun t=>k (σ.put o.dst t))=some r):Good P E o a w k r:=by
 obtain⟨S1,A1,hx,-⟩:=a0q h x;obtain⟨S2,A2,hy,-⟩:=a0q h y;unfold b0A at hk;split at hk
 case h_2=>cases hk
 rename_i kx av ky bv hax hay;have ex:=a1y hx hax;have ey:=a1y hy hay;split at hk
 . cases hk
 rename_i hb;split at hk
 . exact a0v (by simp[execOp,ho,ex,ey,eqGuard,Go.binOp,Op.shift,hb]) (a0A h _ (a1E _ _ _ _ _) (Fine2.nil _ _)) hk
 . exact a0v (by simp[execOp,ho,ex,ey,eqGuard,Go.binOp,Op.shift,hb]) (a0A h _ (a1E _ _ _ _ _) (Fine2.nil _ _)) hk
 . cases hk
theorem a8F {E:Env} {R:Type} {o:Oper} {σ:St} {a:Act} {w:World} {G:Nat->RG} {k:St->Option R} {r:R} {c:Ctx} {S T:TypeId} {x:Operand} (ho:o.op = .convert S T x) (ht:TabOK P c.tab)
   (h:Rel P E σ a w G) (hk:a3z c S T (a0x σ x) (fun t=>k (σ.put o.dst t))=some r):Good P E o a w k r:=by
 obtain⟨S1,A1,hx,-⟩:=a0q h x;unfold a3z at hk;split at hk
 case h_2=>cases hk
 rename_i k1 e1 f1 kd e2 f2 k3 n hS hT hax;have ex:=a1y hx hax;have u1:=ht.int S k1 e1 f1 hS;have u2:=ht.int T kd e2 f2 hT;exact a0v (by simp[execOp,ho,ex,convert,run_underlying u1,run_underlying u2,Conv.intToInt]) (a0A h _ (a1E _ _ _ _ _) (Fine2.nil _ _)) hk
theorem a9U {E:Env} {σ:St} {a:Act} {w:World} {G:Nat->RG} (h:Rel P E σ a w G) {cs pcs:List Cell} {x:Operand} (hk:a7g σ cs x=some pcs):∃ vs S,a0K w pcs vs [] S/\Fine2 E G S S/\(a.eval x).cells=vs.toArray:=by
 unfold a7g at hk;split at hk
 . rename_i hn;have:=a4Q hn;subst this;split at hk
   . rename_i t m y rest;obtain rfl:=zc hk;refine⟨[.slice none 0 0],[],⟨_,[],[],[],[],[],rfl,rfl,rfl,⟨⟨_,rfl⟩,none,0,rfl,ze _,.inl ⟨rfl,rfl,rfl,fun _=>rfl⟩⟩,⟨rfl,rfl,rfl⟩⟩,Fine2.nil _ _,rfl⟩
   . cases hk
 . split at hk
   . rename_i ag pc he;obtain rfl:=zc hk;obtain⟨S,A,hx,hf⟩:=a0q h x;rw[he]at hx;obtain⟨rfl,vs,hr,hs⟩:=hx;exact⟨vs,_,hr,hf,a0e hr hs⟩
   . cases hk
theorem a8K (off:Nat) (vs:List Value) (arr:Array Value) (h:off+vs.length≤arr.size):(vs.zipIdx).foldl (fun cs (x:Value×Nat)=>cs.setIfInBounds (off+x.2) x.1) arr=(arr.toList.take off++(vs++arr.toList.drop (off+vs.length))).toArray:=by
 obtain⟨h1,h2⟩:=Go.Great.foldl_set off vs 0 arr;refine Array.ext_getElem? fun k=>?_;rw[show vs.zipIdx=vs.zipIdx 0 from rfl,h2 k];simp only[List.getElem?_toArray,zH,List.getElem?_append,zu,zr,z4,List.getElem?_drop];by_cases h3:k<off
 . rw[if_neg (by omega),if_pos (by omega),if_pos h3,zZ]
 . rw[if_neg (show ¬ k<min off arr.size by omega),show min off arr.size=off by omega];by_cases h4:k<off+vs.length
   . rw[if_pos (by omega),if_pos (by omega)]
   . rw[if_neg (by omega),if_neg (by omega),zZ];congr 1;omega
theorem b2O {E:Env} {σ:St} {a:Act} {w:World} {G:Nat->RG} {i:TInfo} {places:Array (Nat×Nat)} (h:Rel P E σ a w G) (hp:∀ (f off sz:Nat) (ag:Bool),i.fs[f]? = some (off,sz,ag)->places[f]? = some (off,sz)):∀ (parts:List (Nat×Operand)) (cs cs':List Cell) (vs:List Value) (S:List Nat),
   putF i σ parts cs=some cs'->a0K w cs vs [] S->Fine2 E G S S →
   ∃ vs' S',Instr.fill (places[·]?) vs.toArray (parts.map fun x=>(x.1,a.eval x.2))=some vs'.toArray/\a0K w cs' vs' [] S'/\Fine2 E G S' S':=by
 intro parts;induction parts with
 | nil =>
   intro cs cs' vs S hk hr hf;simp only[putF,zd]at hk;subst hk;exact⟨vs,S,rfl,hr,hf⟩
 | cons p parts ih =>
   obtain⟨f,x⟩:=p;intro cs cs' vs S hk hr hf;simp only[putF]at hk;split at hk
   . cases hk
   rename_i off sz ag hfs;split at hk
   . cases hk
   rename_i pcs hpc;split at hk
   case h_2=>cases hk
   rename_i hl hle _ _;have hfs':i.fs[f]? = some (off,sz,ag):=by
     rw[a0m]at hfs;cases hq:i.fs[f]? with
     | none=>simp[hq]at hfs
     | some q=>simp[hq]at hfs;rw[hfs]
   obtain⟨us,S1,hu,hf1,hcell⟩:=a9U h hpc;have hul:us.length=sz:=by rw[a0k hu];exact hl
   have hvl:vs.length=cs.length:=a0k hr;obtain⟨S2,ht,hs2⟩:=a2B off hr;obtain⟨S3,hd,hs3⟩:=a5P (off+sz) hr;have hnew:=a0M ht (a0M hu hd);simp only[zm,zz]at hnew;have hfn:Fine2 E G (S2++(S1++S3)) (S2++(S1++S3)):=⟨fun b hb=>by
     simp only[za]at hb;rcases hb with hb|hb|hb
     . exact hf.free b (hs2 b hb)
     . exact hf1.free b hb
     . exact hf.free b (hs3 b hb),fun b hb=>by
     simp only[za]at hb;rcases hb with hb|hb|hb
     . exact hf.inA b (hs2 b hb)
     . exact hf1.inA b hb
     . exact hf.inA b (hs3 b hb)⟩
   obtain⟨vs',S',k1,k2,k3⟩:=ih _ cs' _ _ hk hnew hfn;refine⟨vs',S',?_,k2,k3⟩;simp only[zw,Instr.fill,hp f off sz ag hfs',hcell];rw[if_neg (by simp[hul];omega)];have:=a8K off us vs.toArray (by simp;omega);rw[show(us.toArray.zipIdx.foldl (fun cs x=>cs.setIfInBounds (off+x.2) x.1) vs.toArray)=us.zipIdx.foldl (fun cs x=>cs.setIfInBounds (off+x.2) x.1) vs.toArray by simp,this];simpa[hul]using k1
theorem b0n {E:Env} {σ:St} {a:Act} {w:World} {G:Nat->RG} (h:Rel P E σ a w G) {cs:List Cell} {x:Operand} {q:TV×Nat} (hk:a9V σ cs x=some q):∃ (S A:List Nat) (us:List Value),TRep P σ.rs G w q.1 (a.eval x) S A/\Fine2 E G S A/\(a.eval x).cells=us.toArray/\us.length=q.2:=by
 unfold a9V at hk;split at hk
 . rename_i hn;have:=a4Q hn;subst this;split at hk
   . rename_i t m y rest;obtain rfl:=zc hk;exact⟨[],[],[.slice none 0 0],⟨rfl,[.slice none 0 0],⟨_,[],[],[],[],[],rfl,rfl,rfl,⟨⟨_,rfl⟩,none,0,rfl,ze _,.inl ⟨rfl,rfl,rfl,fun _=>rfl⟩⟩,⟨rfl,rfl,rfl⟩⟩,rfl⟩,Fine2.nil _ _,rfl,rfl⟩
   . cases hk
 . obtain⟨S,A,hx,hf⟩:=a0q h x;split at hk
   . rename_i ag pc he;obtain rfl:=zc hk;rw[he]at hx;have hx':=hx;obtain⟨rfl,vs,hr,hs⟩:=hx;exact⟨_,_,vs,hx',hf,a0e hr hs,a0k hr⟩
   . rename_i r p n ag he;obtain rfl:=zc hk;rw[he]at hx;have hx':=hx;obtain⟨rfl,rfl,root,ad,us,hroot,hp,hl,hn,hs⟩:=hx;obtain⟨F,S,hrep,-⟩:=a1H (h.r.roots r root hroot) (h.r.nodup r) hp hl;obtain⟨F1,F2,S1,S2,-,-,hr1,-⟩:=a0F n hrep;exact⟨_,_,us.take n,hx',hf,a0e hr1 hs,by simp;omega⟩
   . cases hk
theorem b1g {E:Env} {σ:St} {a:Act} {w:World} {G:Nat->RG} {i:TInfo} {places:Array (Nat×Nat)} (h:Rel P E σ a w G) (hp:∀ (f off sz:Nat) (ag:Bool),i.fs[f]? = some (off,sz,ag)->places[f]? = some (off,sz)) {cs:List Cell}:∀ (parts:List (Nat×Operand)) (j:Nat) (ts:List TV) (v1 v2:List Value),
   aggT i σ cs j parts=some ts->v1.length=j->v1.length+v2.length=cs.length →
   ∃ vs S A,a1A P σ.rs G w ts vs S A/\Fine2 E G S A/\Instr.fill (places[·]?) (v1++v2).toArray (parts.map fun x=>(x.1,a.eval x.2))=some (v1++vs.flatMap fun v=>v.cells.toList).toArray:=by
 intro parts;induction parts with
 | nil =>
   intro j ts v1 v2 hk h1 h2;simp only[aggT]at hk;split at hk
   case h_2=>cases hk
   rename_i hj _;obtain rfl:=zc hk;have:v2=[]:=zf (by omega);subst this;exact⟨[],[],[],⟨rfl,rfl,rfl⟩,Fine2.nil _ _,by simp[Instr.fill]⟩
 | cons p parts ih =>
   obtain⟨f,x⟩:=p;intro j ts v1 v2 hk h1 h2;simp only[aggT]at hk;split at hk
   . cases hk
   rename_i off sz ag hfs;split at hk
   . cases hk
   rename_i q hpc;split at hk
   case h_2=>cases hk
   rename_i ho hl hle _ _ _;split at hk
   case h_2=>cases hk
   rename_i ts' hts;obtain rfl:=zc hk;subst ho;have hfs':i.fs[f]? = some (off,sz,ag):=by
     rw[a0m]at hfs;cases hq:i.fs[f]? with
     | none=>simp[hq]at hfs
     | some q=>simp[hq]at hfs;rw[hfs]
   obtain⟨S1,A1,us,hu,hf1,hcell,hul⟩:=b0n h hpc;rw[hl]at hul;obtain⟨vs,S2,A2,k1,k2,k3⟩:=ih (off+sz) ts' (v1++us) (v2.drop sz) hts (by simp[h1,hul]) (by simp;omega);refine⟨a.eval x::vs,S1++S2,A1++A2,⟨_,_,_,_,_,_,rfl,rfl,rfl,hu,k1⟩,⟨fun b hb=>?_,fun b hb=>?_⟩,?_⟩
   . rcases za.1 hb with hb|hb
     . exact hf1.free b hb
     . exact k2.free b hb
   . rcases za.1 hb with hb|hb
     . exact hf1.inA b hb
     . exact k2.inA b hb
   simp only[zw,Instr.fill,hp f off sz ag hfs',hcell];rw[if_neg (by simp[hul];omega)];have:=a8K off us (v1++v2).toArray (by simp;omega);rw[show(us.toArray.zipIdx.foldl (fun cs x=>cs.setIfInBounds (off+x.2) x.1) (v1++v2).toArray)=us.zipIdx.foldl (fun cs x=>cs.setIfInBounds (off+x.2) x.1) (v1++v2).toArray by simp,this];have e1:(v1++v2).take off=v1:=by rw[<-h1];simp
   have e2:(v1++v2).drop (off+us.length)=v2.drop sz:=by rw[<-h1,hul,List.drop_append];simp
   simp only[List.toList_toArray,e1,e2];rw[<-z6,k3];simp[hcell]
theorem b2P {E:Env} {a:Act} {w:World} {c:Ctx} {i:TInfo} {g0:Nat} {places:Array (Nat×Nat)} (hp:∀ (f off sz:Nat) (ag:Bool),i.fs[f]? = some (off,sz,ag)->places[f]? = some (off,sz)):∀ (parts:List (Nat×Operand)) (cs cs':List Cell) (σ σ':St) (G:Nat->RG) (vs:List Value) (F S:List Nat),
   Rel P E σ a w G->rget σ.rs g0=none->putO c i parts cs σ=some (cs',σ')->a0K w cs vs F S->F.Nodup->(∀ b∈F,b∈(G g0).F)->Fine E G S →
   ∃ G' vs' F' S',Rel P E σ' a w G'/\rget σ'.rs g0=none/\Instr.fill (places[·]?) vs.toArray (parts.map fun x=>(x.1,a.eval x.2))=some vs'.toArray/\a0K w cs' vs' F' S'/\F'.Nodup/\(∀ b∈F',b∈(G' g0).F)/\Fine E G' S':=by
 intro parts;induction parts with
 | nil =>
   intro cs cs' σ σ' G vs F S h hg hk hr hn hF hS;simp only[putO,zd,zg]at hk;obtain⟨rfl,rfl⟩:=hk;exact⟨G,vs,F,S,h,hg,rfl,hr,hn,hF,hS⟩
 | cons p parts ih =>
   obtain⟨f,x⟩:=p;intro cs cs' σ σ' G vs F S h hg hk hr hn hF hS;simp only[putO]at hk;split at hk
   . cases hk
   rename_i off sz ag hfs;split at hk
   . cases hk
   rename_i q hpc;split at hk
   case h_2=>cases hk
   rename_i hl hle _ _;have hfs':i.fs[f]? = some (off,sz,ag):=by
     rw[a0m]at hfs;cases hq:i.fs[f]? with
     | none=>simp[hq]at hfs
     | some q=>simp[hq]at hfs;rw[hfs]
   obtain⟨Fa,Fb,Sa,Sb,rfl,rfl,hA,hB⟩:=a0F off hr;obtain⟨Fc,Fd,Sc,Sd,rfl,rfl,-,hD⟩:=a0F sz hB;rw[yf,yf]at hD;have hvl:vs.length=cs.length:=a0k hr;have hn1:(Fa++Fd).Nodup:=by
     obtain⟨n1,n2,n3⟩:=zb.1 hn;obtain⟨-,m2,-⟩:=zb.1 n2;exact zb.2 ⟨n1,m2,fun b hb c hc=>n3 b hb c (by simp[hc])⟩
   have step:∀ (σ1:St) (G1:Nat->RG) (us:List Value) (Fp Sp:List Nat),Rel P E σ1 a w G1->rget σ1.rs g0=none->putO c i parts (cs.take off++(q.1++cs.drop (off+sz))) σ1=some (cs',σ')->a0K w q.1 us Fp Sp->(a.eval x).cells=us.toArray->Fp.Nodup->(∀ b∈Fp,b∈(G1 g0).F/\b∉(G g0).F)->Fine E G1 Sp->Free G G1->(∀ b∈(G g0).F,b∈(G1 g0).F) →
       ∃ G' vs' F' S',Rel P E σ' a w G'/\rget σ'.rs g0=none/\Instr.fill (places[·]?) vs.toArray (((f,x)::parts).map fun x=>(x.1,a.eval x.2))=some vs'.toArray/\a0K w cs' vs' F' S'/\F'.Nodup/\(∀ b∈F',b∈(G' g0).F)/\Fine E G' S':=by
     intro σ1 G1 us Fp Sp h1 hg1 hk1 hu hcell hnp hFp hSp hfree hG;have hul:us.length=sz:=by rw[a0k hu];exact hl
     have hnew:=a0M hA (a0M hu hD);obtain⟨G',vs',F',S',k0,k1,k2,k3,k4,k5,k6⟩:=ih _ cs' σ1 σ' G1 _ _ _ h1 hg1 hk1 hnew (by
       obtain⟨n1,n2,n3⟩:=zb.1 hn1;refine zb.2 ⟨n1,zb.2 ⟨hnp,n2,fun b hb c hc e=>?_⟩,fun b hb c hc e=>?_⟩
       . subst e;exact(hFp b hb).2 (hF b (by simp[hc]))
       . subst e;simp only[za]at hc;rcases hc with hc|hc
         . exact(hFp b hc).2 (hF b (by simp[hb]))
         . exact n3 b hb b hc rfl) (fun b hb=>by
       simp only[za]at hb;rcases hb with hb|hb|hb
       . exact hG b (hF b (by simp[hb]))
       . exact(hFp b hb).1
       . exact hG b (hF b (by simp[hb]))) (fun b hb=>by
       simp only[za]at hb;rcases hb with hb|hb|hb
       . exact hfree.fine hS b (by simp[hb])
       . exact hSp b hb
       . exact hfree.fine hS b (by simp[hb]))
     refine⟨G',vs',F',S',k0,k1,?_,k3,k4,k5,k6⟩;simp only[zw,Instr.fill,hp f off sz ag hfs',hcell];rw[if_neg (by simp[hul];omega)];have:=a8K off us vs.toArray (by simp;omega);rw[show(us.toArray.zipIdx.foldl (fun cs x=>cs.setIfInBounds (off+x.2) x.1) vs.toArray)=us.zipIdx.foldl (fun cs x=>cs.setIfInBounds (off+x.2) x.1) vs.toArray by simp,this];simpa[hul]using k2
   unfold a2J at hpc;split at hpc
   . rename_i hnil;have:=a4Q hnil;subst this;split at hpc
     . rename_i t m y rest hcs;obtain rfl:=zc hpc;exact step σ G [.slice none 0 0] [] [] h hg hk ⟨_,[],[],[],[],[],rfl,rfl,rfl,⟨⟨_,rfl⟩,none,0,rfl,ze _,.inl ⟨rfl,rfl,rfl,fun _=>rfl⟩⟩,⟨rfl,rfl,rfl⟩⟩ rfl (by simp) (by simp) (a1o _ _) (fun b hb=>hb) (fun b hb=>hb)
     . cases hpc
   . split at hpc
     . rename_i ag2 pcs hs;obtain rfl:=zc hpc;obtain⟨us,S1,hu,hsv,hf1,-⟩:=a3d h hs;exact step σ G us [] S1 h hg hk hu (a0e hu hsv) (by simp) (by simp) hf1 (fun b hb=>hb) (fun b hb=>hb)
     . rename_i q2 ag2 pcs hs;obtain rfl:=zc hpc;obtain⟨mem,F1,hq,hsv,hu,hFs,hFn,-⟩:=a5E h hs;have hqg:q2≠g0:=by rintro rfl;rw[hg]at hq;cases hq
       have h1:=a8g h q2 g0 hg hqg;have hG1:∀ p b,b∈((upG (upG G q2 noRG) g0 (a0f ((G g0).F++(G q2).F))) p).F->∃ p',b∈(G p').F:=by
         intro p b hb;by_cases hpg:p=g0
         . subst hpg;simp only[a0y,a0f,za]at hb;exact hb.elim (fun h=>⟨_,h⟩) fun h=>⟨_,h⟩
         . rw[a0z _ _ hpg]at hb;by_cases hp2:p=q2
           . subst hp2;rw[a0y]at hb;cases hb
           . rw[a0z _ _ hp2]at hb;exact⟨p,hb⟩
       have hfree:Free G (upG (upG G q2 noRG) g0 (a0f ((G g0).F++(G q2).F))):=fun b hb p hpb=>by
         obtain⟨p',h4⟩:=hG1 p b hpb;exact hb p' h4
       refine step (σ.del q2) _ (G q2).vs F1 (G q2).S h1 ?_ hk hu (a0e hu hsv) hFn (fun b hb=>⟨by simp[a0y,a0f,hFs b hb],fun hb2=>hqg (h.r.disj q2 g0 b (hFs b hb) hb2)⟩) (hfree.fine (h.r.shr q2 _ hq)) hfree (fun b hb=>by simp[a0y,a0f,hb]);simp only[St.del,a0D];split
       . rfl
       . exact hg
     . cases hpc
theorem b4N {α β:Type} {g:α->Sem β} {f:α->β} {w:World}:∀ (l:List α),(∀ x∈l,(g x).run P w = .ok (f x) w)->(l.mapM g).run P w = .ok (l.map f) w:=by
 intro l;induction l with
 | nil=>intro _;simp
 | cons x l ih =>
   intro h;rw[List.mapM_cons];simp[Sem.run_bind,h x (by simp),ih fun y hy=>h y (by simp[hy])]
theorem b3G {α β:Type} {g:α->Sem β} {f:α->β} {w:World} (l:Array α) (h:∀ x∈l,(g x).run P w = .ok (f x) w):(l.mapM g).run P w = .ok (l.map f) w:=by
 rw[Array.mapM_eq_mapM_toList];have:=b4N (P:=P) (w:=w) (g:=g) (f:=f) l.toList (fun x hx=>h x (by simpa using hx));simp only[←bind_pure_comp,Sem.run_bind,this];simp[←zQ]
theorem a9k {c:Ctx} {o:Oper} {a:Act} {w:World} {T:TypeId} {parts:Array (Nat×Operand)} (ho:o.op = .build T parts) (ht:TabOK P c.tab) {t:Ty} {e:TypeId} {f0:Nat×Nat×Bool} {fs:List (Nat×Nat×Bool)} (hT:c.tab T=some ⟨true,t,e,f0::fs⟩) :
   ∃ places:Array (Nat×Nat),(∀ (f off sz:Nat) (ag:Bool),(f0::fs)[f]? = some (off,sz,ag)->places[f]? = some (off,sz)) ∧
     ∀ vs',Instr.fill (places[·]?) (zvs t).toArray (parts.toList.map fun x=>(x.1,a.eval x.2))=some vs'->(execOp a.eval o).run P w = .ok (.value (.agg vs')) w:=by
 obtain⟨fields,hu,hfl⟩:=ht.flds T _ hT (by simp);obtain⟨inf,hinf,hsz,-,-,hz⟩:=ht.info T _ hT;have hfd:∀ (f:Nat) (fd:Field),fields[f]? = some fd->∃ ag inf,(f0::fs)[f]? = some (fd.offset,inf.size,ag)/\P.info? fd.type=some inf:=by
   intro f fd hf;have hlt:f<fields.size:=(Array.getElem?_eq_some_iff.1 hf).1;have hlt2:f<(f0::fs).length:=by rw[<-hfl];exact hlt
   obtain⟨⟨off,sz,ag⟩,hq'⟩:∃ q,(f0::fs)[f]? = some q:=⟨_,List.getElem?_eq_getElem hlt2⟩;obtain⟨fields',fd',d,k1,k2,k3,⟨inf,k4,k5⟩,-⟩:=ht.field T _ f off sz ag hT hq';rw[hu]at k1;obtain rfl:fields=fields':=by simpa using k1
   rw[hf]at k2;obtain rfl:=zc k2;exact⟨ag,inf,by rw[hq',k3,k5],k4⟩
 have hrun:=b3G (P:=P) (w:=w) (g:=fun f:Field=>Prod.mk f.offset <$> sizeOf f.type) (f:=fun f=>(f.offset,(((P.info? f.type).map (·.size)).getD 0))) fields fun fd hfdm=>by
   obtain⟨f,hf⟩:=Array.getElem?_of_mem hfdm;obtain⟨ag,inf,-,hi⟩:=hfd f fd hf;simp[←bind_pure_comp,sizeOf,typeInfo,hi]
 have hpl:∀ (f off sz:Nat) (ag:Bool),(f0::fs)[f]? = some (off,sz,ag)->(fields.map fun f=>(f.offset,(((P.info? f.type).map (·.size)).getD 0)))[f]? = some (off,sz):=fun f off sz ag hq=>by
   have hlt:f<fields.size:=by rw[hfl];exact(List.getElem?_eq_some_iff.1 hq).1
   obtain⟨ag',inf,hq2,hi⟩:=hfd f fields[f] (zV hlt);rw[hq2]at hq;simp only[zd,zg]at hq;obtain⟨rfl,rfl,rfl⟩:=hq;simp[zV hlt,hi]
 have hzc:=a2z ht hT;refine⟨_,hpl,fun vs' k1=>?_⟩;simp only[Array.getElem?_map]at k1;simp only[execOp,ho,Sem.run_bind,Instr.build,zeroValue,typeInfo,hinf,hz,run_underlying hu,hrun,hzc];simp[hinf,hz,hrun,hzc,k1,run_underlying hu]
theorem a9w {E:Env} {R:Type} {o:Oper} {σ:St} {a:Act} {w:World} {G:Nat->RG} {k:St->Option R} {r:R} {c:Ctx} {T:TypeId} {parts:Array (Nat×Operand)} (ho:o.op = .build T parts) (ht:TabOK P c.tab)
   (h:Rel P E σ a w G) (hk:a6F c o T parts.toList σ k=some r):Good P E o a w k r:=by
 unfold a6F at hk;split at hk
 case h_2=>cases hk
 rename_i t e f0 fs hT;obtain⟨places,hpl,run⟩:=a9k (a:=a) (w:=w) ho ht hT;split at hk
 case h_2=>cases hk
 rename_i ts hts;have hr0:=(a0n w .deep t t.dflt _ _ _).1 (a2X w t .deep);obtain⟨vs,S,A,k1,k2,k3⟩:=b1g (i:=⟨true,t,e,f0::fs⟩) h hpl parts.toList 0 ts [] (zvs t) hts rfl (by rw[<-a0k hr0];simp);exact a0v (run _ (by simpa using k3)) (a0A h o.dst (t := .tup .a ts) ⟨vs,rfl,k1⟩ k2) hk
theorem b0Q {E:Env} {R:Type} {o:Oper} {σ:St} {a:Act} {w:World} {G:Nat->RG} {k:St->Option R} {r:R} {c:Ctx} {T:TypeId} {parts:Array (Nat×Operand)} (ho:o.op = .build T parts) (ht:TabOK P c.tab)
   (h:Rel P E σ a w G) (hk:a4g c o T parts.toList σ k=some r):Good P E o a w k r:=by
 unfold a4g at hk;split at hk
 case h_2=>cases hk
 rename_i t e f0 fs hT;obtain⟨places,hpl,run⟩:=a9k (a:=a) (w:=w) ho ht hT;split at hk
 . rename_i cs hsh;have hcs:putF ⟨true,t,e,f0::fs⟩ σ parts.toList (enc .deep t t.dflt)=some cs:=by
     unfold a2x at hsh;split at hsh
     . rename_i cs' he;split at hsh
       . rw[he];exact hsh
       . cases hsh
     . cases hsh
   have hr0:=(a0n w .deep t t.dflt _ _ _).1 (a2X w t .deep);obtain⟨vs',S',k1,k2,k3⟩:=b2O (i:=⟨true,t,e,f0::fs⟩) h hpl parts.toList _ cs _ _ hcs hr0 (Fine2.nil _ _);exact a0v (run _ k1) (a0A h o.dst (t := .val true cs) ⟨rfl,vs',k2,rfl⟩ k3) hk
 . split at hk
   case h_2=>cases hk
   rename_i d q hd hcs;obtain⟨g1,hg1,hfresh⟩:=a3j h (4*d+1);have hr0:=(a0n w .deep t t.dflt _ _ _).1 (a2X w t .deep);obtain⟨G',vs',F',S',j1,j2,j3,j4,j5,j6,j7⟩:=b2P (i:=⟨true,t,e,f0::fs⟩) (g0:=g1) hpl parts.toList _ q.1 σ q.2 G _ _ _ h (hfresh g1 (ze _)).1 hcs hr0 (by simp) (by simp) (a1o _ _);have hroot:a0S w ⟨false,q.1⟩ ⟨vs',none,F',S'⟩:=⟨F',j4,.inl ⟨rfl,rfl,rfl⟩⟩;have h1:=a5e j1 g1 (4*d) j2 (by omega) _ _ hroot j5 j6 fun b hb=>a2S j7 (by simpa using hb);have hlen:=a0k j4;refine a0v (run _ j3) (a0A h1 o.dst (t := .view (4*d) (.root 0) q.1.length true) ⟨rfl,rfl,_,_,vs',by rw[St.new,a0j,if_pos rfl],z8 _,by rw[a0y];exact a2g,by omega,?_⟩ (Fine2.nil _ _)) ?_
   . rw[zX (by omega)];rfl
   . rw[hd];exact hk
theorem a2Q {E:Env} {σ:St} {a:Act} {w:World} {G:Nat->RG} (h:Rel P E σ a w G) {x:Option Operand} {d n:Int} (hk:a4D σ x d=some n) (y:Nat) (code:BoundsCode) (h0:0≤n) (h1:n≤y) :
   (x=none/\n=d)∨∃ z,x=some z/\(Instr.sliceBound (a.eval z) y code).run P w = .ok n.toNat w:=by
 cases x with
 | none=>simp only[a4D,zd]at hk;exact .inl ⟨rfl,hk.symm⟩
 | some z =>
   simp only[a4D]at hk;split at hk
   case h_2=>cases hk
   rename_i kk m hm;obtain rfl:=zc hk;obtain⟨S1,A1,hx,-⟩:=a0q h z;have ex:=a1y hx hm;exact .inr ⟨z,rfl,by simp[Instr.sliceBound,ex,asIntOf,h0,h1]⟩
theorem a9P {E:Env} {σ:St} {a:Act} {w:World} {G:Nat->RG} (h:Rel P E σ a w G) {x:Operand} (hn:a9O σ x=true):∀ cs,a.eval x ≠ .agg cs:=by
 unfold a9O at hn;split at hn
 . rename_i hx;have:=a4Q hx;subst this;intro cs hc;cases hc
 . obtain⟨S1,A1,hx,-⟩:=a0q h x;split at hn
   . rename_i ag he;rw[he]at hx;obtain⟨rfl,vs,hr,hs⟩:=hx;intro cs hc;simp only[a0E,zA,if_false]at hs;exact(a2i hr (a.eval x) (by rw[hs];simp)).2 cs hc
   . rename_i r p n he;rw[he]at hx;obtain⟨rfl,rfl,root,ad,us0,hroot,hp,hl,hnn,hs⟩:=hx;obtain⟨F,S,hrep,-⟩:=a1H (h.r.roots r root hroot) (h.r.nodup r) hp hl;intro cs hc;simp only[a0E,zA,if_false]at hs;exact(a2i hrep (a.eval x) (z1 (i:=n) (by rw[hs];simp))).2 cs hc
   . cases hn
theorem b1j {E:Env} {R:Type} {o:Oper} {σ:St} {a:Act} {w:World} {G:Nat->RG} {k:St->Option R} {r:R} {c:Ctx} {T:TypeId} {x:Operand} {lo hi mx:Option Operand} (ho:o.op = .slice T x lo hi mx) (ht:TabOK P c.tab)
   (h:Rel P E σ a w G) (hk:a6s c o T x lo hi mx σ k=some r):Good P E o a w k r:=by
 unfold a6s at hk;split at hk
 case h_2=>cases hk
 rename_i t e fs hna0 hT;have hna:=a9P h hna0;split at hk
 case h_2=>cases hk
 rename_i xs σ1 hps;split at hk
 case h_2=>cases hk
 rename_i l hh hlo hhi;split at hk
 case isFalse=>cases hk
 rename_i hb;obtain⟨b0,b1,b2⟩:=hb;obtain⟨hu,ti,hti,rfl⟩:=ht.slice T t e fs hT;obtain⟨inf,hinf,hsz,-⟩:=ht.info e ti hti;obtain⟨G',us,S,h1,-,-,hrl,hfine,-,hus,-,hsz1⟩:=a5a [x] σ G h [xs] σ1 hps;obtain⟨v1,v2,F1,F2,S1,S2,rfl,hF,rfl,hrep,⟨rfl,rfl,rfl⟩⟩:=hrl;obtain⟨rfl,-⟩:=zG.1 hF.symm;have hone:∃ v,v1=[v]:=by
   obtain⟨A,c,hv,-⟩:=hrep;exact⟨_,hv⟩
 obtain⟨v,rfl⟩:=hone;obtain⟨l,rfl⟩:=zn b0;obtain⟨hh,rfl⟩:=zn (show 0≤hh by omega);have b2':hh≤(xs:List ti.t.den).length:=by omega
 obtain⟨A,cp,S',hv,hc,hrep2,hS'⟩:=b3W hrep (show l≤hh by omega) b2';have hev:a.eval x=v:=by
   simp only[zm,List.flatMap_cons,List.flatMap_nil]at hus;rw[hv]at hus ⊢;revert hus hna;generalize a.eval x=y;intro hna hus;cases y<;>first
     | exact absurd rfl (hna _)
     | (simp[Value.cells]at hus;done)
     | (simp[Value.cells]at hus;simp[hus])
 obtain⟨V,hV⟩:∃ V,V=Value.slice (if cp=l then A else A.map (·.add (l*ti.t.sz))) (hh-l) (cp-l):=⟨_,rfl⟩;rw[<-hV]at hrep2;have hrc:a0K w [⟨.sl ti.t,.sh,cutL (α:=ti.t.den) xs (l:Int) (hh:Int)⟩] [V] [] S':=⟨[V],[],[],[],S',[],rfl,rfl,by simp,⟨⟨_,rfl⟩,by simpa[cutL]using hrep2⟩,⟨rfl,rfl,rfl⟩⟩;refine a0v (v:=V) (w':=w) ?_ (a0A h1 o.dst (t := .val false [⟨.sl ti.t,.sh,cutL (α:=ti.t.den) xs (l:Int) (hh:Int)⟩]) ⟨rfl,[V],hrc,rfl⟩ (Fine.two fun b hb=>hfine b (by simp[hS' b hb]))) hk;subst hV;have bh:=a2Q (P:=P) h hhi cp .sliceAcap (by omega) (by omega);have bl:=a2Q (P:=P) h hlo hh .sliceB (by omega) (by omega);simp only[execOp,ho,hev,hv];have hbnd:(Instr.sliceBounds true (xs:List ti.t.den).length cp (lo.map a.eval) (hi.map a.eval) none).run P w = .ok (l,hh,cp) w:=by
   unfold Instr.sliceBounds;rcases bh with⟨e1,bh⟩|⟨zh,e1,bh⟩<;>rcases bl with⟨e2,bl⟩|⟨zl,e2,bl⟩
   . have e3:hh=(xs:List ti.t.den).length:=by omega
     have e4:l=0:=by omega
     simp[e1,e2,e3,e4,Sem.run_bind]
   . have e3:hh=(xs:List ti.t.den).length:=by omega
     rw[e3]at bl;simp only[zx]at bl;simp[e1,e2,e3,bl,Sem.run_bind]
   . have e4:l=0:=by omega
     simp only[zx]at bh;simp[e1,e2,e4,bh,Sem.run_bind]
   . simp only[zx]at bl bh;simp[e1,e2,bh,bl,Sem.run_bind]
 simp only[ya,Instr.sliceAt,Instr.slice,Sem.run_bind,run_underlying hu,Result.andThen_ok,hbnd,sizeOf,typeInfo,hinf,hsz];simp[hinf,hsz]
theorem b3h {E:Env} {R:Type} {o:Oper} {σ:St} {a:Act} {w:World} {G:Nat->RG} {k:St->Option R} {r:R} {c:Ctx} {T:TypeId} {x:Operand} {lo hi mx:Option Operand} (ho:o.op = .slice T x lo hi mx) (ht:TabOK P c.tab)
   (h:Rel P E σ a w G) (hk:subK c o T x lo hi mx σ k=some r):Good P E o a w k r:=by
 obtain⟨S1,A1,hx,hf⟩:=a0q h x;unfold subK at hk;split at hk
 case h_2=>cases hk
 rename_i t e fs rr p n hT he;split at hk
 case h_2=>cases hk
 rename_i xs lx hrv;split at hk
 case h_2=>cases hk
 rename_i l hh hlo hhi;split at hk
 case isFalse=>cases hk
 rename_i hb;obtain⟨b0,b1,b2⟩:=hb;obtain⟨hu,ti,hti,rfl⟩:=ht.slice T t e fs hT;obtain⟨inf,hinf,hsz,-⟩:=ht.info e ti hti;rw[he]at hx;obtain⟨S',⟨vs,hrep,hsh⟩,-⟩:=a1g h hx hf hrv;obtain⟨l,rfl⟩:=zn b0;obtain⟨hh,rfl⟩:=zn (show 0≤hh by omega);have b2':hh≤(xs:List ti.t.den).length:=by omega
 obtain⟨A,cp,hv,hc,-⟩:=hrep;have hev:a.eval x = .slice A (xs:List ti.t.den).length cp:=by
   rw[hv]at hsh;simp only[a0E,zA,if_false,zp,and_true]at hsh;exact hsh.symm
 obtain⟨V,hV⟩:∃ V,V=Value.slice (if cp=l then A else A.map (·.add (l*ti.t.sz))) (hh-l) (cp-l):=⟨_,rfl⟩;have hSA:S1=[]/\A1=[]:=⟨hx.1,hx.2.1⟩;obtain⟨rfl,rfl⟩:=hSA;have hint:∀ z:Nat,TRep P σ.rs G w (vI (z:Int)) (.int .i64 (z:Int)) [] []:=fun z=>⟨rfl,[_],⟨_,_,[],[],[],[],rfl,rfl,rfl,⟨⟨_,rfl⟩,rfl,rfl,rfl⟩,⟨rfl,rfl,rfl⟩⟩,rfl⟩;refine a0v (v:=V) (w':=w) ?_ (a0A h o.dst (t := .tup (.s ti.t.sz) [.view rr p n false,vI (l:Int),vI (hh:Int)]) (S:=[]) (A:=[]) ⟨[a.eval x,.int .i64 (l:Int),.int .i64 (hh:Int)],⟨A,(xs:List ti.t.den).length,cp,.i64,.i64,l,hh,by rw[hev],by omega,b2',hV⟩,
   ⟨_,_,[],[],[],[],rfl,rfl,rfl,hx,⟨_,_,[],[],[],[],rfl,rfl,rfl,hint l,⟨_,_,[],[],[],[],rfl,rfl,rfl,hint hh,rfl,rfl,rfl⟩⟩⟩⟩ (Fine2.nil _ _)) hk
 subst hV;have bh:=a2Q (P:=P) h hhi cp .sliceAcap (by omega) (by omega);have bl:=a2Q (P:=P) h hlo hh .sliceB (by omega) (by omega);simp only[execOp,ho,hev];have hbnd:(Instr.sliceBounds true (xs:List ti.t.den).length cp (lo.map a.eval) (hi.map a.eval) none).run P w = .ok (l,hh,cp) w:=by
   unfold Instr.sliceBounds;rcases bh with⟨e1,bh⟩|⟨zh,e1,bh⟩<;>rcases bl with⟨e2,bl⟩|⟨zl,e2,bl⟩
   . have e3:hh=(xs:List ti.t.den).length:=by omega
     have e4:l=0:=by omega
     simp[e1,e2,e3,e4,Sem.run_bind]
   . have e3:hh=(xs:List ti.t.den).length:=by omega
     rw[e3]at bl;simp only[zx]at bl;simp[e1,e2,e3,bl,Sem.run_bind]
   . have e4:l=0:=by omega
     simp only[zx]at bh;simp[e1,e2,e4,bh,Sem.run_bind]
   . simp only[zx]at bl bh;simp[e1,e2,bh,bl,Sem.run_bind]
 simp only[ya,Instr.sliceAt,Instr.slice,Sem.run_bind,run_underlying hu,Result.andThen_ok,hbnd,sizeOf,typeInfo,hinf,hsz];simp[hinf,hsz]
theorem b3T {w:World} {c:Cell} {vs:List Value} {F S:List Nat} (h:RepC w c vs F S):∃ F' S',RepC w c.shal vs F' S'/\F'.Sublist F/\(∀ b∈S',b∈F∨b∈S)/\(F.Nodup->(∀ b∈F,b∉S)->∀ b∈F',b∉S'):=by
 have same:c.shal=c->∃ F' S',RepC w c.shal vs F' S'/\F'.Sublist F/\(∀ b∈S',b∈F∨b∈S)/\(F.Nodup->(∀ b∈F,b∉S)->∀ b∈F',b∉S'):=fun e=>⟨F,S,by rw[e];exact h,yg.refl _,fun b hb => .inr hb,fun _ hd=>hd⟩;obtain⟨t,m,x⟩:=c;cases t with
 | sl t =>
   cases hm:m.own with
   | false=>exact same (by simp[Cell.shal,hm])
   | true =>
     obtain⟨⟨v,rfl⟩,hr⟩:=h;obtain⟨F',S',h1,h2,h3,h4⟩:=b1X t hm hr;have e:Cell.shal ⟨.sl t,m,x⟩=⟨.sl t,.shal,x⟩:=by simp[Cell.shal,hm]
     exact⟨F',S',by rw[e];exact⟨⟨v,rfl⟩,h1⟩,h2,h3,h4⟩
 | _=>exact same rfl
theorem b2R {w:World}:∀ {cs:List Cell} {vs:List Value} {F S:List Nat},a0K w cs vs F S->∃ F' S',a0K w (cs.map Cell.shal) vs F' S'/\F'.Sublist F/\(∀ b∈S',b∈F∨b∈S)/\(F.Nodup->(∀ b∈F,b∉S)->∀ b∈F',b∉S'):=by
 intro cs;induction cs with
 | nil =>
   rintro vs F S ⟨rfl,rfl,rfl⟩;exact⟨[],[],⟨rfl,rfl,rfl⟩,yg.refl _,by simp,by simp⟩
 | cons c cs ih =>
   rintro vs F S ⟨v1,v2,F1,F2,S1,S2,rfl,rfl,rfl,h1,h2⟩;obtain⟨Fa,Sa,a1,a2,a3,a4⟩:=b3T h1;obtain⟨Fb,Sb,b1,b2,b3,b4⟩:=ih h2;refine⟨Fa++Fb,Sa++Sb,⟨v1,v2,Fa,Fb,Sa,Sb,rfl,rfl,rfl,a1,b1⟩,a2.append b2,fun b hb=>?_,fun hn hd b hb hs=>?_⟩
   . simp only[za]at hb ⊢;rcases hb with hb|hb
     . exact(a3 b hb).elim (fun h => .inl (.inl h)) fun h => .inr (.inl h)
     . exact(b3 b hb).elim (fun h => .inl (.inr h)) fun h => .inr (.inr h)
   . obtain⟨n1,n2,n3⟩:=zb.1 hn;simp only[za]at hb hs;rcases hb with hb|hb<;>rcases hs with hs|hs
     . exact a4 n1 (fun b hb hs=>hd b (by simp[hb]) (by simp[hs])) b hb hs
     . have hbF:=a2.subset hb;rcases b3 b hs with h|h
       . exact n3 b hbF b h rfl
       . exact hd b (by simp[hbF]) (by simp[h])
     . have hbF:=b2.subset hb;rcases a3 b hs with h|h
       . exact n3 b h b hbF rfl
       . exact hd b (by simp[hbF]) (by simp[h])
     . exact b4 n2 (fun b hb hs=>hd b (by simp[hb]) (by simp[hs])) b hb hs
theorem b1y {E:Env} {σ:St} {a:Act} {w:World} {G:Nat->RG} (h:Rel P E σ a w G) (r:Nat):∃ G',Rel P E (shal1 r σ) a w G':=by
 unfold shal1;split
 case h_2=>exact⟨G,h⟩
 rename_i x hx;obtain⟨FF,hcs,hm⟩:=h.r.roots r _ hx;obtain⟨F',S',hrep,hsub,hS',hdis⟩:=b2R hcs;have hnd:=h.r.nodup r;have hshr:=h.r.shr r _ hx;have hFGr:∀ b∈FF,b∈(G r).F:=by
   intro b hb;rcases hm with⟨_,hb2,he⟩|⟨_,b',arr,e,hb2,_,_,he⟩<;>rw[he]<;>simp[hb]
 have hFFn:FF.Nodup:=by
   rcases hm with⟨_,hb2,he⟩|⟨_,b',arr,e,hb2,_,_,he⟩
   . rw[<-he];exact hnd
   . rw[he]at hnd;exact(zi.1 hnd).2
 have hFS:∀ b∈FF,b∉(G r).S:=fun b hb hs=>(hshr b hs).1 r (hFGr b hb);let g:RG:=⟨(G r).vs,(G r).blk,(G r).blk.toList++F',S'⟩;have hgsub:g.F.Sublist (G r).F:=by
   rcases hm with⟨_,hb2,he⟩|⟨_,b',arr,e,hb2,_,_,he⟩
   . simp only[g,hb2,Option.toList_none,zz,he];exact hsub
   . simp only[g,hb2,z3,zD,he];exact hsub.cons_cons _
 have hroot:a0S w ⟨x.mem,x.cs.map Cell.shal⟩ g:=by
   refine⟨F',hrep,?_⟩;rcases hm with⟨h1,hb2,he⟩|⟨h1,b',arr,e,hb2,hh,ha,he⟩
   . exact .inl ⟨h1,hb2,by simp[g,hb2]⟩
   . exact .inr ⟨h1,b',arr,e,hb2,hh,ha,by simp[g,hb2]⟩
 have hblkS:∀ b,(G r).blk=some b->b∉S':=by
   intro b hb hs;rcases hm with⟨_,hb2,he⟩|⟨_,b',arr,e,hb2,_,_,he⟩
   . rw[hb2]at hb;cases hb
   . rw[hb2]at hb;obtain rfl:=zc hb;have hbF:b'∈(G r).F:=by rw[he];simp
     rcases hS' b' hs with h4|h4
     . rw[he]at hnd;exact(zi.1 hnd).1 h4
     . exact(hshr b' h4).1 r hbF
 refine⟨upG G r g,h.defers,?_,a6y h.r r _ _ hx g [] [] hroot (hgsub.nodup hnd) (fun c hc => .inl (hgsub.subset hc)) (fun c hc=>?_) (fun c hc hs=>?_) (by simp) (by simp[Fine]) (fun _ _ _ _=>rfl) (Bel.refl _)⟩
 . refine a1q h.temps (by simp[a0l]) fun i t' ht'=>?_;rcases a1F ht' with rfl|⟨ht1,hu1⟩
   . exact .inl rfl
   refine .inr ⟨t',ht1,fun v S A hS hf=>⟨?_,fun b hb q hq=>?_⟩⟩
   . exact a1L r false _ ⟨x.mem,x.cs.map Cell.shal⟩ hx (by rw[a0j,if_pos rfl]) (by simp) (by rw[a0y]) (fun _=>by rw[a0y]) (fun q hq=>by rw[a0j,if_neg hq]) (fun q hq _=>a0z _ _ hq) h.r.roots (fun q hq b hb=>rfl) (ze _) t' v S A hu1 hS (fun b hb=>rfl)
   . by_cases hqr:q=r
     . subst hqr;rw[a0y]at hq;exact hf b hb q (hgsub.subset hq)
     . rw[a0z _ _ hqr]at hq;exact hf b hb q hq
 . rcases hS' c hc with h1|h1
   . exact .inr (.inr (.inl (hFGr c h1)))
   . exact .inl h1
 . simp only[g,za,Option.mem_toList]at hc;rcases hc with hc|hc
   . exact hblkS c (by simpa using hc) hs
   . exact hdis hFFn hFS c hc hs
theorem a5D {E:Env} {a:Act} {w:World}:∀ (l:List Nat) (σ:St) (G:Nat->RG),Rel P E σ a w G->∃ G',Rel P E (a5S l σ) a w G':=by
 intro l;induction l with
 | nil=>intro σ G h;exact⟨G,h⟩
 | cons r l ih =>
   intro σ G h;obtain⟨G',h'⟩:=b1y h r;exact ih _ G' h'
theorem b0R {E:Env} {R:Type} {o:Oper} {σ:St} {a:Act} {w:World} {G:Nat->RG} {k:St->Option R} {r:R} {c:Ctx} {cl:Call} {f:Operand} {g:FuncId} {caps:List TV} (ho:o.op = .call cl) (hcl:cl.callee = .value f) (hctx:CtxOK P c)
   (h:Rel P E σ a w G) (hf:a0x σ f = .fn g caps) (hk:b1p c o g f cl.args.toList caps σ k=some r):Good P E o a w k r:=by
 unfold b1p at hk;generalize a7i g (cl.args.toList.map (a0x σ)++caps) c.callees=L at hk;cases L with
 | nil=>exact a5V ho hcl hctx h hf (a1r c o) (a4h hctx.callees) hk
 | cons q l =>
   obtain⟨G',h'⟩:=a5D (q::l) σ G h;simp only[]at hk;split at hk
   . rename_i g' caps' hf';exact a5V ho hcl hctx h' hf' (a1r c o) (a4h hctx.callees) hk
   . cases hk
end Go.Vm
end
section
namespace Go.Vm
variable {P:Program}
theorem a3H {w:World} {T T' ty e:TypeId} {i:TypeInfo} {z:Value} {kn ik:IntKind} (ht:P.underlying T=some (.slice e)) (ht':P.underlying T'=some (.int kn)) (hi:P.info? e=some i) (hz:i.zero=some z) {A:Option Addr} {n m c:Nat} (hw:z9.wrap (m:Int)=m) (hb:m*i.bytes≤281474976710656)
   (hroom:n+m≤c) {w':World} (hst:∀ a,A=some a->(storeCells (a.add (n*i.size)) (if m*i.size=0 then[]else(Builtin.zeroCells z.cells m).toList)).run P w = .ok () w') (hno:A=none->w'=w) :
   (Builtin.append_ #[T,T'] ty #[.slice A n c,.int ik (m:Int)]).run P w = .ok (.slice A (n+m) c) w':=by
 have hneg:¬ ((m:Int)<0):=by omega
 have h48:¬ (281474976710656<(m:Int)*(i.bytes:Int)):=by
   rw[<-yb];omega
 cases A with
 | none =>
   obtain rfl:=hno rfl;by_cases h0:m*i.size=0
   . simp[Builtin.append_,run_underlying ht,run_underlying ht',sizeOf,typeInfo,zeroValue,hi,hz,Go.asInt,Go.asIntOf,hw,hneg,h48,hroom,h0]
   . simp[Builtin.append_,run_underlying ht,run_underlying ht',sizeOf,typeInfo,zeroValue,hi,hz,Go.asInt,Go.asIntOf,hw,hneg,h48,hroom,h0]
 | some a =>
   have hst:=hst a rfl;by_cases h0:m*i.size=0
   . rw[if_pos h0]at hst;simp[Builtin.append_,run_underlying ht,run_underlying ht',sizeOf,typeInfo,zeroValue,hi,hz,Go.asInt,Go.asIntOf,hw,hneg,h48,hroom,h0,hst]
   . have h0':¬ (m=0∨i.size=0):=fun h=>h0 (Nat.mul_eq_zero.2 h);rw[if_neg h0]at hst;simp[Builtin.append_,run_underlying ht,run_underlying ht',sizeOf,typeInfo,zeroValue,hi,hz,Go.asInt,Go.asIntOf,hw,hneg,h48,hroom,h0,hst]
theorem a5C {w:World} {T T' ty e:TypeId} {i:TypeInfo} {z:Value} {kn ik:IntKind} (ht:P.underlying T=some (.slice e)) (ht':P.underlying T'=some (.int kn)) (hi:P.info? e=some i) (hz:i.zero=some z) {A:Option Addr} {n m c:Nat} (hw:z9.wrap (m:Int)=m) (hb:m*i.bytes≤281474976710656)
   (h0:m*i.size≠0) (hroom:c<n+m) (h63:((n+m:Nat):Int)≤9223372036854775807) (hfit:Builtin.nextslicecap (n+m) c*i.bytes≤281474976710656) {olds:Array Value} (hold:(Builtin.firstCells i.size n (.slice A n c)).run P w.drew = .ok olds w.drew) :
   (Builtin.append_ #[T,T'] ty #[.slice A n c,.int ik (m:Int)]).run P w = .ok (.slice (some ⟨w.heap.size,0,none⟩) (n+m) (grownCap w (n+m) c e))
     (w.drew.alloc (.cells (olds++Builtin.zeroCells z.cells m++Builtin.zeroCells z.cells (grownCap w (n+m) c e-(n+m))) e)):=by
 have hneg:¬ ((m:Int)<0):=by omega
 have h48:¬ (281474976710656<(m:Int)*(i.bytes:Int)):=by
   rw[<-yb];omega
 have hr:¬ (n+m≤c):=by omega
 have h63':¬ (9223372036854775807<((n:Int)+(m:Int))):=by omega
 have hfit':¬ (281474976710656<Builtin.nextslicecap (n+m) c*i.bytes):=by omega
 simp[Builtin.append_,run_underlying ht,run_underlying ht',sizeOf,typeInfo,zeroValue,hi,hz,Go.asInt,Go.asIntOf,hw,hneg,h48,hr,h63',hfit',h0,Question.forced,hold,newRow,grownCap]
theorem b4l {w:World} {T T' ty e:TypeId} {i:TypeInfo} {z:Value} {kn ik:IntKind} {sz:Nat} (ht:P.underlying T=some (.slice e)) (ht':P.underlying T'=some (.int kn)) (hi:P.info? e=some i) (hz:i.zero=some z) (hsz:i.size=sz) (hzs:z.cells.size=sz) (hpos:0<sz) (hb1:i.bytes≤256)
   {n:Nat} {v:Value} {us:List Value} {hd:List Nat} (hrow:Row w sz n v us hd) (hul:us.length=n*sz) {m:Nat} (h1:∀ u∈(Builtin.zeroCells z.cells m).toList,u.oneCell'=true) (hbig:n+m≤bigA) :
   ∃ v' w' hd',(Builtin.append_ #[T,T'] ty #[v,.int ik (m:Int)]).run P w = .ok v' w'/\Bel w w'/\(∀ k,k<w.heap.size->k∉hd->w'.heap[k]? = w.heap[k]?)/\Row w' sz (n+m) v' (us++(Builtin.zeroCells z.cells m).toList) hd'/\(∀ g∈hd',g∈hd∨w.heap.size≤g)/\(∀ g∈hd',g<w'.heap.size)/\hd'.Nodup:=by
 subst hsz;have hA:n+m≤549755813888:=hbig;have hbytes:(n+m)*i.bytes≤140737488355328:=by
   calc (n+m)*i.bytes≤549755813888*256:=ye hA hb1
     _=140737488355328:=by decide
 have hmb:m*i.bytes≤281474976710656:=by
   have:m*i.bytes≤(n+m)*i.bytes:=zv _ (by omega);omega
 have hw:z9.wrap (m:Int)=m:=by rw[IntKind.wrap_i64];omega
 have h63:n+m≤maxLen:=by simp only[maxLen];omega
 have hlen:(Builtin.zeroCells z.cells m).toList.length=m*i.size:=by rw[zr,size_zeroCells,hzs]
 by_cases hm:m=0
 . subst hm;have hu':(Builtin.zeroCells z.cells 0).toList=[]:=zf (by simpa using hlen);rw[hu',zm,zH];rcases hrow with⟨A0,rfl,rfl,rfl,rfl⟩|⟨b,arr,e0,sp,c,rfl,rfl,hb,harr,hs,hcm,hc⟩
   . exact⟨_,w,[],a3H ht ht' hi hz hw hmb (ze _) (fun a _=>by simp[storeCells]) (fun _=>rfl),Bel.refl _,fun _ _ _=>rfl,.inl ⟨A0,rfl,rfl,rfl,rfl⟩,by simp,by simp,by simp⟩
   . refine⟨_,w,[b],a3H ht ht' hi hz hw hmb hc (fun a _=>by simp[storeCells]) (fun _=>rfl),Bel.refl _,fun _ _ _=>rfl,.inr ⟨b,arr,e0,sp,c,rfl,rfl,hb,harr,hs,hcm,hc⟩,by simp,fun g hg=>?_,by simp⟩;simp only[zj]at hg;subst hg;rcases zI g w.heap.size with h|h
     . exact h
     . simp[zy h]at hb
 have h0:m*i.size≠0:=Nat.mul_ne_zero hm (by omega);have grown:∀ old,old<n+m->∀ (X:Array Value),X.toList=us++(Builtin.zeroCells z.cells m).toList →
     Bel w (w.drew.alloc (.cells (X++Builtin.zeroCells z.cells (grownCap w (n+m) old e-(n+m))) e))/\(∀ k,k<w.heap.size->(w.drew.alloc (.cells (X++Builtin.zeroCells z.cells (grownCap w (n+m) old e-(n+m))) e)).heap[k]? = w.heap[k]?) ∧
     Row (w.drew.alloc (.cells (X++Builtin.zeroCells z.cells (grownCap w (n+m) old e-(n+m))) e)) i.size (n+m) (.slice (some ⟨w.heap.size,0,none⟩) (n+m) (grownCap w (n+m) old e)) (us++(Builtin.zeroCells z.cells m).toList) [w.heap.size]:=by
   intro old ho X hX;have hge:=grownCap_ge w (n+m) old e;have hcm:=grownCap_le_maxLen w (n+m) old e h63;refine⟨⟨rfl,rfl,rfl,by simp,Nat.le_succ _⟩,fun k hk=>heap_alloc_old w.drew _ k hk,.inr ⟨w.heap.size,_,e,(Builtin.zeroCells z.cells (grownCap w (n+m) old e-(n+m))).toList,_,rfl,rfl,heap_alloc_new w.drew _,by rw[z2,hX],?_,hcm,hge⟩⟩;have hXs:X.size=(n+m)*i.size:=by rw[<-zr,hX,zt,hul,hlen,zF]
   rw[z5,size_zeroCells,hzs,hXs,<-zF];congr 1;omega
 rcases hrow with⟨A0,rfl,rfl,rfl,rfl⟩|⟨b,arr,e0,sp,c,rfl,rfl,hb,harr,hs,hcm,hc⟩
 . have hf0:(Builtin.firstCells i.size 0 (.slice A0 0 0)).run P w.drew = .ok #[] w.drew:=by
     cases A0 with
     | none=>exact run_firstCells_none _ _ _ _ _
     | some a0=>exact run_firstCells_some (P:=P) w.drew i.size 0 a0 0 0 [] (by simp) (by simp)
   have hr:=a5C (ik:=ik) (ty:=ty) ht ht' hi hz (n:=0) (c:=0) hw hmb h0 (by omega) (by omega) (growslice_fits (by omega) hbytes) hf0;obtain⟨k1,k2,k3⟩:=grown 0 (by omega) (#[]++Builtin.zeroCells z.cells m) (by simp);exact⟨_,_,[w.heap.size],hr,k1,fun k hk _=>k2 k hk,k3,by simp,by simp,by simp⟩
 . by_cases hroom:n+m≤c
   . have hfit:n*i.size+(Builtin.zeroCells z.cells m).toList.length≤arr.size:=by rw[hlen,hs,<-zF];exact zv _ hroom
     have hst:=run_storeCells_at P b (n*i.size) e0 (Builtin.zeroCells z.cells m).toList 0 arr w hb (by simpa using hfit) h1;simp only[zH]at hst;have hr:=a3H (ik:=ik) (ty:=ty) (A:=some ⟨b,0,none⟩) ht ht' hi hz hw hmb hroom (fun a ha=>by
       obtain rfl:=zc ha;rw[if_neg h0,Addr.add_lit,zL];exact hst) (fun h=>by cases h)
     refine⟨_,_,[b],hr,a3R _ _ _,fun k _ hk=>setRow_other w b k _ (fun h=>hk (by simp[h])),.inr ⟨b,_,e0,arr.toList.drop (n*i.size+(Builtin.zeroCells z.cells m).toList.length),c,rfl,rfl,setRow_heap w b arr _ e0 _ hb,?_,?_,hcm,hroom⟩,by simp,fun g hg=>?_,by simp⟩
     . simp only[harr];rw[<-hul,z0]
     . simp only[zM,zt,zu,zC,zr]at hfit ⊢;omega
     . simp only[zj]at hg;subst hg;show g<(w.setRow g _).heap.size;rcases zI g w.heap.size with h|h
       . simpa using h
       . simp[zy h]at hb
   . have holds:∀ j u,us[j]? = some u->w.drew.cell? ((⟨b,0,none⟩:Addr).add j)=some u:=fun j u hu=>by simpa using a0V hb harr j u hu
     have hf0:=run_firstCells_some (P:=P) w.drew i.size n ⟨b,0,none⟩ n c us hul holds;have hr:=a5C (ik:=ik) (ty:=ty) (A:=some ⟨b,0,none⟩) ht ht' hi hz hw hmb h0 (by omega) (by omega) (growslice_fits (by omega) hbytes) hf0;obtain⟨k1,k2,k3⟩:=grown c (by omega) (us.toArray++Builtin.zeroCells z.cells m) (by simp);exact⟨_,_,[w.heap.size],hr,k1,fun k hk _=>k2 k hk,k3,by simp,by simp,by simp⟩
theorem b0I (z:List Value) (n:Nat):(Builtin.zeroCells z.toArray n).toList=(zS n z).flatten:=by
 rw[<-a5Z];simp[Builtin.zeroCells,madeCells]
theorem a8k {E:Env} {R:Type} {o:Oper} {σ:St} {a:Act} {w:World} {G:Nat->RG} {k:St->Option R} {r:R} {c:Ctx} {cl:Call} {T T':TypeId} {s x:Operand} (ho:o.op = .call cl) (hcl:cl.callee = .builtin .append) (hargs:cl.args.toList=[s,x]) (hat:cl.argTypes.toList=[T,T']) (ht:TabOK P c.tab)
   (h:Rel P E σ a w G) (hk:a5p c o T T' s x σ k=some r):Good P E o a w k r:=by
 have hargs':cl.args=#[s,x]:=by rw[<-zo (xs:=cl.args),hargs]
 have hat':cl.argTypes=#[T,T']:=by rw[<-zo (xs:=cl.argTypes),hat]
 unfold a5p at hk;split at hk
 case h_2=>cases hk
 rename_i d t e fs k2 e2 fs2 k1 n hd hT hT2 hx;split at hk
 . cases hk
 rename_i xs m σ2 hta;split at hk
 case isFalse=>cases hk
 rename_i hbig;obtain⟨hn0,hbig⟩:=hbig;obtain⟨hu,ti,hti,rfl⟩:=ht.slice T t e fs hT;have hu2:=ht.int T' k2 e2 fs2 hT2;obtain⟨inf,hinf,hsz,hb0,hb1,hz⟩:=ht.info e ti hti;obtain⟨S1,A1,hx1,-⟩:=a0q h x;have hevx:=a1y hx1 hx;obtain⟨N,rfl⟩:=zn hn0;rw[zx]at hk hbig;obtain⟨g1,hg1,hfresh⟩:=a3j h (4*d+1);obtain⟨G2,Fx,Sx,h2,hab2,hFx,hkeep,hrx,hown,hfx,hnx,hfree⟩:=a7x h hta g1 (hfresh g1 (ze _)).1 (hfresh g1 (ze _)).2;have hn2:∀ j,g1≤j->rget σ2.rs j=none:=fun j hj=>hab2 j (hfresh j hj).1;obtain⟨us,hd1,Fe,hrow,hFxe,hrl⟩:=a4x hown hrx;have hzc:(a3i ti).cells=(zvs ti.t).toArray:=a2z ht hti;have hzl:(Builtin.zeroCells (a3i ti).cells N).toList=(zS N (zvs ti.t)).flatten:=by rw[hzc,b0I]
 have hone:∀ u∈(Builtin.zeroCells (a3i ti).cells N).toList,u.oneCell'=true:=fun u hu=>by
   rw[hzl]at hu;obtain⟨l,hl,hul⟩:=List.mem_flatten.1 hu;rw[(List.mem_replicate.1 hl).2]at hul;exact(a8m ti.t (a2X (default:World) ti.t .sh) u hul).1
 obtain⟨v',w',hd',hrun,hbel,hsame,hrow',hhd,hhlt,hhn⟩:=b4l (P:=P) (ty:=o.type) (ik:=k1) hu hu2 hinf hz hsz (a3l ht hti) (a3O _) hb1 hrow (a0Y hrl) hone hbig;have run:(execOp a.eval o).run P w = .ok (.value v') w':=by
   have ho':o.op = .call { callee := .builtin .append,args:=#[s,x],argTypes:=#[T,T'] }:=by rw[ho,<-hcl,<-hargs',<-hat']
   simp only[execOp,ho',resolve,invoke,builtin,Sem.run_bind,Sem.run_pure,Result.andThen_ok,zO,zw,zK,hevx,hrun]
 have hnx':(hd1++Fe).Nodup:=hFxe▸hnx;have hF1:∀ b,b∈(G2 g1).F↔b∈hd1++Fe:=fun b=>by rw[hFx,hFxe]
 have hG2:(G2 (g1+1)).F=[]:=by rw[hkeep _ (hfresh _ (by omega)).1 (by omega)];exact(hfresh _ (by omega)).2
 have hrl':RepL (Rep w' ti.t m.inn) xs us Fe Sx:=a1D hrl fun b hb=>by
   simp only[za]at hb;refine hsame b (a2y hrl b hb) fun hbd=>?_;rcases hb with hb|hb
   . exact(zb.1 hnx').2.2 b hbd b hb rfl
   . exact(hfx b hb).1 g1 ((hF1 b).2 (by simp[hbd]))
 have hzr:RepL (Rep w' ti.t m.inn) (zS N ti.t.dflt) (Builtin.zeroCells (a3i ti).cells N).toList [] []:=by
   rw[hzl];exact a4K N (a2X _ _ _)
 have hall:=(a0R xs (zS N ti.t.dflt) _ _ _).2 ⟨us,_,Fe,[],Sx,[],rfl,rfl,rfl,hrl',hzr⟩;rw[zm,zm]at hall;have hrep:=a2C hown (by simpa using hrow') hall;have hFel:∀ b∈Fe,b<w.heap.size:=fun b hb=>a2y hrl b (.inl hb);have hFn:(hd'++Fe).Nodup:=zb.2 ⟨hhn,(zb.1 hnx').2.1,fun b hb c hc e=>by
   subst e;rcases hhd b hb with h4|h4
   . exact(zb.1 hnx').2.2 b h4 b hc rfl
   . have:=hFel b hc;omega⟩
 have h4:=a3b h2 g1 (g1+1) (hn2 _ (ze _)) (hn2 _ (by omega)) hG2 (by omega) (hd'++Fe) (fun b hb hb2=>hsame b hb fun hh=>hb2 ((hF1 b).2 (by simp[hh]))) hbel (fun b hb=>by
   rw[hF1];simp only[za]at hb ⊢;rcases hb with hb|hb
   . exact(hhd b hb).imp .inl id
   . exact .inl (.inr hb)) hFn (fun b hb=>by
   simp only[za]at hb;rcases hb with hb|hb
   . exact hhlt b hb
   . exact zU (hFel b hb) hbel.size)
 refine a3G hd run h4 (g1+1) (hn2 _ (by omega)) (by omega) hrep hFn (fun b hb=>by rw[a0y];exact hb) (fun b hb=>⟨fun p hp=>?_,(hfx b hb).2⟩) hk;by_cases hp1:p=g1+1
 . subst hp1;rw[a0y]at hp;simp only[a0f,za]at hp;rcases hp with hp|hp
   . rcases hhd b hp with h5|h5
     . exact(hfx b hb).1 g1 ((hF1 b).2 (by simp[h5]))
     . have:=a2y hrl b (.inr hb);omega
   . exact(hfx b hb).1 g1 ((hF1 b).2 (by simp[hp]))
 . rw[a0z _ _ hp1]at hp;by_cases hp2:p=g1
   . subst hp2;rw[a0y]at hp;cases hp
   . rw[a0z _ _ hp2]at hp;exact(hfx b hb).1 p hp
end Go.Vm
end
section
namespace Go.Vm
variable {P:Program}
section
variable {R:Type}
theorem b3L {p q:Path} {ii:Nat×Nat} (h:b3K p q=some ii) (he:ii.1=ii.2):∃ a i sz j,p = .hop (.root a) i sz j/\q=p:=by
 unfold b3K at h;split at h
 . split at h
   . rename_i h1 h2 h3 _ _ _;subst h1 h2 h3;obtain rfl:=zc h;simp only[]at he;subst he;exact⟨_,_,_,_,rfl,rfl⟩
   . cases h
 . cases h
theorem a8N {c:Ctx} {σ:St} {T:TypeId} {x ix:TV} {kk:TV->Option R} {r:R} (h:a0p c σ T x ix kk=some r):(∃ s cs,kk (.rptr s cs)=some r) ∨
   ∃ k0 n t e fs r0 p root m xs rest,asInt ix=some (k0,n)/\c.tab T=some ⟨false,.sl t,e,fs⟩/\x = .view r0 p 1 false/\rget σ.rs r0=some root/\a0W root.cs p=⟨.sl t,m,xs⟩::rest/\0≤n/\n<(xs.length:Int)/\kk (.ref r0 (.hop p n.toNat t.sz 0))=some r:=by
 unfold a0p at h;split at h
 . cases h
 rename_i k0 n hn;split at h
 case h_2=>cases h
 rename_i tt e fs hT;split at h
 . split at h
   case isFalse=>cases h
   split at h
   case isFalse=>cases h
   exact .inl ⟨_,_,h⟩
 . split at h
   . cases h
   rename_i root hroot;split at h
   case h_2=>cases h
   rename_i t' m xs rest hg;split at h
   case isFalse=>cases h
   rename_i htt;subst htt;split at h
   . split at h
     case isFalse=>cases h
     exact .inl ⟨_,_,h⟩
   . split at h
     case isFalse=>cases h
     rename_i hb;exact .inr ⟨_,_,_,_,_,_,_,_,_,_,_,hn,hT,rfl,hroot,hg,hb.1,hb.2,h⟩
 . cases h
end
theorem a7p {E:Env} {σ:St} {a:Act} {w w':World} {G:Nat->RG} (h:Rel P E σ a w G) (r:Nat) (x x':Root) (hx:rget σ.rs r=some x) (F' S':List Nat) (hx':a0S w' x' ⟨(G r).vs,(G r).blk,F',S'⟩) (hlen:x.cs.length≤x'.cs.length) (hn:F'.Nodup)
   (hF:∀ c∈F',c∈(G r).F∨w.heap.size≤c) (hS:∀ c∈S',c∈(G r).S) (hsame:∀ b,b<w.heap.size->b∉(G r).F->w'.heap[b]? = w.heap[b]?) (hbase:Bel w w') :
   Rel P E ⟨a0g r false σ.ts,rput σ.rs r x'⟩ a w' (upG G r ⟨(G r).vs,(G r).blk,F',S'⟩):=by
 have hshr:=h.r.shr r x hx;have hSlt:∀ c∈(G r).S,c<w.heap.size:=fun c hc=>a0N (h.r.roots r x hx) c (.inr hc);have hnew:∀ c∈F',c∉S':=fun c hc hcs=>by
   rcases hF c hc with h1|h1
   . exact(hshr c (hS c hcs)).1 r h1
   . have:=hSlt c (hS c hcs);omega
 refine⟨h.defers,?_,?_⟩
 . refine a1q h.temps (by simp[a0l]) fun i t' ht'=>?_;rcases a1F ht' with rfl|⟨ht1,hu1⟩
   . exact .inl rfl
   refine .inr ⟨t',ht1,fun v S A hT hf=>?_⟩;have hlt:=a0o t' v S A hT;refine⟨a1L r false x x' hx (by rw[a0j,if_pos rfl]) hlen (by rw[a0y]) (fun _=>by rw[a0y]) (fun q hq=>by rw[a0j,if_neg hq]) (fun q hq _=>a0z _ _ hq) h.r.roots (fun q hq c hc=>hsame c (h.r.lt q c hc) fun hc2=>hq (h.r.disj q r c hc hc2)) hbase.size t' v S A hu1 hT (fun c hc=>hsame c (hlt c hc) (hf c hc r)),fun c hc q hq=>?_⟩;by_cases hqr:q=r
   . subst hqr;rw[a0y]at hq;rcases hF c hq with h4|h4
     . exact hf c hc q h4
     . have:=hlt c hc;omega
   . rw[a0z _ _ hqr]at hq;exact hf c hc q hq
 . refine a6y h.r r x x' hx ⟨(G r).vs,(G r).blk,F',S'⟩ (F'.filter fun c=>decide (w.heap.size≤c)) [] hx' hn (fun c hc=>?_) (fun c hc => .inl (hS c hc)) hnew (fun b hb=>?_) (a1o _ _) (fun b h1 h2 _=>hsame b h1 h2) hbase
   . rcases hF c hc with h1|h1
     . exact .inl h1
     . exact .inr (yc.2 ⟨hc,by simpa using h1⟩)
   . have hb2:w.heap.size≤b:=by simpa using(yc.1 hb).2
     refine⟨fun p hp=>?_,fun p y hy hp=>?_,.inl (Nat.le_trans h.r.base.size hb2)⟩
     . have:=h.r.lt p b hp;omega
     . have:=a0N (h.r.roots p y hy) b (.inr hp);omega
theorem a6J (a:Act) {d:Option Nat} (v:Value) {τ:Nat} (h:d≠some τ):(a.put d v).eval (.tmp τ)=a.eval (.tmp τ):=by
 cases d with
 | none=>rfl
 | some d=>simp[Act.put,Act.eval,zT,Array.getElem?_setIfInBounds,show d≠τ from fun e=>h (by rw[e])]
theorem a4E (a:Act) {d:Nat} (v:Value) (h:d<a.tmps.size):(a.put (some d) v).eval (.tmp d)=v:=by
 simp[Act.put,Act.eval,zT,h]
theorem b4Z (a:Act) (d:Option Tmp) (v:Value):(a.put d v).tmps.size=a.tmps.size:=by
 cases d with
 | none=>rfl
 | some d=>simp[Act.put]
theorem b0O {E:Env} {R:Type} {c:Ctx} {o1 o2 o3:Oper} {σ:St} {a:Act} {w:World} {G:Nat->RG} {k:St->Option R} {r:R} (ht:TabOK P c.tab) (h:Rel P E σ a w G) (hk:a6D c o1 o2 o3 σ k=some r) :
   ∃ d1 d2 v1 v2 w1 w3 σ' G',o1.dst=some d1/\o2.dst=some d2/\o3.dst=none/\(execOp a.eval o1).run P w = .ok (.value v1) w1/\(execOp (a.put (some d1) v1).eval o2).run P w1 = .ok (.value v2) w1/\(execOp ((a.put (some d1) v1).put (some d2) v2).eval o3).run P w1 = .ok .skip w3/\Rel P E σ' ((a.put (some d1) v1).put (some d2) v2) w3 G'/\k σ'=some r:=by
 unfold a6D at hk;split at hk
 case h_2=>cases hk
 rename_i args ats d1 T2 ax ix d2 T3 e2 e1 ho1 hd1 ho2 hd2 ho3 hd3;split at hk
 case h_2=>cases hk
 rename_i s x T T' hargs hats;split at hk
 case h_2=>cases hk
 rename_i hTT hT3 he1 he2 hd12 _ _ _ _ _ hlt;subst hTT hT3 he1 he2;simp only[zq]at hlt;have hl1:=zP hlt.1;have hl2:=zP hlt.2;split at hk
 case h_2=>cases hk
 rename_i t e fs r0 p hT hev;split at hk
 case h_2=>cases hk
 rename_i ys kd σx root hns hra hroot;split at hk
 case h_2=>cases hk
 rename_i xs m hsl;split at hk
 case h_2=>cases hk
 rename_i hown;split at hk
 case isFalse=>cases hk
 rename_i hbig;rcases a8N hk with⟨_,_,hk2⟩|⟨k0,n,t2,e3,fs3,r2,p2,root2,m2,xs2,rest2,hix,hT2,hax,hroot2,hg2,hn0,hn1,hk2⟩
 . exact nomatch (show none=some r from hk2)
 clear hk;dsimp only at hk2;split at hk2
 case h_2=>cases hk2
 rename_i hr2 ii _ hone;subst hr2;split at hk2
 case isFalse=>cases hk2
 rename_i hii;split at hk2
 case h_2=>cases hk2
 rename_i cs' hset;obtain⟨a0,i,sz,j,rfl,hp2⟩:=b3L hone hii;simp only[Path.hop.injEq]at hp2;obtain⟨rfl,rfl,rfl,rfl⟩:=hp2;have hroot2:rget σ.rs r2=some root2:=hroot2;rw[hroot]at hroot2;obtain rfl:=zc hroot2;obtain⟨rest,hg⟩:=a6r hsl;obtain⟨hu,ti,hti,rfl⟩:=ht.slice T t e fs hT;obtain⟨inf,hinf,hsz,hb0,hb1,hz⟩:=ht.info e ti hti;obtain⟨hu2,ti2,hti2,rfl⟩:=ht.slice T2 t2 e3 fs3 hT2;obtain⟨inf2,hinf2,hsz2,-⟩:=ht.info e3 ti2 hti2;obtain⟨S0,A0,hx,-⟩:=a0q h s;rw[hev]at hx;obtain⟨rfl,rfl,y,ad,us,hy,hp,hl,hnn,hsv⟩:=hx;rw[hroot]at hy;obtain rfl:=zc hy;obtain⟨FF,hcs,hmem⟩:=h.r.roots r2 root hroot;obtain⟨b,arr,eb,pre,us0,post,G1,G2,Fm,F2,S1,Sm,S2,hb,harr,hpre,hFF,hSS,hrep,hl0,hup⟩:=b3A (G r2).base hcs (.root a0) n.toNat ti2.t.sz 0 hp;obtain⟨had,rfl⟩:=a0r hl hl0;rw[hg]at hrep;obtain⟨v0,us',E1,E2,D1,D2,rfl,rfl,rfl,hc0,hrest⟩:=a0T hrep;have hv0:v0=a.eval s:=by simpa[a0E]using hsv
 obtain⟨usx,hd,Fe,hrow,rfl,hrl⟩:=a4x hown hc0;obtain⟨rfl,rfl,hrl'⟩:=a1t hns hrl;rw[zm]at hFF hc0;obtain⟨g1,hg1,hfresh⟩:=a3j h 0;obtain⟨_,A,cc,usy,-,-,-,hevx,hul',hcell,hne,honeC,hel⟩:=a3c h hra g1 (hfresh g1 (ze _)).1 (hfresh g1 (ze _)).2;have hyl:RepL (Rep w ti.t m.inn) ys usy [] []:=by
   cases kd with
   | copy=>exact hel.1 m.inn
   | move=>obtain⟨Fy,Sy,hry,-⟩:=hel;exact(a1t hns hry).2.2 _
   | share=>obtain⟨Sy,hry,-⟩:=hel;exact(a1t hns hry).2.2 _
 obtain⟨v1,w1,hd',hrun,hbel,hsame,hrow',hhd,hhlt,hhn⟩:=b3a (P:=P) (ty:=o1.type) (c':=cc) hu hinf hz hsz (a3l ht hti) (a3O _) hb1 hrow (a0Y hrl) hul' hcell hne honeC hbig;have hargs':args=#[s,x]:=by rw[<-zo (xs:=args),hargs]
 have hats':ats=#[T,T]:=by rw[<-zo (xs:=ats),hats]
 have run1:(execOp a.eval o1).run P w = .ok (.value v1) w1:=by
   subst hargs' hats';simp only[execOp,ho1,resolve,invoke,builtin,Sem.run_bind,Sem.run_pure,Result.andThen_ok,zO,zw,zK,hevx,<-hv0,hrun]
 have h1:Rel P E (σ.put (some e1) .dead) (a.put (some e1) v1) w G:=a0A h (some e1) (t := .dead) (v:=v1) ⟨rfl,rfl⟩ (Fine2.nil _ _);obtain⟨S3,A3,hxa,-⟩:=a0q h1 ax;rw[hax]at hxa;obtain⟨rfl,rfl,y2,ad2,us2,hy2,hp2,hl2',hnn2,hsv2⟩:=hxa;have hy2:rget σ.rs r2=some y2:=hy2;rw[hroot]at hy2;obtain rfl:=zc hy2;obtain⟨AA,cc2,us3,rfl,hva,FF2,SS2,hc2,hFF2,hSS2⟩:=a5T (h.r.roots r2 root hroot) hp2 hl2' hnn2 hg2 hsv2;obtain⟨A5,n5,c5,ad5,us5,hl5,hi5,had5,-⟩:=hl;obtain⟨-,he5⟩:=a0r hl2' hl5;simp only[zp]at he5;rw[hva]at he5;simp only[Value.slice.injEq]at he5;obtain⟨⟨rfl,rfl,rfl⟩,-⟩:=he5;obtain⟨S6,A6,hxi,-⟩:=a0q h1 ix;have hevi:=a1y hxi hix;rw[had]at had5;have hadd:A5.add (n.toNat*ti2.t.sz)=(⟨b,0,none⟩:Addr).add (n.toNat*ti2.t.sz):=by
   have:=zc had5;simpa using this.symm
 have run2:(execOp (a.put (some e1) v1).eval o2).run P w1 = .ok (.value (.pointer (some ((⟨b,0,none⟩:Addr).add (n.toNat*ti2.t.sz))))) w1:=by
   have:=a4L (P:=P) hu2 hinf2 A5 xs2.length cc2 k0 n hn0 hn1 w1;rw[hsz2,hadd]at this;simp[execOp,ho2,hva,hevi,this]
 have h2:=a0A h1 (some e2) (t := .dead) (v := .pointer (some ((⟨b,0,none⟩:Addr).add (n.toNat*ti2.t.sz)))) ⟨rfl,rfl⟩ (Fine2.nil _ _);have hFb:b∈FF/\(∀ q∈hd,q∈FF):=⟨by rw[hFF];simp,fun q hq=>by rw[hFF];simp[hq]⟩;have hFFG:(∀ q∈FF,q∈(G r2).F)/\FF.Nodup:=by
   have hnd:=h.r.nodup r2;rcases hmem with⟨_,_,he⟩|⟨_,_,_,_,_,_,_,he⟩<;>rw[he]at hnd ⊢
   . exact⟨fun q hq=>hq,hnd⟩
   . exact⟨fun q hq=>by simp[hq],(zi.1 hnd).2⟩
 have hnd0:=hFFG.2;rw[hFF]at hnd0;have hbhd:b∉hd:=fun hq=>by
   have:=(zb.1 hnd0).2.1;rw[zi]at this;exact this.1 (by simp[hq])
 have hblt:b<w.heap.size:=by
   rcases zI b w.heap.size with h5|h5
   . exact h5
   . simp[zy h5]at hb
 have hb1':w1.heap[b]? = some (.cells arr eb (0,0)):=by rw[hsame b hblt hbhd];exact hb
 have htl:(TInfo.t ⟨false,.sl ti.t,e,fs⟩).sz=1:=rfl;obtain⟨arr',harr'⟩:∃ arr':Array Value,arr'.toList=pre++((v1::us')++post):=⟨(pre++((v1::us')++post)).toArray,by simp⟩;have hv1c:v1.cells=[v1].toArray/\v1.oneCell'=true:=by
   rcases hrow' with⟨A9,rfl,-⟩|⟨_,_,_,_,_,rfl,-⟩<;>exact⟨rfl,rfl⟩
 have hsz3:pre.length+[v1].length≤arr.size:=by
   rw[<-zr,harr];simp
 have hst:=a3I (P:=P) ht (i:=⟨false,.sl ti.t,e,fs⟩) hT (w:=w1) (b:=b) (off:=pre.length) (arr:=arr) (e:=eb) (nvs:=[v1]) hb1' hsz3 rfl hv1c.1 (fun u hu=>by rw[zj.1 hu];exact hv1c.2) (arr':=arr') (by rw[harr',harr];simp);have hsize:a.tmps.size=σ.ts.length:=h.temps.1;have run3:(execOp ((a.put (some e1) v1).put (some e2) (.pointer (some ((⟨b,0,none⟩:Addr).add (n.toNat*ti2.t.sz))))).eval o3).run P w1 = .ok .skip (w1.setRow b arr'):=by
   have q1:((a.put (some e1) v1).put (some e2) (.pointer (some ((⟨b,0,none⟩:Addr).add (n.toNat*ti2.t.sz))))).eval (.tmp e1)=v1:=by
     rw[a6J _ _ (by intro e;exact hd12 (zc e).symm),a4E _ _ (by rw[hsize];exact hl1)]
   have q2:((a.put (some e1) v1).put (some e2) (.pointer (some ((⟨b,0,none⟩:Addr).add (n.toNat*ti2.t.sz))))).eval (.tmp e2) = .pointer (some ⟨b,pre.length,none⟩):=by
     rw[a4E _ _ (by rw[b4Z,hsize];exact hl2),hpre,Addr.add_lit,zL,zH]
   simp[execOp,ho3,q1,q2,hst]
 have hw3:∀ q,q≠b->(w1.setRow b arr').heap[q]? = w1.heap[q]? := fun q hq=>setRow_other w1 b q arr' hq;have hbel3:Bel w (w1.setRow b arr'):=hbel.trans ⟨rfl,rfl,rfl,by simp,ze _⟩;have hsame3:∀ q,q<w.heap.size->q∉hd->q≠b->(w1.setRow b arr').heap[q]? = w.heap[q]? := fun q h5 h6 h7=>by rw[hw3 q h7,hsame q h5 h6]
 have hlt3:∀ q∈FF++(G r2).S,q<w.heap.size:=fun q hq=>a3F hcs q (by simpa using hq);have hshr:=h.r.shr r2 root hroot;have hnotS:∀ q∈FF,q∉(G r2).S:=fun q hq hqs=>(hshr q hqs).1 r2 (hFFG.1 q hq);have hrow3:Row (w1.setRow b arr') ti.t.sz (xs.length+ys.length) v1 (usx++usy) hd':=by
   rcases hrow' with h5|⟨b9,arr9,e9,sp9,c9,h51,h52,h53,h54⟩
   . exact .inl h5
   . refine .inr ⟨b9,arr9,e9,sp9,c9,h51,h52,?_,h54⟩;rw[hw3 b9 ?_];exact h53;rintro rfl;rcases hhd b9 (by rw[h52];simp)with h6|h6
     . exact hbhd h6
     . omega
 have hall:RepL (Rep (w1.setRow b arr') ti.t m.inn) (xs++ys) (usx++usy) [] []:=by
   have q1:=a1D (w':=w1.setRow b arr') (hrl' m.inn) (by simp[a0a]);have q2:=a1D (w':=w1.setRow b arr') hyl (by simp[a0a]);exact(a0R xs ys _ _ _).2 ⟨usx,usy,[],[],[],[],rfl,rfl,rfl,q1,q2⟩
 have hrepN:=a2C hown (xs:=xs++ys) (by simpa using hrow3) hall;rw[zm]at hrepN;have hrest3:a0K (w1.setRow b arr') rest us' E2 D2:=a0I hrest fun q hq=>by
   have hqF:q∈FF∨q∈(G r2).S:=by
     simp only[za]at hq;rcases hq with hq|hq
     . left;rw[hFF];simp[hq]
     . right;rw[hSS];simp[hq]
   refine hsame3 q (hlt3 q (by simpa using hqF)) (fun hqd=>?_) (fun hqb=>?_)
   . simp only[za]at hq;rcases hq with hq|hq
     . have q3:=(zb.1 (zb.1 (zb.1 (zi.1 (zb.1 hnd0).2.1).2).2.1).1).2.2;exact q3 q hqd q hq rfl
     . exact hnotS q (hFb.2 q hqd) (by rw[hSS];simp[hq])
   . subst hqb;simp only[za]at hq;rcases hq with hq|hq
     . have:=(zb.1 hnd0).2.1;rw[zi]at this;exact this.1 (by simp[hq])
     . exact hnotS q hFb.1 (by rw[hSS];simp[hq])
 rw[hg,List.drop_one,List.tail_cons]at hset;have hnewcs:=hup (w1.setRow b arr') (⟨.sl ti.t,m,xs++ys⟩::rest) (v1::us') arr' (hd'++E2) ([]++D2) cs' (setRow_heap w1 b arr _ eb _ hb1') harr' (fun q hq=>by
   have hqF:q∈FF∨q∈(G r2).S:=by
     simp only[za]at hq;rw[hFF,hSS];simp only[za,zk]
     grind
   refine hsame3 q (hlt3 q (by simpa using hqF)) (fun hqd=>?_) (fun hqb=>?_)
   . simp only[za]at hq;rcases hq with((hq|hq)|hq)|hq
     . rcases hq with hq|hq
       . exact(zb.1 hnd0).2.2 q hq q (by simp[hqd]) rfl
       . exact(zb.1 (zi.1 (zb.1 hnd0).2.1).2).2.2 q hq q (by simp[hqd]) rfl
     . exact(zb.1 (zb.1 (zi.1 (zb.1 hnd0).2.1).2).2.1).2.2 q (by simp[hqd]) q hq rfl
     . exact hnotS q (hFb.2 q hqd) (by rw[hSS];simp[hq])
     . exact hnotS q (hFb.2 q hqd) (by rw[hSS];simp[hq])
   . subst hqb;simp only[za]at hq;rcases hq with((hq|hq)|hq)|hq
     . rcases hq with hq|hq
       . exact(zb.1 hnd0).2.2 q hq q (by simp) rfl
       . exact(zi.1 (zb.1 hnd0).2.1).1 (by simp[hq])
     . exact(zi.1 (zb.1 hnd0).2.1).1 (by simp[hq])
     . exact hnotS q hFb.1 (by rw[hSS];simp[hq])
     . exact hnotS q hFb.1 (by rw[hSS];simp[hq])) (a2U (c:=⟨.sl ti.t,m,xs++ys⟩) hrepN hrest3) hset
 have hlenc:root.cs.length≤cs'.length:=by
   have:=a2Y hset (by rw[hg];simp) hp;omega
 obtain⟨Fn,hFn⟩:∃ Fn,Fn=G1++b::(G2++((hd'++E2)++F2)):=⟨_,rfl⟩;have hFlt:∀ q∈FF,q<w.heap.size:=fun q hq=>hlt3 q (by simp[hq]);have hFn1:∀ q∈Fn,q∈FF∨w.heap.size≤q:=fun q hq=>by
   rw[hFn]at hq;rw[hFF];simp only[za,zk]at hq ⊢;rcases hq with hq|rfl|hq|(hq|hq)|hq
   . exact .inl (.inl hq)
   . exact .inl (.inr (.inl rfl))
   . exact .inl (.inr (.inr (.inl hq)))
   . rcases hhd q hq with h5|h5
     . exact .inl (.inr (.inr (.inr (.inl (.inl h5)))))
     . exact .inr h5
   . exact .inl (.inr (.inr (.inr (.inl (.inr hq)))))
   . exact .inl (.inr (.inr (.inr (.inr hq))))
 have hFn2:Fn.Nodup:=by
   have k0:∀ q∈G1++b::(G2++((hd++E2)++F2)),q<w.heap.size:=fun q hq=>hFlt q (by rw[hFF];exact hq);rw[hFn];obtain⟨n1,n2,n3⟩:=zb.1 hnd0;obtain⟨n4,n5⟩:=zi.1 n2;obtain⟨n6,n7,n8⟩:=zb.1 n5;obtain⟨n9,n10,n11⟩:=zb.1 n7;obtain⟨n12,n13,n14⟩:=zb.1 n9;have out:∀ q,q<w.heap.size->q∉hd->q∉hd':=fun q h5 h6 h7=>by
     rcases hhd q h7 with h8|h8
     . exact h6 h8
     . omega
   refine zb.2 ⟨n1,zi.2 ⟨fun hq=>?_,zb.2 ⟨n6,zb.2 ⟨zb.2 ⟨hhn,n13,fun q hq q' hq' e=>?_⟩,n10,fun q hq q' hq' e=>?_⟩,fun q hq q' hq' e=>?_⟩⟩,fun q hq q' hq' e=>?_⟩
   . simp only[za]at hq n4;rcases hq with hq|(hq|hq)|hq
     . exact n4 (.inl hq)
     . exact out b hblt hbhd hq
     . exact n4 (.inr (.inl (.inr hq)))
     . exact n4 (.inr (.inr hq))
   . subst e;exact out q (k0 q (by simp[hq'])) (fun h5=>n14 q h5 q hq' rfl) hq
   . subst e;simp only[za]at hq;rcases hq with hq|hq
     . exact out q (k0 q (by simp[hq'])) (fun h5=>n11 q (by simp[h5]) q hq' rfl) hq
     . exact n11 q (by simp[hq]) q hq' rfl
   . subst e;simp only[za]at hq';rcases hq' with(hq'|hq')|hq'
     . exact out q (k0 q (by simp[hq])) (fun h5=>n8 q hq q (by simp[h5]) rfl) hq'
     . exact n8 q hq q (by simp[hq']) rfl
     . exact n8 q hq q (by simp[hq']) rfl
   . subst e;simp only[za,zk]at hq';rcases hq' with rfl|hq'|(hq'|hq')|hq'
     . exact n3 q hq q (by simp) rfl
     . exact n3 q hq q (by simp[hq']) rfl
     . exact out q (k0 q (by simp[hq])) (fun h5=>n3 q hq q (by simp[h5]) rfl) hq'
     . exact n3 q hq q (by simp[hq']) rfl
     . exact n3 q hq q (by simp[hq']) rfl
 rw[<-hFn]at hnewcs;have hSn:∀ q∈S1++(([]++D2)++S2),q∈(G r2).S:=fun q hq=>by rw[hSS];simpa using hq
 have fin:∀ F',a0S (w1.setRow b arr') ⟨root.mem,cs'⟩ ⟨(G r2).vs,(G r2).blk,F',S1++(([]++D2)++S2)⟩->F'.Nodup->(∀ q∈F',q∈(G r2).F∨w.heap.size≤q)->∃ σ' G',Rel P E σ' ((a.put (some e1) v1).put (some e2) (.pointer (some ((⟨b,0,none⟩:Addr).add (n.toNat*ti2.t.sz))))) (w1.setRow b arr') G'/\k σ'=some r:=fun F' q1 q2 q3 =>
   ⟨_,_,a7p h2 r2 root ⟨root.mem,cs'⟩ hroot F' _ q1 hlenc q2 q3 hSn (fun q h5 h6=>hsame3 q h5 (fun h7=>h6 (hFFG.1 q (hFb.2 q h7))) fun h7=>h6 (by rw[h7];exact hFFG.1 b hFb.1)) hbel3,hk2⟩
 have last:∃ σ' G',Rel P E σ' ((a.put (some e1) v1).put (some e2) (.pointer (some ((⟨b,0,none⟩:Addr).add (n.toNat*ti2.t.sz))))) (w1.setRow b arr') G'/\k σ'=some r:=by
   rcases hmem with⟨q1,q2,q3⟩|⟨q1,bb,arr0,e0,q2,q3,q4,q5⟩
   . exact fin Fn ⟨Fn,hnewcs,.inl ⟨q1,q2,rfl⟩⟩ hFn2 fun q hq=>by rw[q3];exact hFn1 q hq
   . have hnd:=h.r.nodup r2;rw[q5]at hnd;have hbb:=(zi.1 hnd).1;have hbbl:bb<w.heap.size:=h.r.lt r2 bb (by rw[q5];simp);refine fin (bb::Fn) ⟨Fn,hnewcs,.inr ⟨q1,bb,arr0,e0,q2,?_,q4,rfl⟩⟩ (zi.2 ⟨fun hq=>?_,hFn2⟩) fun q hq=>?_
     . rw[hsame3 bb hbbl (fun h7=>hbb (hFb.2 bb h7)) fun h7=>hbb (by rw[h7];exact hFb.1)];exact q3
     . rcases hFn1 bb hq with h5|h5
       . exact hbb h5
       . omega
     . rw[q5];rcases zk.1 hq with rfl|hq
       . exact .inl (by simp)
       . exact(hFn1 q hq).imp (fun h5=>by simp[h5]) id
 obtain⟨σ',G',l1,l2⟩:=last;exact⟨e1,e2,v1,_,w1,_,σ',G',hd1,hd2,hd3,run1,run2,run3,l1,l2⟩
end Go.Vm
end
section
namespace Go.Vm
variable {P:Program}
theorem run_cp0 {w:World} {T T' ty e:TypeId} {i:TypeInfo} (ht:P.underlying T=some (.slice e)) (hi:P.info? e=some i) (A:Option Addr) (dl dc:Nat) (A':Option Addr) (m c':Nat) (h0:Nat.min m dl=0) :
   (Builtin.copy_ #[T,T'] ty #[.slice A dl dc,.slice A' m c']).run P w = .ok (goInt 0) w:=by
 have hf:(Builtin.firstCells i.size 0 (.slice A' m c')).run P w = .ok #[] w:=by
   cases A' with
   | none=>exact run_firstCells_none _ _ _ _ _
   | some ad=>exact run_firstCells_some (P:=P) w i.size 0 ad m c' [] (by simp) (by simp)
 cases A with
 | none=>simp[Builtin.copy_,run_underlying ht,sizeOf,typeInfo,hi,Builtin.lenOf,h0,hf]
 | some ad=>simp[Builtin.copy_,run_underlying ht,sizeOf,typeInfo,hi,Builtin.lenOf,h0,hf,storeCells]
theorem run_cp {w:World} {T T' ty e:TypeId} {i:TypeInfo} (ht:P.underlying T=some (.slice e)) (hi:P.info? e=some i) {b off dl dc:Nat} {arr:Array Value} {e0:TypeId} (hb:w.heap[b]? = some (.cells arr e0 (0,0))) {a:Addr} {m c' n:Nat} (hn:Nat.min m dl=n) {news:List Value} (hl:news.length=n*i.size) (hnews:∀ j u,news[j]? = some u->w.cell? (a.add j)=some u) (h1:∀ u∈news,u.oneCell'=true) (hfit:off+news.length≤arr.size) :
   (Builtin.copy_ #[T,T'] ty #[.slice (some ⟨b,off,none⟩) dl dc,.slice (some a) m c']).run P w = .ok (goInt n) (w.setRow b (arr.toList.take off++news++arr.toList.drop (off+news.length)).toArray):=by
 have hf:=run_firstCells_some (P:=P) w i.size n a m c' news hl hnews;have hst:=run_storeCells_at P b off e0 news 0 arr w hb (by simpa using hfit) h1;simp only[zH]at hst;simp[Builtin.copy_,run_underlying ht,sizeOf,typeInfo,hi,Builtin.lenOf,hn,hf,hst]
theorem a8i {w:World} {t:Ty} {m:Mode} {xs:List t.den} {us:List Value} (h:RepL (Rep w t m) xs us [] []) (l:Nat) (hl:l≤xs.length):RepL (Rep w t m) (xs.take l) (us.take (l*t.sz)) [] []/\RepL (Rep w t m) (xs.drop l) (us.drop (l*t.sz)) [] []:=by
 rw[<-zN l xs]at h;obtain⟨u1,u2,F1,F2,S1,S2,hu,hF,hS,h1,h2⟩:=(a0R _ _ _ _ _).1 h;obtain⟨rfl,rfl⟩:=zG.1 hF.symm;obtain⟨rfl,rfl⟩:=zG.1 hS.symm;have hl1:=a0Y h1;rw[zu,yd hl]at hl1;rw[hu,<-hl1,z0,List.drop_left];exact⟨h1,h2⟩
theorem b1t {E:Env} {R:Type} {o:Oper} {σ:St} {a:Act} {w:World} {G:Nat->RG} {k:St->Option R} {r:R} {c:Ctx} {cl:Call} {T T':TypeId} {d x:Operand} (ho:o.op = .call cl) (hcl:cl.callee = .builtin .copy) (hargs:cl.args.toList=[d,x]) (hat:cl.argTypes.toList=[T,T']) (ht:TabOK P c.tab)
   (h:Rel P E σ a w G) (hk:b4k c o T d x σ k=some r):Good P E o a w k r:=by
 have hargs':cl.args=#[d,x]:=by rw[<-zo (xs:=cl.args),hargs]
 have hat':cl.argTypes=#[T,T']:=by rw[<-zo (xs:=cl.argTypes),hat]
 unfold b4k at hk;split at hk
 case h_2=>cases hk
 rename_i t e fs z r0 j tl th hT hev;split at hk
 case h_2=>cases hk
 rename_i k1 l k2 hh root ys kd σx hns htl hth hroot hra;split at hk
 case h_2=>cases hk
 rename_i xs m hz hsl _;subst hz;split at hk
 case h_2=>cases hk
 rename_i hown;split at hk
 case isFalse=>cases hk
 rename_i hb;obtain⟨hb0,hb1,hb2⟩:=hb;obtain⟨hu,ti,hti,rfl⟩:=ht.slice T t e fs hT;obtain⟨inf,hinf,hsz,-⟩:=ht.info e ti hti;obtain⟨rest,hg⟩:=a6r hsl;obtain⟨L,rfl⟩:=zn hb0;obtain⟨H,rfl⟩:=zn (Int.le_trans hb0 hb1);have hLH:L≤H:=by omega
 have hHx:H≤xs.length:=by omega
 obtain⟨S0,A0,hx,-⟩:=a0q h d;rw[hev]at hx;obtain⟨vs,htup,hts⟩:=hx;obtain⟨A,n,cp,k3,k4,l',h',rfl,hl1,hl2,hdv⟩:=htup;obtain⟨v1,vs1,S1,S2,A1,A2,hvs,-,-,hr1,hts⟩:=hts;obtain⟨v2,vs2,S3,S4,A3,A4,hvs2,-,-,hr2,hts⟩:=hts;obtain⟨v3,vs3,S5,S6,A5,A6,hvs3,-,-,hr3,hts⟩:=hts;simp only[zp]at hvs;obtain⟨rfl,rfl⟩:=hvs;simp only[zp]at hvs2;obtain⟨rfl,rfl⟩:=hvs2;simp only[zp]at hvs3;obtain⟨rfl,rfl⟩:=hvs3;have el:=a1y hr2 htl;have eh:=a1y hr3 hth;simp only[Value.int.injEq]at el eh;have el2:l'=L:=by have:=el.2;omega
 have eh2:h'=H:=by have:=eh.2;omega
 subst el2 eh2;obtain⟨-,-,y,ad,us,hy,hp,hl,hnn,hsv⟩:=hr1;rw[hroot]at hy;obtain rfl:=zc hy;obtain⟨FF,hcs,hmem⟩:=h.r.roots r0 root hroot;obtain⟨F1,Fm,F2,T1,Tm,T2,us2,ad2,hFF,hSS,hrep,hl2',hup⟩:=lens (G r0).base hcs (.root j) hp;obtain⟨-,rfl⟩:=a0r hl hl2';have hg':a0W root.cs (.root j)=⟨.sl ti.t,m,xs⟩::rest:=hg;rw[hg']at hrep;obtain⟨v0,us',E1,E2,D1,D2,rfl,rfl,rfl,hc0,hrest⟩:=a0T hrep;have hv0:v0 = .slice A n cp:=by simpa[a0E]using hsv
 subst hv0;obtain⟨usx,hd,Fe,hrow,rfl,hrl⟩:=a4x hown hc0;obtain⟨rfl,rfl,hrl'⟩:=a1t hns hrl;have hux:usx.length=xs.length*ti.t.sz:=a0Y hrl
 replace hrow:Row w ti.t.sz xs.length (.slice A n cp) usx hd:=hrow
 have hnx:n=xs.length:=by
   obtain⟨A8,c8,e8⟩:=a1I (t:=ti.t) (m:=m) (xs:=xs) hc0;simp only[Value.slice.injEq]at e8;exact e8.2.1
 rw[zm]at hFF hc0;obtain⟨g1,hg1,hfresh⟩:=a3j h 0;obtain⟨_,A7,cc,usy,-,-,-,hevx,hul',hcell,hne,honeC,hel⟩:=a3c h hra g1 (hfresh g1 (ze _)).1 (hfresh g1 (ze _)).2;have hyl:RepL (Rep w ti.t m.inn) ys usy [] []:=by
   cases kd with
   | copy=>exact hel.1 m.inn
   | move=>obtain⟨Fy,Sy,hry,-⟩:=hel;exact(a1t hns hry).2.2 _
   | share=>obtain⟨Sy,hry,-⟩:=hel;exact(a1t hns hry).2.2 _
 have hHL:(((h':Nat):Int)-((l':Nat):Int)).toNat=h'-l':=by omega
 obtain⟨N,hN⟩:∃ N,N=Nat.min ys.length (h'-l'):=⟨_,rfl⟩;have hNm:N=min (h'-l') ys.length:=by rw[hN,Nat.min_comm]
 have hNl:(ys.take (h'-l')).length=N:=by rw[zu,hNm]
 rw[hHL,hNl]at hk;have hNy:N≤ys.length:=by rw[hNm];exact Nat.min_le_right _ _
 have hNh:N≤h'-l':=by rw[hNm];exact Nat.min_le_left _ _
 have hty:ys.take (h'-l')=ys.take N:=by rw[hNm,List.take_eq_take_iff];simp
 have hrunx:∀ v w',(Builtin.copy_ #[T,T'] o.type #[a.eval d,.slice A7 ys.length cc]).run P w = .ok v w'->(execOp a.eval o).run P w = .ok (.value v) w':=fun v w' hr=>by
   have ho':o.op = .call { callee := .builtin .copy,args:=#[d,x],argTypes:=#[T,T'] }:=by rw[ho,<-hcl,<-hargs',<-hat']
   simp only[execOp,ho',resolve,invoke,builtin,Sem.run_bind,Sem.run_pure,Result.andThen_ok,zO,zw,zK,hevx,hr]
 have hxs':a8G xs ((l':Nat):Int) ((h':Nat):Int) ys=xs.take l'++(ys.take N++xs.drop (l'+N)):=by
   unfold a8G;rw[hHL,zx,hNl,hty]
 have hlen':(a8G xs ((l':Nat):Int) ((h':Nat):Int) ys).length=xs.length:=by
   rw[hxs'];simp only[zt,zu,zC];omega
 have hFFG:(∀ q∈FF,q∈(G r0).F)/\FF.Nodup:=by
   have hnd:=h.r.nodup r0;rcases hmem with⟨_,_,he⟩|⟨_,_,_,_,_,_,_,he⟩<;>rw[he]at hnd ⊢
   . exact⟨fun q hq=>hq,hnd⟩
   . exact⟨fun q hq=>by simp[hq],(zi.1 hnd).2⟩
 have hnd0:=hFFG.2;rw[hFF]at hnd0;have hhd:∀ q∈hd,q∈FF:=fun q hq=>by rw[hFF];simp[hq]
 have hlt3:∀ q∈FF++(G r0).S,q<w.heap.size:=fun q hq=>a3F hcs q (by simpa using hq);have hshr:=h.r.shr r0 root hroot;have hnotS:∀ q∈FF,q∉(G r0).S:=fun q hq hqs=>(hshr q hqs).1 r0 (hFFG.1 q hq);have hr1:root.cs.drop (j+1)=rest:=by
   have:=congrArg List.tail hg
   rwa [List.tail_drop]at this
 have fin:∀ (w':World) (usx':List Value),Bel w w'->(∀ q,q<w.heap.size->q∉hd->w'.heap[q]? = w.heap[q]?)->Row w' ti.t.sz xs.length (.slice A n cp) usx' hd->RepL (Rep w' ti.t m.inn) (a8G xs l' h' ys) usx' [] []->(Builtin.copy_ #[T,T'] o.type #[a.eval d,.slice A7 ys.length cc]).run P w = .ok (goInt N) w'->Good P E o a w k r:=by
   intro w' usx' hbel hsame hrow' hall hrun;have hrepN:=a2C hown (xs:=a8G xs l' h' ys) (by rw[hlen'];exact hrow') hall;rw[zm]at hrepN;have hrest3:a0K w' rest us' E2 D2:=a0I hrest fun q hq=>by
     have hqF:q∈FF∨q∈(G r0).S:=by
       simp only[za]at hq;rcases hq with hq|hq
       . left;rw[hFF];simp[hq]
       . right;rw[hSS];simp[hq]
     refine hsame q (hlt3 q (by simpa using hqF)) fun hqd=>?_;simp only[za]at hq;rcases hq with hq|hq
     . exact(zb.1 (zb.1 (zb.1 hnd0).2.1).1).2.2 q hqd q hq rfl
     . exact hnotS q (hhd q hqd) (by rw[hSS];simp[hq])
   have hnewcs:=hup w' (⟨.sl ti.t,m,a8G xs l' h' ys⟩::rest) (hd++E2) ([]++D2) _ (fun q hq=>by
     have hqF:q∈FF∨q∈(G r0).S:=by
       simp only[za]at hq;rw[hFF,hSS];simp only[za]
       grind
     refine hsame q (hlt3 q (by simpa using hqF)) fun hqd=>?_;simp only[za]at hq;rcases hq with((hq|hq)|hq)|hq
     . exact(zb.1 hnd0).2.2 q hq q (by simp[hqd]) rfl
     . exact(zb.1 (zb.1 hnd0).2.1).2.2 q (by simp[hqd]) q hq rfl
     . exact hnotS q (hhd q hqd) (by rw[hSS];simp[hq])
     . exact hnotS q (hhd q hqd) (by rw[hSS];simp[hq])) (a2U (c:=⟨.sl ti.t,m,a8G xs l' h' ys⟩) hrepN hrest3) rfl
   have hroot':a0S w' ⟨root.mem,root.cs.take j++⟨.sl ti.t,m,a8G xs l' h' ys⟩::root.cs.drop (j+1)⟩ ⟨(G r0).vs,(G r0).blk,(G r0).F,T1++(([]++D2)++T2)⟩:=by
     rw[hr1];refine⟨FF,by rw[hFF];exact hnewcs,?_⟩;rcases hmem with⟨q1,q2,q3⟩|⟨q1,bb,arr0,e0,q2,q3,q4,q5⟩
     . exact .inl ⟨q1,q2,q3⟩
     . refine .inr ⟨q1,bb,arr0,e0,q2,?_,q4,q5⟩;have hnd:=h.r.nodup r0;rw[q5]at hnd;rw[hsame bb (h.r.lt r0 bb (by rw[q5];simp)) fun hq=>(zi.1 hnd).1 (hhd bb hq)];exact q3
   have hrel:=a7p h r0 root _ hroot (G r0).F _ hroot' (by
     have e1:=congrArg List.length hg;simp only[zC,zB]at e1;simp only[zt,zu,zB,zC];omega) (h.r.nodup r0) (fun c hc => .inl hc) (fun c hc=>by rw[hSS];simpa using hc) (fun q h5 h6=>hsame q h5 fun h7=>h6 (hFFG.1 q (hhd q h7))) hbel
   exact a0v (hrunx _ _ hrun) (a0A hrel o.dst (t:=vI (N:Int)) (v:=goInt N) ⟨rfl,[.int .i64 (N:Int)],⟨[_],[],[],[],[],[],rfl,rfl,rfl,⟨⟨_,rfl⟩,⟨rfl,rfl,rfl⟩⟩,⟨rfl,rfl,rfl⟩⟩,by simp[a0E,goInt]⟩ (Fine2.nil _ _)) hk
 rw[hdv]at fin;by_cases hN0:N=0
 . refine fin w usx (Bel.refl _) (fun _ _ _=>rfl) hrow ?_ ?_
   . rw[hxs',hN0,List.take_zero,zz,zH,zN];exact hrl' _
   . rw[hN0];exact run_cp0 hu hinf _ _ _ _ _ _ (by rw[<-hN,hN0])
 . have hNpos:0<N:=Nat.pos_of_ne_zero hN0;rcases hrow with⟨A9,h51,h52,-,-⟩|⟨b,arr,e0,sp,c9,h51,rfl,hbh,harr,hsz9,hcm,hc9⟩
   . exfalso;omega
   . simp only[Value.slice.injEq]at h51;obtain⟨rfl,rfl,rfl⟩:=h51;have hcl:¬ (cp=l'):=by omega
     rw[if_neg hcl]at fin;obtain⟨ad7,rfl⟩:∃ ad,A7=some ad:=by
       cases A7 with
       | none=>exact absurd rfl (hne (by omega))
       | some ad=>exact⟨ad,rfl⟩
     have hnl:(usy.take (N*ti.t.sz)).length=N*inf.size:=by
       rw[zu,hul',hsz];exact yd (zv _ hNy)
     have hfit:l'*ti.t.sz+(usy.take (N*ti.t.sz)).length≤arr.size:=by
       rw[hnl,hsz,hsz9,<-zF];exact zv _ (by omega)
     have hrun:=run_cp (P:=P) (T':=T') (ty:=o.type) (dl:=h'-l') (dc:=cp-l') (off:=l'*ti.t.sz) (a:=ad7) (m:=ys.length) (c':=cc) (n:=N) (news:=usy.take (N*ti.t.sz)) hu hinf hbh hN.symm hnl (fun q u hq=>hcell ad7 rfl q u (by
       rw[z4]at hq;split at hq
       . exact hq
       . cases hq)) (fun u hu=>honeC u (z1 hu)) hfit
     have hbl:b<w.heap.size:=by
       rcases zI b w.heap.size with h5|h5
       . exact h5
       . simp[zy h5]at hbh
     have hu1:usx.length=xs.length*ti.t.sz:=hux;have hm1:l'*ti.t.sz≤usx.length:=by rw[hu1];exact zv _ (by omega)
     have hm2:l'*ti.t.sz+N*ti.t.sz≤usx.length:=by rw[hu1,<-zF];exact zv _ (by omega)
     refine fin (w.setRow b (arr.toList.take (l'*ti.t.sz)++usy.take (N*ti.t.sz)++arr.toList.drop (l'*ti.t.sz+(usy.take (N*ti.t.sz)).length)).toArray) (usx.take (l'*ti.t.sz)++(usy.take (N*ti.t.sz)++usx.drop ((l'+N)*ti.t.sz))) (a3R _ _ _) (fun q _ hq=>setRow_other w b q _ (fun e=>hq (by simp[e]))) ?_ ?_ (by simp only[Option.map_some,Addr.add_lit,zL];exact hrun)
     . refine .inr ⟨b,_,e0,sp,cp,rfl,rfl,setRow_heap w b arr _ e0 _ hbh,?_,?_,hcm,hc9⟩
       . rw[hnl,hsz];simp only[harr,List.take_append_of_le_length hm1,z6,zF];rw[List.drop_append_of_le_length hm2]
       . simp only[zM,zt,zu,zC,zr]at hfit hnl ⊢;omega
     . rw[hxs'];have x1:l'≤xs.length:=Nat.le_trans hLH hHx;have x2:l'+N≤xs.length:=by have:N≤h'-l':=hNh;have:h'≤xs.length:=hHx;omega
       have k1:=(a8i (xs:=xs) (hrl' m.inn) l' x1).1;have k2:=(a8i hyl N hNy).1;have k3:=(a8i (xs:=xs) (hrl' m.inn) (l'+N) x2).2;have fr:∀ {zs:List ti.t.den} {us:List Value},RepL (Rep w ti.t m.inn) zs us [] []->RepL (Rep (w.setRow b (arr.toList.take (l'*ti.t.sz)++usy.take (N*ti.t.sz)++arr.toList.drop (l'*ti.t.sz+(usy.take (N*ti.t.sz)).length)).toArray) ti.t m.inn) zs us [] []:=fun hz=>a1D hz (by simp[a0a]);have k4:=(a0R _ _ _ _ _).2 ⟨_,_,[],[],[],[],rfl,rfl,rfl,fr k2,fr k3⟩;exact(a0R _ _ _ _ _).2 ⟨_,_,[],[],[],[],rfl,rfl,rfl,fr k1,k4⟩
end Go.Vm
end
section
namespace Go.Vm
variable {P:Program}
theorem a8x {E:Env} {R:Type} {o:Oper} {σ:St} {a:Act} {w:World} {G:Nat->RG} {k:St->Option R} {r:R} {c:Ctx} (hctx:CtxOK P c)
   (h:Rel P E σ a w G) (hk:a0C c o σ k=some r):Good P E o a w k r:=by
 unfold a0C at hk;split at hk
 . rename_i x ho;exact a7b (.inl ho) h hk
 . rename_i x ho;exact a7b (.inr ho) h hk
 . rename_i x y z ho;exact b2M ho h hk
 . rename_i T ho;exact b0L ho hctx.tab h hk
 . rename_i T x ho;exact b2u ho h hk
 . rename_i T x ho;exact b2k ho hctx.tab h hk
 . rename_i T x y ho;split at hk
   . rename_i hd;exact b1q ho hd hctx.tab h hk
   . cases hk
 . rename_i x ho;exact a7D ho h hk
 . rename_i op T x y T' ho;unfold binC at hk;split at hk
   . exact b1v ho h hk
   . split at hk
     . exact b2s ho h hk
     . exact b4D ho hctx h hk
 . rename_i op T x ho;exact b5x ho h hk
 . rename_i T x y ho;exact a6W ho hctx.tab h hk
 . rename_i T x f ho;exact a6K ho hctx.tab h hk
 . rename_i T x i ho;exact a6O ho hctx.tab h hk
 . rename_i T x f ho;exact b0W ho hctx.tab h hk
 . rename_i x i ho;exact a8J ho h hk
 . rename_i T len parts ho;split at hk
   . exact b3B ho hctx.tab h hk
   . exact a5i ho hctx.tab h hk
 . rename_i fn first caps ho;exact a7C ho h hk
 . rename_i T parts ho;split at hk
   . exact a9w ho hctx.tab h hk
   . exact b0Q ho hctx.tab h hk
 . rename_i S T x ho;exact a8F ho hctx.tab h hk
 . rename_i T x lo hi mx ho;split at hk
   . exact b3h ho hctx.tab h hk
   . exact b1j ho hctx.tab h hk
 . rename_i cl ho;split at hk
   . rename_i hcl;split at hk
     . rename_i x T hargs hat;split at hk
       . rename_i t e fs hT;exact b3k ho hcl hargs hat hT hctx.tab h hk
       . cases hk
     . cases hk
   . rename_i hcl;split at hk
     case h_2=>cases hk
     rename_i s x T T' hargs hat;split at hk
     . rename_i hTT _;subst hTT;exact a9x ho hcl hargs hat hctx.tab h hk
     . exact a8k ho hcl hargs hat hctx.tab h hk
   . rename_i hcl;split at hk
     case h_2=>cases hk
     rename_i d x T T' hargs hat;exact b1t ho hcl hargs hat hctx.tab h hk
   . rename_i hcl;split at hk
     case h_2=>cases hk
     rename_i x y hargs;exact b1O (mx:=false) ho hcl hargs h hk
   . rename_i hcl;split at hk
     case h_2=>cases hk
     rename_i x y hargs;exact b1O (mx:=true) ho hcl hargs h hk
   . rename_i f hcl;split at hk
     . rename_i g caps hf;split at hk
       . rename_i t hg;split at hk
         . exact b2j ho hcl h hf rfl (hctx.grows _ (b3j hg)) hk
         . cases hk
       . exact b0R ho hcl hctx h hf hk
     . rename_i s g hf;exact b0S ho hcl h hf hk
     . cases hk
   . cases hk
 . cases hk
end Go.Vm
end
section
namespace Go.Vm
variable {R:Type}
def b0o:TV->Bool
 | .view _ _ _ _=>false
 | _=>true
def a3B:Operand->Bool
 | .const (.slice none 0 0)=>true
 | _=>false
def a6X (s:Sig) (l:Lend):Bool:=(match l.wr,l.tk with
 | [],[]=>Nat.ble s.outs.length 4
 | _,_=>false)&&((a3V s.outs&&a1m s.ps)||(match l.lent with
 | []=>true
 | _=>false))
def a6h (c:Ctx) (g:FuncId) (az:List TV) (σ:St):List Callee->Bool
 | []=>false
 | e :: l=>match z7 e.f g with
   | .isTrue _=>match a0O c σ e.s.ps az with
     | some (_,ld)=>a6X e.s ld
     | none=>a6h c g az σ l
   | .isFalse _=>a6h c g az σ l
def a3Y:List PS->Bool
 | []=>true
 | .wr _ _ .shal::_=>false
 | .wp _ .shal::_=>false
 | _::l=>a3Y l
def a9M (g:FuncId):List Callee->Bool
 | []=>true
 | e::l=>match z7 e.f g with
   | .isTrue _=>a3Y e.s.ps
   | .isFalse _=>a9M g l
theorem b2V:∀ (ps:List PS) (az:List TV),a3Y ps=true->a8z ps az=[]:=by
 intro ps;induction ps with
 | nil=>intro az _;cases az<;>rfl
 | cons p ps ih =>
   intro az h;cases az with
   | nil =>
     cases p with
     | wr b t m=>cases m<;>rfl
     | wp t m=>cases m<;>rfl
     | _=>rfl
   | cons a az =>
     cases p with
     | wr b t m=>cases m<;>first|(simp[a3Y]at h;done)|(cases a<;>exact ih az (by simpa[a3Y]using h))
     | wp t m=>cases m<;>first|(simp[a3Y]at h;done)|(cases a<;>exact ih az (by simpa[a3Y]using h))
     | _=>cases a<;>exact ih az (by simpa[a3Y]using h)
theorem b2N {g:FuncId}:∀ (l:List Callee) (az:List TV),a9M g l=true->a7i g az l=[]:=by
 intro l;induction l with
 | nil=>intro az _;rfl
 | cons e l ih =>
   intro az h;simp only[a9M]at h;simp only[a7i];cases hd:z7 e.f g with
   | isTrue he=>simp only[hd]at h ⊢;exact b2V _ _ h
   | isFalse he=>simp only[hd]at h ⊢;exact ih az h
def a4S (c:Ctx) (e:TypeId) (σ:St):List Operand->Bool
 | []=>true
 | x::l=>(match a1C c σ e x with
   | some (.sh _ _)=>true
   | _=>false)&&a4S c e σ l
def b3u (c:Ctx) (σ:St):List (Nat×Operand)->Bool
 | []=>true
 | p::l=>(nilO p.2||(match a1C c σ 0 p.2 with
   | some (.sh _ _)=>true
   | _=>false))&&b3u c σ l
def a4U (c:Ctx) (o:Oper) (σ:St):Bool:=match o.op with
 | .buildSlice T _ parts=>match a4A c o,c.tab T with
   | true,_=>true
   | false,some ⟨false,.sl _,e,_⟩=>(match a3W 0 parts.toList with
     | some xs=>a4S c e σ xs
     | none=>false)
   | _,_=>false
 | .makeFunc _ _ _=>true
 | .build T parts=>match a4A c o,c.tab T with
   | true,_=>true
   | false,some ⟨true,t,e,f::fs⟩=>(a2x ⟨true,t,e,f::fs⟩ σ parts.toList).isSome||b3u c σ parts.toList
   | _,_=>false
 | .convert _ _ _=>true
 | .slice T x _ _ _=>match a4A c o with
   | true=>true
   | false=>a4S c T σ [x]
 | .move _=>true
 | .assign x=>!a3B x&&(a4A c o||b0o (a0x σ x))
 | .pick _ _ _=>true
 | .alloc _=>true
 | .box T x=>match a1C c σ T x with
   | some (.sh _ _)=>true
   | _=>false
 | .load _ _=>true
 | .nilCheck _=>true
 | .binOp _ _ _ _ _=>true
 | .unOp _ _ _=>true
 | .makeSlice _ _ _=>true
 | .fieldAddr _ _ _=>true
 | .indexAddr _ _ _=>true
 | .extract _ _=>true
 | .call cl=>match cl.callee with
   | .builtin .len=>true
   | .builtin .min=>true
   | .builtin .max=>true
   | .value f=>match a0x σ f with
     | .fn g caps=>match b2v c.grows g with
       | some _=>false
       | none=>a9M g c.callees&&a6h c g (cl.args.toList.map (a0x σ)++caps) σ (a1r c o)
     | .fnx s g=>match a1U σ s.ins (cl.args.toList.map (a0x σ))with
       | some (_,l)=>a6X ⟨[],s.outs⟩ ⟨l.1,l.2,[],[]⟩
       | none=>false
     | _=>false
   | _=>false
 | _=>false
def adds (o:Oper):Bool:=match o.op with
 | .move x=>a3B x
 | .alloc _=>true
 | .box _ _=>true
 | .makeSlice _ _ _=>true
 | .buildSlice _ _ _=>true
 | .build _ _=>true
 | .call cl=>match cl.callee with
   | .value _=>true
   | _=>false
 | _=>false
def a5N (c:Ctx) (e:TypeId) (t:Ty):List Operand->St->Option (List t.den×List Nat)
 | [],_=>some ([],[])
 | x :: l,σ=>match a1C c σ e x with
   | some (.sh _ cs)=>match a0u .deep t cs,a5N c e t l σ with
     | some y,some q=>some (y::q.1,q.2)
     | _,_=>none
   | some (.mv r _ cs)=>match a0u .deep t cs,a5N c e t l σ with
     | some y,some q=>some (y::q.1,r::q.2)
     | _,_=>none
   | none=>none
def b3Q (c:Ctx) (σ:St) (cs:List Cell) (x:Operand):Option (List Cell×List Nat):=match nilO x with
 | true=>match cs with
   | ⟨.sl t,_,_⟩::_=>some ([⟨.sl t,.deep,[]⟩],[])
   | _=>none
 | false=>match a1C c σ 0 x with
   | some (.sh _ pcs)=>some (pcs,[])
   | some (.mv q _ pcs)=>some (pcs,[q])
   | none=>none
def b3S (c:Ctx) (i:TInfo):List (Nat×Operand)->List Cell->St->Option (List Cell×List Nat)
 | [],cs,_=>some (cs,[])
 | (f, x)::l,cs,σ=>match nth (i.fs.map some) f none with
   | none=>none
   | some (off,sz,_)=>match b3Q c σ (cs.drop off) x with
     | none=>none
     | some p=>match z7 p.1.length sz,Nat.decLe (off+sz) cs.length with
       | .isTrue _,.isTrue _=>match b3S c i l (cs.take off++(p.1++cs.drop (off+sz))) σ with
         | some q=>some (q.1,p.2++q.2)
         | none=>none
       | _,_=>none
def a1a:List Nat->Bool
 | []=>true
 | x::l=>!hasN l x&&a1a l
def mvOp (c:Ctx) (o:Oper) (σ:St):Option (List Nat×(Nat×Root)×TV):=match o.dst with
 | none=>none
 | some d=>match o.op with
   | .buildSlice T len parts=>match a4A c o,c.tab T,a3W 0 parts.toList with
     | false,some ⟨false,.sl t,e,_⟩,some xs=>match Nat.beq xs.length len&&Nat.ble (len*t.sz) 16384,a5N c e t xs σ with
       | true,some q=>match a1a q.2&&!hasN q.2 (4*d)with
         | true=>some (q.2,(4*d,⟨false,[⟨.sl t,.deep,q.1⟩]⟩),.view (4*d) (.root 0) 1 false)
         | false=>none
       | _,_=>none
     | _,_,_=>none
   | .build T parts=>match a4A c o,c.tab T with
     | false,some ⟨true,t,e,f::fs⟩=>match a2x ⟨true,t,e,f::fs⟩ σ parts.toList with
       | some _=>none
       | none=>match b3S c ⟨true,t,e,f::fs⟩ parts.toList (enc .deep t t.dflt) σ with
         | some q=>match a1a q.2&&!hasN q.2 (4*d)with
           | true=>some (q.2,(4*d,⟨false,q.1⟩),.view (4*d) (.root 0) q.1.length true)
           | false=>none
         | none=>none
     | _,_=>none
   | _=>none
def a2w:List (Nat×Root)->St->St
 | [],σ=>σ
 | p::N,σ=>a2w N (σ.new p.1 p.2)
def a3J (σ σ':St) (t:TV):Prop:=∀ r,t.uses r=true->rget σ'.rs r=rget σ.rs r
def a2b (σ σ':St) (ts:List TV):Prop:=∀ r,TV.usesL r ts=true->rget σ'.rs r=rget σ.rs r
structure Agree (o:Oper) (σ σ':St):Prop where
 tv:∀ x∈o.op.operands,a0x σ' x=a0x σ x
 rs:∀ x∈o.op.operands,a3J σ σ' (a0x σ x)
structure Local (c:Ctx) (o:Oper) (σ:St) (N:List (Nat×Root)) (t:TV):Prop where
 step:∀ σ',Agree o σ σ'->∀ {R:Type} (k:St->Option R),a0C c o σ' k=k ((a2w N σ').put o.dst t)
 uses:∀ r,t.uses r=true->(∃ x∈o.op.operands,(a0x σ x).uses r=true)∨r∈N.map (·.1)
 ids:∀ p∈N,adds o=true/\∃ d,o.dst=some d/\4*d≤p.1/\p.1<4*d+4
 nodup:(N.map (·.1)).Nodup
structure LocM (c:Ctx) (o:Oper) (σ:St) (M:List Nat) (N:List (Nat×Root)) (t:TV):Prop where
 step:∀ σ',Agree o σ σ'->∀ {R:Type} (k:St->Option R),a0C c o σ' k=k ((a2w N (a0G M σ')).put o.dst t)
 uses:∀ r,t.uses r=true->(∃ x∈o.op.operands,(a0x σ x).uses r=true)∨r∈N.map (·.1)
 ids:∀ p∈N,adds o=true/\∃ d,o.dst=some d/\4*d≤p.1/\p.1<4*d+4
 nodup:(N.map (·.1)).Nodup
 apart:∀ r∈M,t.uses r=false/\r∉N.map (·.1)
 mv:∀ r∈M,∃ τ,.tmp τ∈o.op.operands/\(a0x σ (.tmp τ)).uses r=true
theorem Local.locM {c:Ctx} {o:Oper} {σ:St} {N:List (Nat×Root)} {t:TV} (h:Local c o σ N t):LocM c o σ [] N t :=
 ⟨h.step,h.uses,h.ids,h.nodup,by simp,by simp⟩
theorem Local.quiet {c:Ctx} {o:Oper} {σ:St} {t:TV} (h:∀ σ',Agree o σ σ'->∀ {R:Type} (k:St->Option R),a0C c o σ' k=k (σ'.put o.dst t)) (hu:∀ r,t.uses r=true->∃ x∈o.op.operands,(a0x σ x).uses r=true):Local c o σ [] t :=
 ⟨h,fun r hr => .inl (hu r hr),by simp,by simp⟩
theorem a2O {σ σ':St} {t:TV} {ts:List TV} (h:a2b σ σ' (t::ts)):a3J σ σ' t/\a2b σ σ' ts :=
 ⟨fun r hr=>h r (by simp[TV.usesL,hr]),fun r hr=>h r (by simp[TV.usesL,hr])⟩
theorem a2r (r:Nat) (p:Path) (n:Nat) (a:Bool):(TV.view r p n a).uses r=true:=zW r
theorem a8t (r:Nat) (p:Path):(TV.ref r p).uses r=true:=zW r
theorem a1f {σ σ':St} {agg:Bool} {t:Ty} {tv:TV} (h:a3J σ σ' tv):a2L σ' agg t tv=a2L σ agg t tv:=by
 cases tv with
 | view r p n a=>simp only[a2L,h r (a2r r p n a)]
 | tup k ts =>
   cases k with
   | t=>rfl
   | a=>rfl
   | s z =>
     cases ts with
     | nil=>rfl
     | cons x xs =>
       cases x with
       | view r p n a =>
         have hr:=h r (by simp only[TV.uses,TV.usesL];rw[zW];rfl);cases xs with
         | nil=>rfl
         | cons y ys =>
           cases ys with
           | nil=>rfl
           | cons u us =>
             cases us with
             | nil=>simp only[a2L,hr]
             | cons _ _=>rfl
       | _=>rfl
 | _=>rfl
theorem a3D {σ σ':St} {t:Ty} {tv:TV} (h:a3J σ σ' tv):a3a σ' t tv=a3a σ t tv:=by
 cases tv with
 | ref r p=>simp only[a3a,h r (a8t r p)]
 | _=>rfl
theorem a9f {σ σ':St} {agg:Bool} {t:Ty} {m:Mode} {tv:TV} (h:a3J σ σ' tv):a7n σ' agg t m tv=a7n σ agg t m tv:=by
 cases tv with
 | view r p n a=>simp only[a7n,h r (a2r r p n a)]
 | _=>rfl
theorem a9c {σ σ':St} {agg:Bool} {t:Ty} {m:Mode} {tv:TV} (h:a3J σ σ' tv):a7m σ' agg t m tv=a7m σ agg t m tv:=by
 cases tv with
 | view r p n a =>
   cases p with
   | root j =>
     cases j with
     | zero=>simp only[a7m,h r (a2r r _ n a)]
     | succ j=>rfl
   | hop q i sz j=>rfl
 | _=>rfl
theorem a9e {σ σ':St} {t:Ty} {m:Mode} {tv:TV} (h:a3J σ σ' tv):a6g σ' t m tv=a6g σ t m tv:=by
 cases tv with
 | ref r p =>
   cases p with
   | root j =>
     cases j with
     | zero=>simp only[a6g,h r (by simp[TV.uses,zW])]
     | succ j=>rfl
   | hop q i sz j=>rfl
 | _=>rfl
theorem a6e {σ σ':St}:∀ (ps:List PS) (ts:List TV),a2b σ σ' ts->a0U σ' ps ts=a0U σ ps ts:=by
 intro ps;induction ps with
 | nil=>intro ts h;cases ts<;>rfl
 | cons p ps ih =>
   intro ts h;cases ts with
   | nil=>cases p<;>rfl
   | cons t ts =>
     obtain⟨h1,h2⟩:=a2O h;cases p with
     | val agg ty=>simp only[a0U,a1f h1,ih ts h2]
     | rptr ty=>simp only[a0U,a3D h1,ih ts h2]
     | wr agg ty m=>rfl
     | wp ty m=>rfl
     | tk agg ty m=>rfl
     | pfn s=>cases t<;>rfl
     | fnx s=>cases t<;>simp only[a0U,ih ts h2]
theorem a7K {σ σ':St}:∀ (ps:List (Bool×Ty)) (ts:List TV),a2b σ σ' ts->a1U σ' ps ts=a1U σ ps ts:=by
 intro ps;induction ps with
 | nil=>intro ts h;cases ts<;>rfl
 | cons p ps ih =>
   intro ts h;cases ts with
   | nil=>rfl
   | cons t ts =>
     obtain⟨h1,h2⟩:=a2O h;simp only[a1U,a1f h1,ih ts h2]
theorem a8b {σ σ':St} (s:FSig) (tv:TV) (h:a3J σ σ' tv):∀ (cl:List Clo),a2K σ' s cl tv=a2K σ s cl tv:=by
 intro cl;induction cl with
 | nil=>cases tv<;>rfl
 | cons c cl ih =>
   cases tv with
   | fn f caps =>
     have hc:a2b σ σ' caps:=fun r hr=>h r (by simpa[TV.uses]using hr);simp only[a2K,a6e _ _ hc,ih]
   | _=>rfl
theorem a7G {σ σ':St} (all:List Clo):∀ (ps:List PS) (ts:List TV),a2b σ σ' ts->a0X σ' all ps ts=a0X σ all ps ts:=by
 intro ps;induction ps with
 | nil=>intro ts h;cases ts<;>rfl
 | cons p ps ih =>
   intro ts h;cases ts with
   | nil=>cases p<;>rfl
   | cons t ts =>
     obtain⟨h1,h2⟩:=a2O h;cases p with
     | val agg ty=>simp only[a0X,a1f h1,ih ts h2]
     | rptr ty=>simp only[a0X,a3D h1,ih ts h2]
     | wr agg ty m=>rfl
     | wp ty m=>rfl
     | tk agg ty m=>rfl
     | pfn s =>
       cases t with
       | pfn t=>simp only[a0X,a8b s t (fun r hr=>h1 r (by simpa[TV.uses]using hr)) all,ih ts h2]
       | _=>rfl
     | fnx s=>cases t<;>simp only[a0X,ih ts h2]
theorem a9a {σ σ':St} (s:FSig) (all:List Clo) (tv:TV) (h:a3J σ σ' tv):∀ (cl:List Clo),a3Z σ' s all cl tv=a3Z σ s all cl tv:=by
 intro cl;induction cl with
 | nil=>cases tv<;>rfl
 | cons c cl ih =>
   cases tv with
   | fn f caps =>
     have hc:a2b σ σ' caps:=fun r hr=>h r (by simpa[TV.uses]using hr);simp only[a3Z,a7G all _ _ hc,ih]
   | _=>rfl
theorem a4H {c:Ctx} {σ σ':St}:∀ (ps:List PS) (ts:List TV),a2b σ σ' ts->a0O c σ' ps ts=a0O c σ ps ts:=by
 intro ps;induction ps with
 | nil=>intro ts h;cases ts<;>rfl
 | cons p ps ih =>
   intro ts h;cases ts with
   | nil=>cases p<;>rfl
   | cons t ts =>
     obtain⟨h1,h2⟩:=a2O h;cases p with
     | val agg ty=>simp only[a0O,a1f h1,ih ts h2]
     | rptr ty=>simp only[a0O,a3D h1,ih ts h2]
     | wr agg ty m=>simp only[a0O,a9f h1,ih ts h2]
     | wp ty m=>simp only[a0O,a9e h1,ih ts h2]
     | tk agg ty m=>simp only[a0O,a9c h1,ih ts h2]
     | pfn s=>rfl
     | fnx s=>simp only[a0O,a9a s c.clos t h1,ih ts h2]
def a1i (id:Nat):(outs:List (OutK×Ty×Mode))->Outs outs->List (Nat×Root)×List TV
 | [],_=>([],[])
 | (.ptr,t,_)::l,d=>let q:=a1i (id+1) l d.2;(q.1,.rptr true (enc .sh t d.1)::q.2)
 | (.fr agg,t,_)::l,d=>let q:=a1i (id+1) l d.2;(q.1,.val agg (enc .sh t d.1)::q.2)
 | (.val agg,t,m)::l,d=>match isSh (enc m t d.1)with
   | true=>let q:=a1i (id+1) l d.2;(q.1,.val agg (enc m t d.1)::q.2)
   | false=>let q:=a1i (id+1) l d.2;((id,⟨false,enc m t d.1⟩)::q.1,.view id (.root 0) t.sz agg::q.2)
theorem b3H:∀ (outs:List (OutK×Ty×Mode)) (id:Nat) (d:Outs outs) (σ:St),a1e id outs d σ=(a2w (a1i id outs d).1 σ,(a1i id outs d).2):=by
 intro outs;induction outs with
 | nil=>intro id d σ;rfl
 | cons o outs ih =>
   intro id d σ;obtain⟨k,t,m⟩:=o;cases k with
   | ptr=>simp only[a1e,a1i,ih]
   | fr agg=>simp only[a1e,a1i,ih]
   | val agg =>
     simp only[a1e,a1i];cases isSh (enc m t d.1)<;>simp only[ih,a2w]
theorem b3P:∀ (outs:List (OutK×Ty×Mode)) (id:Nat) (d:Outs outs),(∀ p∈(a1i id outs d).1,id≤p.1/\p.1<id+outs.length)/\((a1i id outs d).1.map (·.1)).Nodup/\(∀ r,TV.usesL r (a1i id outs d).2=true->r∈(a1i id outs d).1.map (·.1)):=by
 intro outs;induction outs with
 | nil=>intro id d;exact⟨by simp[a1i],by simp[a1i],fun r h=>by simp[a1i,TV.usesL]at h⟩
 | cons o outs ih =>
   intro id d;obtain⟨k,t,m⟩:=o;obtain⟨h1,h2,h3⟩:=ih (id+1) d.2;have h1':∀ p∈(a1i (id+1) outs d.2).1,id≤p.1/\p.1<id+(outs.length+1):=fun p hp=>by have:=h1 p hp;omega
   cases k with
   | ptr=>exact⟨h1',h2,fun r hr=>h3 r (by simpa[a1i,TV.usesL,TV.uses]using hr)⟩
   | fr agg=>exact⟨h1',h2,fun r hr=>h3 r (by simpa[a1i,TV.usesL,TV.uses]using hr)⟩
   | val agg =>
     simp only[a1i,zB];cases isSh (enc m t d.1)with
     | true=>exact⟨h1',h2,fun r hr=>h3 r (by simpa[TV.usesL,TV.uses]using hr)⟩
     | false =>
       refine⟨fun p hp=>?_,?_,fun r hr=>?_⟩
       . simp only[zk]at hp;rcases hp with rfl|hp
         . exact⟨ze _,by simp only[];omega⟩
         . exact h1' p hp
       . simp only[zw,zi];refine⟨fun hm=>?_,h2⟩;obtain⟨p,hp,he⟩:=List.mem_map.1 hm;have:=h1 p hp;omega
       . simp only[TV.usesL,TV.uses,zJ]at hr;simp only[zw,zk];rcases hr with hr|hr
         . exact .inl (zY hr).symm
         . exact .inr (h3 r hr)
theorem a6q {id:Nat} {s:Sig} {l:Lend} {r:Outs s.outs×Muts s.ps} (h:a6X s l=true) (σ:St) :
   a1w id s l r σ=(a0w s.ps r.2 [] σ).map fun σ1=>(a2w (a1i id s.outs r.1).1 σ1,(a1i id s.outs r.1).2):=by
 obtain⟨rd,lent,wr,tk⟩:=l;simp only[a6X,zq,zJ]at h;obtain⟨h1,h2⟩:=h;cases wr with
 | cons x y=>simp at h1
 | nil =>
   cases tk with
   | cons x y=>simp at h1
   | nil =>
     have key:a1w id s ⟨rd,lent,[],[]⟩ r σ=(match a0w s.ps r.2 [] σ with|none=>none|some σ1=>some (a1e id s.outs r.1 σ1)):=by
       unfold a1w;cases ho:(a3V s.outs&&a1m s.ps)with
       | true=>rfl
       | false =>
         rcases h2 with h2|h2
         . rw[h2.1,h2.2]at ho;cases ho
         . cases lent with
           | nil=>rfl
           | cons x y=>simp at h2
     rw[key];cases hb2:a0w s.ps r.2 [] σ with
     | none=>rfl
     | some σ1=>simp[b3H]
theorem a9q:∀ (ps:List PS) (r:Muts ps),(∀ σ,a0w ps r [] σ=some σ)∨(∀ σ,a0w ps r [] σ=none):=by
 intro ps;induction ps with
 | nil=>intro r;exact .inl fun σ=>by simp only[a0w]
 | cons p ps ih =>
   intro r;cases p with
   | val agg t=>exact(ih r).imp (fun h σ=>by simp only[a0w];exact h σ) (fun h σ=>by simp only[a0w];exact h σ)
   | rptr t=>exact(ih r).imp (fun h σ=>by simp only[a0w];exact h σ) (fun h σ=>by simp only[a0w];exact h σ)
   | wr agg t m=>exact .inr fun σ=>by simp only[a0w]
   | wp t m=>exact .inr fun σ=>by simp only[a0w]
   | tk agg t m=>exact(ih r).imp (fun h σ=>by simp only[a0w];exact h σ) (fun h σ=>by simp only[a0w];exact h σ)
   | fnx s=>exact(ih r).imp (fun h σ=>by simp only[a0w];exact h σ) (fun h σ=>by simp only[a0w];exact h σ)
   | pfn s=>exact(ih r).imp (fun h σ=>by simp only[a0w];exact h σ) (fun h σ=>by simp only[a0w];exact h σ)
end Go.Vm
end
