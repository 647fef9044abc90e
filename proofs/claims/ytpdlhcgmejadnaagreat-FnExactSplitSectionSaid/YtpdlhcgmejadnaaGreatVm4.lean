/- What a machine on values does is what the program does. -/
import Derived.Carry
import Derived.ChangeArms
import Derived.ChangeOld
import Derived.ChangeShapes
import Derived.ChangeSlices
import Derived.KernelRfl
import Derived.Laws.AppendOwn
import Derived.Lib.AppendZeros
import Derived.Lib.SlKept
import Derived.Shelf.SlSortCmp.Kit1
import Derived.Shelf.SlSortCmp.NoneTotal
import Derived.Shelf.SlicesG.CompactI
import Derived.Shelf.SortG.Plain
import Derived.Shelf.SortG.SortNone
import Derived.SizedLaws
import Derived.Test.YtpdlhcgmejadnaaGreatVm3
open Option.some renaming inj->za,injEq->zc
open Bool renaming and_eq_true->zb,false_eq_true->zO,not_eq_true'->zU
open List renaming mem_append->zd,length_map->zj,mem_cons->zk,length->zn,length_cons->zo,append_nil->zt,length_append->zu,range->zw,nodup_append->zx,getElem?_take->zz,mem_iff_getElem?->zB,flatMap_cons->zC,map_map->zE,getElem?_cons_zero->zG,take_of_length_le->zH,countP_le_length->zI,mem_flatMap->zK,get_mem->zM,flatMap_append->zN,getElem?_drop->zP,getElem?_append_right->zR,getLast?_eq_getElem?->zS,getElem?_eq_getElem->zW,cons_append->zX,mem_map->zY,range_succ->z0,map_append->z1,nil_append->z2,getElem?_eq_none->z4,replicate->z7,mem_of_getElem?->z8,getElem?_append->z9,mem_map_of_mem->ya,length_range->yd,getElem?_map->yf,length_take->yg,ext_getElem->yi,flatMap_nil->yk,nodup_cons->ym,drop_zero->yn,mapM_cons->yo,map_cons->yp,Sublist->yq
open Nat renaming le_refl->ze,eq_of_beq_eq_true->zh,lt_or_ge->zp,le_of_ble_eq_true->zq,blt->zy,zero_le->zA,beq->zF,le_trans->zL,mul_one->z6,lt_of_lt_of_le->yb,zero_add->yc,le_max_right->yj,le_max_left->yl
open Array renaming getElem?_eq_none->zf,replicate->zg,length_toList->zi,getElem?_toList->zs,getElem?_eq_some_iff->zv,getD_eq_getD_getElem?->zD,getElem?_append->zJ,getElem?_append_left->zQ,getElem?_eq_getElem->zT,getElem?_replicate->zV,mem_of_getElem?->z3,getElem?_modify->z5,size_modify->ye
open Prod.mk renaming injEq->zl
open List.cons renaming injEq->zm
open Option renaming map_eq_some_iff->zZ,getD_some->yh
set_option linter.unusedSimpArgs false
set_option linter.unusedVariables false
section
namespace Go.Vm
variable {P:Program} {R:Type}
theorem b4g {E:Env} {σ:St} {a:Act} {w w':World} {G:Nat->RG} (h:Rel P E σ a w G) (hh:w'.heap=w.heap) (hb:Bel w w'):Rel P E σ a w' G:=by
 have hs:∀ L,a0a w w' L:=fun L b _=>by rw[hh]
 refine⟨h.defers,?_,⟨fun q x hx=>a1c (h.r.roots q x hx) (hs _),fun q b hb=>by rw[hh];exact h.r.lt q b hb,h.r.nodup,h.r.fin,h.r.disj,h.r.shr,h.r.own,fun b h1 h2=>by rw[hh];exact h.r.frame b h1 h2,h.r.base.trans hb⟩⟩;refine a1q h.temps rfl fun i t' ht' => .inr ⟨t',ht',fun v S A hS hf=>⟨?_,hf⟩⟩;exact a0t h.r.roots (fun q _ _=>hs _) (by rw[hh];exact ze _) t' v S A hS (hs _)
theorem rel_del {E:Env} {σ:St} {a:Act} {w:World} {G:Nat->RG} (h:Rel P E σ a w G) (r:Nat):Rel P E (σ.del r) a w G:=by
 refine⟨h.defers,?_,a6z h.r fun q x hx=>?_⟩
 . refine a1q h.temps (a1v _ _) fun i t' ht'=>?_;rcases a2q ht' with rfl|⟨ht,hu⟩
   . exact .inl rfl
   refine .inr ⟨t',ht,fun v S A hS hf=>⟨?_,hf⟩⟩;exact a1k r (fun q hq=>by rw[St.del,a0D,if_neg hq]) (fun q hq _=>rfl) t' v S A hu hS
 . have hx:rget (rdel σ.rs r) q=some x:=hx;rw[a0D]at hx;split at hx
   . cases hx
   . exact hx
theorem a3n {E:Env} {σ:St} {a:Act} {w:World} {G:Nat->RG} (h:Rel P E σ a w G) (r:Nat):Rel P E (a2E r σ) a w G:=by
 unfold a2E;split
 . exact rel_del h r
 . exact h
theorem b1r (r:Nat) (σ:St):(a2E r σ).ts.length=σ.ts.length:=by
 unfold a2E;split
 . exact a1v _ _
 . rfl
theorem a0c (r q:Nat) (σ:St):(rget (a2E r σ).rs r=none)/\(rget σ.rs q=none->rget (a2E r σ).rs q=none):=by
 unfold a2E;split
 . refine⟨by simp[St.del,a0D],fun h=>?_⟩;simp only[St.del,a0D];split
   . rfl
   . exact h
 . rename_i h;exact⟨h,id⟩
def a6I (d:Nat) (σ:St):St:=a2E (4*d) (a2E (4*d+1) (a2E (4*d+2) (a2E (4*d+3) σ)))
theorem a7Q (d q:Nat) (σ:St):(∀ j,j<4->rget (a6I d σ).rs (4*d+j)=none)/\(rget σ.rs q=none->rget (a6I d σ).rs q=none):=by
 unfold a6I;refine⟨fun j hj=>?_,fun h=>(a0c _ q _).2 ((a0c _ q _).2 ((a0c _ q _).2 ((a0c _ q _).2 h)))⟩;have:j=0∨j=1∨j=2∨j=3:=by omega
 rcases this with rfl|rfl|rfl|rfl
 . exact(a0c _ 0 _).1
 . exact(a0c _ _ _).2 (a0c _ 0 _).1
 . exact(a0c _ _ _).2 ((a0c _ _ _).2 (a0c _ 0 _).1)
 . exact(a0c _ _ _).2 ((a0c _ _ _).2 ((a0c _ _ _).2 (a0c _ 0 _).1))
theorem a9Y {E:Env} {a:Act} {w:World} {G:Nat->RG}:∀ (l:List Oper) (σ:St),Rel P E σ a w G->Rel P E (a0d l σ) a w G/\(a0d l σ).ts.length=σ.ts.length/\(∀ q,rget σ.rs q=none->rget (a0d l σ).rs q=none) ∧
   ∀ o∈l,adds o=true->∀ d,o.dst=some d->∀ j,j<4->rget (a0d l σ).rs (4*d+j)=none:=by
 intro l;induction l with
 | nil=>intro σ h;exact⟨h,rfl,fun q h=>h,fun o ho=>by cases ho⟩
 | cons o l ih =>
   intro σ h;have other:(∀ d,¬ (adds o=true/\o.dst=some d))->a0d (o::l) σ=a0d l σ:=by
     intro hn;simp only[a0d];split
     . rename_i d h1 h2;exact absurd ⟨h1,h2⟩ (hn d)
     . rfl
   by_cases hd:∃ d,adds o=true/\o.dst=some d
   . obtain⟨d,h1,h2⟩:=hd;have he:a0d (o::l) σ=a0d l (a6I d σ):=by simp only[a0d,h1,h2,a6I]
     rw[he];have hr:Rel P E (a6I d σ) a w G:=a3n (a3n (a3n (a3n h _) _) _) _;obtain⟨k1,k2,k3,k4⟩:=ih _ hr;refine⟨k1,k2.trans (by simp[a6I,b1r]),fun q hq=>k3 q ((a7Q d q σ).2 hq),fun o' ho' ha d' hd' j hj=>?_⟩;simp only[zk]at ho';rcases ho' with rfl|ho'
     . rw[h2]at hd';obtain rfl:=za hd';exact k3 _ ((a7Q d 0 σ).1 j hj)
     . exact k4 o' ho' ha d' hd' j hj
   . rw[other fun d hh=>hd ⟨d,hh⟩];obtain⟨k1,k2,k3,k4⟩:=ih σ h;refine⟨k1,k2,k3,fun o' ho' ha d' hd' j hj=>?_⟩;simp only[zk]at ho';rcases ho' with rfl|ho'
     . exact absurd ⟨d',ha,hd'⟩ hd
     . exact k4 o' ho' ha d' hd' j hj
theorem b4V {all:List Oper} {n m:Nat} (h:pickM all n=some m):a1G all m n=true/\m≤all.length:=by
 have hle:∀ (asg:Nat) (l:List Oper),a1Q asg l≤l.length:=by
   intro asg l;induction l with
   | nil=>exact ze _
   | cons o l ih =>
     simp only[a1Q];split
     . exact zA _
     . simp only[zo];omega
 unfold pickM at h;split at h
 . rename_i h1;obtain rfl:=za h;exact⟨h1,hle _ _⟩
 . split at h
   . rename_i h1;obtain rfl:=za h;exact⟨h1,hle _ _⟩
   . split at h
     . rename_i h1;obtain rfl:=za h;exact⟨h1,hle _ _⟩
     . cases h
theorem a5r {E:Env} {c:Ctx} (hctx:CtxOK P c) {ops:Array Oper} {k:St->Option R} {r:R} {kv:List (Nat×Value)} (hkp:a1N (kv.map (·.1)) ops.toList=true) {σ:St} {a:Act} {w:World} {G:Nat->RG} {m:Nat}
   (hok:OrdOK ops.toList m σ.ts.length) (hmle:m≤ops.toList.length) {tl:St->Option R}
   (htl:∀ (σ':St),tl σ'=some r->∀ (fuel:Nat) (listed:Array Bool) (a:Act) (w:World) (G:Nat->RG),ops.size-m≤fuel->listed.size=ops.size->(∀ i,i<ops.size->listed.getD i false=zy i m)->Rel P E σ' a w G->Keep kv a->wpAny P .any ops (a2s P E kv k r) fuel listed a w)
   {Z:List Ent->Prop} (hupg:∀ (es:List Ent) (ss:List St) (σn:St) (mvn:List Nat),Walk c ops.toList m σ.ts.length (a0d (ops.toList.take m) σ) es ss->ss[m]? = some σn->(∀ q,q∈mvn↔∃ (j:Nat) (e:Ent),es[j]? = some e/\q∈e.M)->Z es->tl (a0G mvn σn)=some r->UpOK P E ops m es (a0d (ops.toList.take m) σ) kv k r)
   (hx:(∀ o∈ops.toList.take m,∃ d,o.dst=some d)->∃ es ss σn mvn,TextRun c ops.toList (ops.toList.take m) 0 [] (a0d (ops.toList.take m) σ) es ss/\ss.getLast? = some σn/\tl (a0G mvn σn)=some r/\(∀ q,q∈mvn↔q∈([]:List Nat)∨∃ (j:Nat) (e:Ent),es[j]? = some e/\q∈e.M)/\Z es) (hrel':Rel P E σ a w G) (hkeep:Keep kv a) :
   wpAny P .any ops (a2s P E kv k r) ops.size (zg ops.size false) a w:=by
 obtain⟨p1,p2,p3,p4⟩:=a9Y (ops.toList.take m) σ hrel';have hget:∀ i o,(ops.toList.take m)[i]? = some o->i<m/\ops.toList[i]? = some o:=by
   intro i o ho;rw[zz]at ho;split at ho
   . exact⟨by assumption,ho⟩
   . cases ho
 have hdst:∀ o∈ops.toList.take m,∃ d,o.dst=some d:=by
   intro o ho;obtain⟨i,hi⟩:=zB.1 ho;obtain⟨h1,h2⟩:=hget i o hi;obtain⟨d,hd,_⟩:=hok.dst i o h2 h1;exact⟨d,hd⟩
 obtain⟨es,ss,σn,mvn,hrun,hlast,hk,hmvn,hM0⟩:=hx hdst;obtain⟨g1,g2,g3,g4⟩:=hrun.get;have hlen:(ops.toList.take m).length=m:=by rw[yg];omega
 have W:Walk c ops.toList m σ.ts.length (a0d (ops.toList.take m) σ) es ss:=by
   refine⟨hok,p2.symm,fun i o hi ho=>?_,g3,b2Q p1,fun i o d hi ho ha hd j hj=>?_,hmle,fun k e he=>?_⟩
   . obtain⟨e,s,q1,q2,q3,mvd,q4,q5⟩:=g4 i o (by rw[zz,if_pos hi];exact ho);exact⟨e,s,q1,q2,q3,mvd,by rw[yc]at q4;exact q4,fun q=>by rw[q5];simp⟩
   . exact p4 o (zB.2 ⟨i,by rw[zz,if_pos hi];exact ho⟩) ha d hd j hj
   . have:=(List.getElem?_eq_some_iff.1 he).1;omega
 have hσm:ss[m]? = some σn:=by
   rw[zS,g2,hlen]at hlast;simpa using hlast
 have hlisted:∀ i,(zg ops.size false).getD i false=false:=by
   intro i;rw[zD,zV];split<;>rfl
 have noMv:∀ q,¬ MvD es (Dof (zg ops.size false)) q:=fun q ⟨k,e,h1,_⟩=>by rw[show Dof (zg ops.size false) k=false from hlisted k]at h1;cases h1
 have hmvn':∀ q,q∈mvn↔∃ (j:Nat) (e:Ent),es[j]? = some e/\q∈e.M:=fun q=>by rw[hmvn];simp
 refine b4z hctx W hkp hσm hmvn' (htl _ hk) (hupg es ss σn mvn W hσm hmvn' hM0 hk) ops.size _ (a0d (ops.toList.take m) σ) (a0d (ops.toList.take m) σ) a _ G ?_ (by simp) (fun i _ _=>hlisted i) (fun i x hi=>by rw[show Dof (zg ops.size false) i=false from hlisted i]at hi;cases hi) ⟨rfl,fun τ=>?_,fun q=>?_⟩ ⟨rfl,fun τ _=>rfl,fun τ q hq _=>absurd hq (noMv q),fun q _=>rfl,fun q hq=>absurd hq (noMv q)⟩ p1 hkeep
 . exact zL zI (by simp)
 . unfold valD;cases a1j ops.toList m τ with
   | none=>rfl
   | some i=>simp only[show Dof (zg ops.size false) i=false from hlisted i,zO,if_false]
 . unfold a9r;cases a1j ops.toList m (q/4)with
   | none=>rfl
   | some i=>simp only[show Dof (zg ops.size false) i=false from hlisted i,zO,if_false]
theorem a3T {kp:List Nat}:∀ {l l':List Oper},l'.map (·.dst)=l.map (·.dst)->a1N kp l=true->a1N kp l'=true:=by
 intro l;induction l with
 | nil=>intro l' h _;cases l' with
   | nil=>rfl
   | cons x l'=>simp at h
 | cons x l ih =>
   intro l' h hk;cases l' with
   | nil=>simp at h
   | cons y l' =>
     simp only[yp,zm]at h;simp only[a1N,zb]at hk ⊢;rw[h.1];exact⟨hk.1,ih h.2 hk.2⟩
theorem a3f (lv:Nat):∀ (l:List Oper),a1Q lv l≤l.length:=by
 intro l;induction l with
 | nil=>exact ze _
 | cons o l ih =>
   simp only[a1Q];split
   . exact zA _
   . simp only[zo];omega
theorem a3X {t:Nat} {all:List Oper} {ts:List TV} {q:Nat×List Oper} (h:a6d t all ts=some q):q.1=t/\a1T t all ts=some q.2/\a1G q.2 q.1 ts.length=true:=by
 unfold a6d at h;split at h
 . rename_i all' ha;split at h
   . rename_i ho;obtain rfl:=za h;exact⟨rfl,ha,ho⟩
   . cases h
 . cases h
theorem b4T {all:List Oper} {ts:List TV} {q:Nat×List Oper} (h:pickF all ts=some q):(q.2=all/\a1G all q.1 ts.length=true/\q.1≤all.length)∨∃ t,t≤all.length/\q.1=t/\a1T t all ts=some q.2/\a1G q.2 q.1 ts.length=true:=by
 unfold pickF at h;split at h
 . rename_i m hm;obtain rfl:=za h;obtain⟨h1,h2⟩:=b4V hm;exact .inl ⟨rfl,h1,h2⟩
 . refine .inr ?_;split at h
   . rename_i h1;obtain rfl:=za h;exact⟨_,a3f 1 all,a3X h1⟩
   . split at h
     . rename_i h1;obtain rfl:=za h;exact⟨_,a3f 0 all,a3X h1⟩
     . exact⟨_,a3f 2 all,a3X h⟩
theorem b0k (c:Ctx):∀ (l:List Oper),a7u c l≤l.length:=by
 intro l;induction l with
 | nil=>exact ze _
 | cons o l ih =>
   simp only[a7u];split
   . exact zA _
   . simp only[zo];omega
theorem b4U {c:Ctx} {all:List Oper} {ts:List TV} {q:Nat×List Oper} (h:pickG c all ts=some q):(q.2=all/\a1G all q.1 ts.length=true/\q.1≤all.length)∨∃ t,t≤all.length/\q.1=t/\a1T t all ts=some q.2/\a1G q.2 q.1 ts.length=true:=by
 unfold pickG at h;split at h
 . split at h
   . rename_i ho;cases h;exact .inl ⟨rfl,ho,b0k _ _⟩
   . exact .inr ⟨_,b0k _ _,a3X h⟩
 . split at h
   . rename_i q' hq;obtain rfl:=za h;unfold pickL at hq;split at hq
     . cases hq
     . rename_i t _;split at hq
       . cases hq
       . rename_i hle;have hle:=zq hle;split at hq
         . rename_i ho;cases hq;exact .inl ⟨rfl,ho,hle⟩
         . exact .inr ⟨_,hle,a3X hq⟩
   . exact b4T h
theorem b2a {ops:Array Oper} {m:Nat} {o1 o2 o3:Oper} (h:ops.toList.drop m=[o1,o2,o3]):ops.size=m+3/\ops[m]? = some o1/\ops[m+1]? = some o2/\ops[m+2]? = some o3:=by
 have hg:∀ i,(ops.toList.drop m)[i]? = ops[m+i]? := fun i=>by rw[zP,zs]
 have hl:=congrArg zn h;simp only[List.length_drop,zi,zo,List.length_nil]at hl;have h0:=hg 0;have h1:=hg 1;have h2:=hg 2;rw[h]at h0 h1 h2;exact⟨by omega,h0.symm,h1.symm,h2.symm⟩
theorem b2Y {E:Env} {c:Ctx} (hctx:CtxOK P c) {ops:Array Oper} {k:St->Option R} {r:R} {kv:List (Nat×Value)} (hkp:a1N (kv.map (·.1)) ops.toList=true) {m n:Nat} (hord:a1G ops.toList m n=true) {o1 o2 o3:Oper} (hd:ops.toList.drop m=[o1,o2,o3]) {σ':St} (hg:o1.guard=none/\o2.guard=none/\o3.guard=none) (h:a6D c o1 o2 o3 σ' k=some r)
   (fuel:Nat) (listed:Array Bool) (a:Act) (w:World) (G:Nat->RG) (hf:ops.size-m≤fuel) (hl:listed.size=ops.size) (hD:∀ i,i<ops.size->listed.getD i false=zy i m) (hrel:Rel P E σ' a w G) (hkeep:Keep kv a):wpAny P .any ops (a2s P E kv k r) fuel listed a w:=by
 obtain⟨hsz,g1,g2,g3⟩:=b2a hd;obtain⟨d1,d2,v1,v2,w1,w3,σ3,G3,e1,e2,e3,r1,r2,r3,hrel3,hk⟩:=b0O hctx.tab hrel h;have m1:o1∈ops.toList:=by simpa using z3 g1
 have m2:o2∈ops.toList:=by simpa using z3 g2
 have k1:Keep kv (a.put (some d1) v1):=a3k hkeep (d:=some d1) (v:=v1) (ds:=a.defers) rfl fun e he=>a1Y hkp o1 m1 e (by rw[e1,he]);have k2:Keep kv ((a.put (some d1) v1).put (some d2) v2):=a3k k1 (d:=some d2) (v:=v2) (ds:=(a.put (some d1) v1).defers) rfl fun e he=>a1Y hkp o2 m2 e (by rw[e2,he]);refine b2o (a2T hord) (a1p hord) (fun i a' w'=>(i=m/\a'=a/\w'=w)∨(i=m+1/\a'=a.put (some d1) v1/\w'=w1)∨(i=m+2/\a'=(a.put (some d1) v1).put (some d2) v2/\w'=w1)∨(i=m+3/\a'=(a.put (some d1) v1).put (some d2) v2/\w'=w3)) (fun i o hmi ho a' w' hJ=>?_) (fun a' w' hJ=>?_) fuel m listed a w (ze _) (by omega) hf hl hD (.inl ⟨rfl,rfl,rfl⟩)
 . rcases hJ with⟨rfl,rfl,rfl⟩|⟨rfl,rfl,rfl⟩|⟨rfl,rfl,rfl⟩|⟨rfl,-,-⟩
   . rw[g1]at ho;obtain rfl:=za ho;refine⟨hg.1,?_⟩;unfold Oper.wp;rw[r1,Oper.upon_value,e1];exact .inr (.inl ⟨rfl,rfl,rfl⟩)
   . rw[g2]at ho;obtain rfl:=za ho;refine⟨hg.2.1,?_⟩;unfold Oper.wp;rw[r2,Oper.upon_value,e2];exact .inr (.inr (.inl ⟨rfl,rfl,rfl⟩))
   . rw[g3]at ho;obtain rfl:=za ho;refine⟨hg.2.2,?_⟩;unfold Oper.wp;rw[r3,Oper.upon_skip,e3];exact .inr (.inr (.inr ⟨rfl,rfl,rfl⟩))
   . rw[zf (by omega)]at ho;cases ho
 . rcases hJ with⟨h1,-,-⟩|⟨h1,-,-⟩|⟨h1,-,-⟩|⟨-,rfl,rfl⟩
   . omega
   . omega
   . omega
   . exact⟨rfl,k2,σ3,G3,hrel3,hk⟩
theorem a6N {o1 o2 o3:Oper} {σ:St} (h:a8M o1 o2 o3 σ=true):o1.guard=none/\o2.guard=none/\o3.guard=none:=by
 unfold a8M at h;split at h
 . rename_i h1 h2 h3;exact⟨h1,h2,h3⟩
 . cases h
theorem b1c {E:Env} {c:Ctx} (hctx:CtxOK P c) {ops:Array Oper} {k:St->Option R} {r:R} {kv:List (Nat×Value)} (hkp:a1N (kv.map (·.1)) ops.toList=true) {m n:Nat} (hord:a1G ops.toList m n=true) (hmle:m≤ops.toList.length) :
   ∀ (σ':St),b2X c ops.toList (ops.toList.drop m) σ' k=some r->∀ (fuel:Nat) (listed:Array Bool) (a:Act) (w:World) (G:Nat->RG),ops.size-m≤fuel->listed.size=ops.size->(∀ i,i<ops.size->listed.getD i false=zy i m)->Rel P E σ' a w G->Keep kv a->wpAny P .any ops (a2s P E kv k r) fuel listed a w:=by
 intro σ' h fuel listed a w G hf hl hD hrel hkeep;have old:opsK c ops.toList (ops.toList.drop m) σ' k=some r->wpAny P .any ops (a2s P E kv k r) fuel listed a w:=fun h =>
   b4y hctx (a2T hord) (a1p hord) hkp fuel m listed σ' a w G (ze _) (by simpa using hmle) hf hl hD h hrel hkeep
 unfold b2X at h;split at h
 . rename_i o1 o2 o3 hd;split at h
   . rename_i hs;exact b2Y hctx hkp hord hd (a6N hs) h fuel listed a w G hf hl hD hrel hkeep
   . rw[<-hd]at h;exact old h
 . exact old h
theorem a9J {n m:Nat} {listed:Array Bool} (hD:∀ i,i<n->listed.getD i false=zy i m) (hm:m≤n):left n listed≤n-m:=by
 unfold left;have hsplit:zw n=zw m++(zw (n-m)).map (m+·):=by
   rw[<-List.range_add];congr 1;omega
 rw[hsplit,List.countP_append];have h1:(zw m).countP (fun i=>!listed.getD i false)=0:=by
   rw[List.countP_eq_zero];intro x hx;have hx:=List.mem_range.1 hx;rw[hD x (by omega),show zy x m=true from upto_iff.2 hx];simp
 have h2:=zI (p:=fun i=>!listed.getD i false) (l:=(zw (n-m)).map (m+·));simp only[zj,yd]at h2;omega
theorem b5z {E:Env} {c:Ctx} (hctx:CtxOK P c) {ops:Array Oper} {k:St->Option R} {r:R} {kv:List (Nat×Value)} (hkp:a1N (kv.map (·.1)) ops.toList=true) {m n:Nat} (hok:OrdOK ops.toList m n) (hmle:m≤ops.toList.length) (q:Nat) :
   ∀ (σ':St),a5o c ops.toList q ((numb 0 ops.toList).drop m) σ' k=some r->∀ (fuel:Nat) (listed:Array Bool) (a:Act) (w:World) (G:Nat->RG),ops.size-m≤fuel->listed.size=ops.size->(∀ i,i<ops.size->listed.getD i false=zy i m)->Rel P E σ' a w G->Keep kv a->wpAny P .any ops (a2s P E kv k r) fuel listed a w :=
 fun σ' h fuel listed a w G hf hl hD hrel hkeep=>a6C hctx hok.early hkp fuel q _ listed σ' a w G (fun i o=>by
   rw[zB];constructor
   . rintro⟨j,hj⟩;rw[zP,a5y]at hj;simp only[zZ,zl]at hj;obtain⟨x,h1,h2,rfl⟩:=hj;have hi:i=m+j:=by omega
     subst hi;rw[zs]at h1;refine⟨h1,?_⟩;show listed.getD (m+j) false=false;rw[hD _ (zv.1 h1).1];cases hb:zy (m+j) m with
     | false=>rfl
     | true=>have:=upto_iff.1 hb;omega
   . rintro⟨h1,h2⟩;have hi:=(zv.1 h1).1;have h3:listed.getD i false=false:=h2;rw[hD i hi]at h3;have him:m≤i:=by
       rcases zp i m with h|h
       . have h4:zy i m=true:=upto_iff.2 h;rw[h4]at h3;cases h3
       . exact h
     refine⟨i-m,?_⟩;rw[zP,a5y,show m+(i-m)=i by omega,zs,h1];simp) hl (zL (a9J hD (by simpa using hmle)) hf) h hrel hkeep
theorem a8a {all:List Oper} {ts:List TV}:∀ {t:Nat} {q:Nat×List Oper},b2L all ts t=some q->∃ t',t'≤t/\q.1=t'/\a1T t' all ts=some q.2/\a5v q.2 q.1 ts.length=true
 | 0,q,h=>by
   unfold b2L at h;split at h
   . rename_i all' ha;split at h
     . rename_i ho;obtain rfl:=za h;exact⟨0,ze _,rfl,ha,ho⟩
     . cases h
   . cases h
 | t + 1,q,h=>by
   unfold b2L at h;split at h
   . rename_i all' ha;split at h
     . rename_i ho;obtain rfl:=za h;exact⟨t+1,ze _,rfl,ha,ho⟩
     . obtain⟨t',h1,h2⟩:=a8a h;exact⟨t',by omega,h2⟩
   . obtain⟨t',h1,h2⟩:=a8a h;exact⟨t',by omega,h2⟩
theorem b4W {all:List Oper} {ts:List TV} {q:Nat×List Oper} (h:pickY all ts=some q):q.1=a1Q 0 all/\a1T (a1Q 0 all) all ts=some q.2/\a5j q.2 q.1 ts.length=true:=by
 unfold pickY at h;split at h
 . rename_i all' ha;split at h
   . rename_i ho;obtain rfl:=za h;simp only[zb]at ho;exact⟨rfl,ha,ho.1.1⟩
   . cases h
 . cases h
theorem b4C {E:Env} {c:Ctx} (hctx:CtxOK P c) {ops:Array Oper} {k:St->Option R} {r:R} {kv:List (Nat×Value)} (hkp:a1N (kv.map (·.1)) ops.toList=true) {σ:St} {a:Act} {w:World} {G:Nat->RG} {m:Nat}
   (hord:a5j ops.toList m σ.ts.length=true) (hmle:m≤ops.toList.length) (h:drawY c (m,ops.toList) σ k=some r) (hrel':Rel P E σ a w G) (hkeep:Keep kv a) :
   wpAny P .any ops (a2s P E kv k r) ops.size (zg ops.size false) a w:=by
 have hmid:∀ (σ':St),b0P (((a2D (a2e ops.toList m)).filter (okU ops.toList m)).map fun U=>midK c ops.toList m U (a0d (ops.toList.take m) σ) σ' k)=some r->∀ U∈(a2D (a2e ops.toList m)).filter (okU ops.toList m),midK c ops.toList m U (a0d (ops.toList.take m) σ) σ' k=some r :=
   fun σ' h U hU=>a3S h _ (zY.2 ⟨U,hU,rfl⟩)
 have hok:=a8Z hord;refine a5r hctx hkp hok hmle (tl:=fun σ'=>b0P (((a2D (a2e ops.toList m)).filter (okU ops.toList m)).map fun U=>midK c ops.toList m U (a0d (ops.toList.take m) σ) σ' k)) (Z:=fun es=>∀ e∈es,e.M=[]) ?_ ?_ (fun hdst=>?_) hrel' hkeep
 . intro σ' h fuel listed a w G hf hl hD hrel hkeep;have h0:=hmid σ' h [] (by
     rw[List.mem_filter];refine⟨?_,a5I fun i _=>?_⟩
     . have e:(a2e ops.toList m).filter (fun _=>false)=[]:=List.filter_eq_nil_iff.2 fun x _=>by simp
       rw[<-e];exact a3p _ _
     . rw[Bool.or_eq_true];exact .inr (a5I fun x _=>rfl))
   have h0:a5o c ops.toList ops.toList.length (b3Y ops.toList m []) σ' k=some r:=h0;have hms:m≤ops.size:=by simpa using hmle
   refine a6C hctx hok.early hkp fuel _ _ listed σ' a w G (fun i o=>?_) hl (zL (a9J hD hms) hf) h0 hrel hkeep;rw[a9o];constructor
   . rintro⟨h1,h2|h2⟩
     . cases h2
     . refine⟨h1,?_⟩;show listed.getD i false=false;rw[hD _ (zv.1 h1).1];cases hb:zy i m with
       | false=>rfl
       | true=>have:=upto_iff.1 hb;omega
   . rintro⟨h1,h2⟩;have hi:=(zv.1 h1).1;have h3:listed.getD i false=false:=h2;rw[hD i hi]at h3;refine⟨h1,.inr ?_⟩;rcases zp i m with h|h
     . have h4:zy i m=true:=upto_iff.2 h;rw[h4]at h3;cases h3
     . exact h
 . intro es ss σn mvn W hσm hmvn hM0 hk;have hM:=hM0;have hnil:mvn=[]:=by
     rw[List.eq_nil_iff_forall_not_mem];intro q hq;obtain⟨j,e,h1,h2⟩:=(hmvn q).1 hq;rw[hM e (z8 h1)]at h2;cases h2
   subst hnil;exact b5v hctx W hkp hσm (a6b hord) hM (hmid _ hk)
 . obtain⟨es,ss,σn,h1,h2,h3,h4⟩:=b3N _ 0 _ hdst h;refine⟨es,ss,σn,[],h1,h2,h3,fun q=>?_,h4⟩;constructor
   . intro hq;cases hq
   . rintro(hq|⟨j,e,h5,h6⟩)
     . cases hq
     . rw[h4 e (z8 h5)]at h6;cases h6
theorem b2z {E:Env} {c:Ctx} (hctx:CtxOK P c) {ops:Array Oper} {id:Nat} {k:St->Option R} {r:R} {kv:List (Nat×Value)} (hkp:a1N (kv.map (·.1)) ops.toList=true) {σ:St} {a:Act} {w:World} {G:Nat->RG}
   (h:b4B c ops.toList σ k=some r) (hrel:Rel P E σ a w G) (hkeep:Keep kv a):(Code.region id ops true).wp P (a2s P E kv k r) a w:=by
 refine wp_region_any hctx.mixed ?_;have hrel':Rel P E σ a { w with drawn:=w.drawn+1 } G:=b4g hrel rfl ⟨rfl,rfl,rfl,ze _,Nat.le_succ _⟩;have floats:∀ {t:Nat} {q:Nat×List Oper},a1T t ops.toList σ.ts=some q.2->wpAny P .any q.2.toArray (a2s P E kv k r) q.2.toArray.size (zg q.2.toArray.size false) a { w with drawn:=w.drawn+1 }->wpAny P .any ops (a2s P E kv k r) ops.size (zg ops.size false) a { w with drawn:=w.drawn+1 }:=by
   intro t q h3 hw;obtain⟨F,hd⟩:=a2j h3;have hlen:q.2.length=ops.toList.length:=by simpa using congrArg zn hd
   have hsz:q.2.toArray.size=ops.size:=F.size;rw[hsz]at hw;have hno:∀ i,Dof (zg ops.size false) i=false:=fun i=>by
     unfold Dof;rw[zD,zV];split<;>rfl
   refine b0G F (fun e a w h=>h.1) ops.size _ _ a a _ ops.size ?_ ?_ hw
   . have no:∀ i,¬ Dof (zg ops.size false) i=true:=fun i h=>by rw[hno]at h;cases h
     refine⟨by simp,by simp,fun i h=>h,fun i h=>absurd h (no i),fun i o _ h=>absurd h (no i),fun i o _ h=>absurd h (no i),fun i o _ h=>absurd h (no i),fun τ _=>rfl,rfl,Nat.le_of_eq hrel'.temps.1.symm,rfl,fun τ hτ=>?_,fun i o τ d _ _ h=>absurd h (no i)⟩;obtain⟨⟨tv,h5,_,h6⟩,_⟩:=a6t σ.ts 0 τ hτ;obtain⟨v,S,A,h7,h8,_⟩:=hrel'.temps.2 τ tv (by simpa using h5);cases hk:asInt tv with
     | none=>rw[hk]at h6;cases h6
     | some kx =>
       refine⟨kx.1,kx.2,?_⟩;rw[<-a1y h8 hk];simp only[Act.eval,zD,h7,yh]
   . unfold left;exact zL zI (by simp)
 unfold b4B at h;split at h
 . split at h
   . rename_i q hq;obtain⟨h1,h3,h4⟩:=b4W hq;refine floats h3 ?_;obtain⟨F,hd⟩:=a2j h3;have hlen:q.2.length=ops.toList.length:=by simpa using congrArg zn hd
     have hkp':a1N (kv.map (·.1)) q.2.toArray.toList=true:=by simpa using a3T hd hkp
     have hle:q.1≤q.2.toArray.toList.length:=by
       have:=a3f 0 ops.toList;show q.1≤q.2.length;omega
     exact b4C hctx hkp' (by simpa using h4) hle (by simpa using h) hrel' hkeep
   split at h
   . cases h
   rename_i q hq;obtain⟨t',h1,h2,h3,h4⟩:=a8a hq;refine floats h3 ?_;obtain⟨F,hd⟩:=a2j h3;have hlen:q.2.length=ops.toList.length:=by simpa using congrArg zn hd
   have hkp':a1N (kv.map (·.1)) q.2.toArray.toList=true:=by simpa using a3T hd hkp
   have hle:q.1≤q.2.toArray.toList.length:=by
     have:=a3f 0 ops.toList;show q.1≤q.2.length;omega
   have hok:OrdOK q.2.toArray.toList q.1 σ.ts.length:=a8X (by simpa using h4);exact a5r hctx hkp' hok hle (b5z hctx hkp' hok hle q.2.length) (Z:=fun _=>True) (fun es ss σn mvn W _ _ _ _=>a7q (by simpa using W.mle) (a8Y (by simpa using h4))) (fun hdst=>by obtain⟨es,ss,σn,mvn,h1,h2,h3,h4⟩:=a6a _ _ _ _ hdst (by simpa using h);exact⟨es,ss,σn,mvn,h1,h2,h3,h4,trivial⟩) hrel' hkeep
 rename_i q hq;rcases b4U hq with⟨h1,h2,h3⟩|⟨t,h1,h2,h3,h4⟩
 . rw[h1]at h;exact a5r hctx hkp (a2T h2) h3 (b1c hctx hkp h2 h3) (Z:=fun _=>True) (fun es ss σn mvn W _ _ _ _=>a7q (by simpa using W.mle) (fun i j oi oj hi hj hjm hmi=>a1p h2 i j oi oj hi hj (by omega) hmi)) (fun hdst=>by obtain⟨es,ss,σn,mvn,h1,h2,h3,h4⟩:=a6a _ _ _ _ hdst h;exact⟨es,ss,σn,mvn,h1,h2,h3,h4,trivial⟩) hrel' hkeep
 . refine floats h3 ?_;obtain⟨F,hd⟩:=a2j h3;have hlen:q.2.length=ops.toList.length:=by simpa using congrArg zn hd
   have hkp':a1N (kv.map (·.1)) q.2.toArray.toList=true:=by simpa using a3T hd hkp
   have h4':a1G q.2.toArray.toList q.1 σ.ts.length=true:=by simpa using h4
   have hle:q.1≤q.2.toArray.toList.length:=by
     show q.1≤q.2.length;omega
   exact a5r hctx hkp' (a2T h4') hle (b1c hctx hkp' h4' hle) (Z:=fun _=>True) (fun es ss σn mvn W _ _ _ _=>a7q (by simpa using W.mle) (fun i j oi oj hi hj hjm hmi=>a1p h4' i j oi oj hi hj (by omega) hmi)) (fun hdst=>by obtain⟨es,ss,σn,mvn,h1,h2,h3,h4⟩:=a6a _ _ _ _ hdst (by simpa using h);exact⟨es,ss,σn,mvn,h1,h2,h3,h4,trivial⟩) hrel' hkeep
end Go.Vm
end
section
namespace Go.Vm
variable {P:Program} {R:Type}
def Reach (P:Program) (Fin:R->Act->World->Prop) (todo:List Item) (a:Act) (w:World) (r:R):Prop :=
 ∀ (b:Frame) (cs:List Frame),∃ a' w' todo',Steps P (lone (b.at a todo) cs w) (lone { b.at a' todo' with mode := .returning } cs w')/\Fin r a' w'
theorem Reach.step {Fin:R->Act->World->Prop} {todo todo':List Item} {a:Act} {w:World} {r:R} (h:Reach P Fin todo' a w r) (hs:∀ (b:Frame) (cs:List Frame),step P (lone (b.at a todo) cs w) = .next (lone (b.at a todo') cs w)):Reach P Fin todo a w r:=by
 intro b cs;obtain⟨a',w',t',h1,h2⟩:=h b cs;exact⟨a',w',t',.head (hs b cs) h1,h2⟩
def entered:List Item->List Item
 | .inLoop c::t => .code c :: .inLoop c::t
 | t=>t
section
variable {E:Env} {g:Cfg} {kv:List (Nat×Value)} {fin:St->Option R} {Fin:R->Act->World->Prop}
def b1A (P:Program) (E:Env) (kv:List (Nat×Value)) (Fin:R->Act->World->Prop) (O:List Item->St->Option R):Prop :=
 ∀ todo σ r a w G,O todo σ=some r->Rel P E σ a w G->Keep kv a->Reach P Fin (entered todo) a w r
def FinOK (P:Program) (E:Env) (kv:List (Nat×Value)) (Fin:R->Act->World->Prop) (fin:St->Option R):Prop :=
 ∀ σ r a w G,fin σ=some r->Rel P E σ a w G->Keep kv a->Fin r a w
theorem a5d (hctx:CtxOK P g.c) (hkp:g.kp=kv.map (·.1)) {id:Nat} {ops:Array Oper} {draw:Bool} {t:List Item} {σ:St} {a:Act} {w:World} {G:Nat->RG} {r:R} {k:St->Option R} (h:a4V g ops draw σ k=some r) (hrel:Rel P E σ a w G) (hkeep:Keep kv a)
   (hk:∀ σ' a' w' G',k σ'=some r->Rel P E σ' a' w' G'->Keep kv a'->Reach P Fin t a' w' r):Reach P Fin (.code (.region id ops draw)::t) a w r:=by
 unfold a4V at h;split at h
 . cases h
 rename_i hd;cases draw with
 | false =>
   have:=b2F hctx (by rw[<-hkp];exact hd) ops.toList (zw ops.size) σ a w G (by
     apply yi
     . simp
     . intro i h1 h2;simp only[zj,yd]at h1;simp[h1]) h hrel hkeep
   intro b cs;obtain⟨e,a',w',⟨rfl,hkeep',σ',G',hrel',hkk⟩,harr⟩:=wp_ops _ a w this b t cs;obtain⟨a2,w2,t2,h1,h2⟩:=hk σ' a' w' G' hkk hrel' hkeep' b cs;exact⟨a2,w2,t2,.head step_region (Steps.trans harr h1),h2⟩
 | true =>
   have:=b2z (id:=id) hctx (by rw[<-hkp];exact hd) h hrel hkeep;intro b cs;obtain⟨e,a',w',⟨rfl,hkeep',σ',G',hrel',hkk⟩,harr⟩:=this b t cs;obtain⟨a2,w2,t2,h1,h2⟩:=hk σ' a' w' G' hkk hrel' hkeep' b cs;exact⟨a2,w2,t2,Steps.trans harr h1,h2⟩
theorem a3e (hctx:CtxOK P g.c) (hkp:g.kp=kv.map (·.1)) (hfin:FinOK P E kv Fin fin) {O:List Item->St->Option R} (hO:b1A P E kv Fin O):∀ (s:Nat) (t:List Item) (σ:St) (r:R) (a:Act) (w:World) (G:Nat->RG),
   a1P g fin O s t σ=some r->Rel P E σ a w G->Keep kv a->Reach P Fin t a w r:=by
 intro s;induction s with
 | zero=>intro t σ r a w G h;cases h
 | succ s ih =>
   intro t σ r a w G h hrel hkeep;cases t with
   | nil =>
     intro b cs;exact⟨a,w,[],.one step_end,hfin σ r a w G h hrel hkeep⟩
   | cons x t =>
     cases x with
     | code c =>
       cases c with
       | skip=>exact(ih _ _ _ a w G h hrel hkeep).step fun b cs=>step_skip
       | label l=>exact(ih _ _ _ a w G h hrel hkeep).step fun b cs=>step_label
       | region id ops draw =>
         simp only[a1P]at h;cases hc:hasN g.cuts id with
         | true =>
           rw[hc]at h;exact hO _ _ _ a w G h (a6H hrel _) hkeep
         | false =>
           rw[hc]at h;exact a5d hctx hkp h hrel hkeep fun σ' a' w' G' h' hr' hk'=>ih _ _ _ a' w' G' h' hr' hk'
       | seq x y=>exact(ih _ _ _ a w G h hrel hkeep).step fun b cs=>step_seq
       | cond b x y =>
         simp only[a1P]at h;split at h
         case h_2=>cases h
         rename_i v hv;obtain⟨S,A,hx,-⟩:=a0q hrel b;have hb:=a2M hx hv;cases v with
         | true=>exact(ih _ _ _ a w G h hrel hkeep).step fun fr cs=>step_cond (t:=true) hb
         | false=>exact(ih _ _ _ a w G h hrel hkeep).step fun fr cs=>step_cond (t:=false) hb
       | block id x=>exact(ih _ _ _ a w G h hrel hkeep).step fun b cs=>step_block
       | loop x =>
         obtain⟨G',hcl⟩:=a4i hrel g x;have:=hO _ _ _ a w G' h hcl hkeep;exact this.step fun b cs=>step_loop
       | exit id =>
         simp only[a1P]at h;split at h
         case h_2=>cases h
         rename_i t' ht';exact(ih _ _ _ a w G h hrel hkeep).step fun b cs=>step_exit ht'
       | ret =>
         intro b cs;exact⟨a,w,_,.one step_ret,hfin σ r a w G h hrel hkeep⟩
       | _=>cases h
     | inBlock id=>exact(ih _ _ _ a w G h hrel hkeep).step fun b cs=>step_inBlock
     | inLoop c =>
       obtain⟨G',hcl⟩:=a4i hrel g c;have:=hO _ _ _ a w G' h hcl hkeep;exact this.step fun b cs=>step_inLoop
     | _=>cases h
theorem b2T (hctx:CtxOK P g.c) (hkp:g.kp=kv.map (·.1)) (hfin:FinOK P E kv Fin fin):∀ k,b1A P E kv Fin (runT g fin k):=by
 intro k;induction k with
 | zero=>intro todo σ r a w G h;cases h
 | succ k ih =>
   intro todo σ r a w G h hrel hkeep
   match todo,h with
   | .inLoop c::t,h=>exact a3e hctx hkp hfin ih _ _ _ _ a w G h hrel hkeep
   | .code (.region id ops draw)::t,h =>
     exact a5d hctx hkp h hrel hkeep fun σ' a' w' G' h' hr' hk'=>a3e hctx hkp hfin ih _ _ _ _ a' w' G' h' hr' hk'
end
end Go.Vm
end
section
namespace Go.Vm
variable {P:Program}
def a1O:(ps:List PS)->Ins ps->Nat->List TV
 | [],_,_=>[]
 | .val agg t::ps,d,i => .val agg (enc .sh t d.1)::a1O ps d.2 (i+1)
 | .rptr t::ps,d,i => .rptr false (enc .sh t d.1)::a1O ps d.2 (i+1)
 | .wr agg t _::ps,d,i => .view (4*i) (.root 0) t.sz agg::a1O ps d.2 (i+1)
 | .tk agg t _::ps,d,i => .view (4*i) (.root 0) t.sz agg::a1O ps d.2 (i+1)
 | .fnx s::ps,d,i => .fnx s d.1::a1O ps d.2 (i+1)
 | .pfn s::ps,d,i => .pfn (.fnx s d.1)::a1O ps d.2 (i+1)
 | .wp _ _::ps,d,i => .ref (4*i) (.root 0)::a1O ps d.2 (i+1)
def a1z:(ps:List PS)->Ins ps->Nat->List (Nat×Root)
 | [],_,_=>[]
 | .wr _ t m::ps,d,i=>(4*i,⟨false,enc m t d.1⟩)::a1z ps d.2 (i+1)
 | .tk _ t m::ps,d,i=>(4*i,⟨false,enc m t d.1⟩)::a1z ps d.2 (i+1)
 | .wp t m::ps,d,i=>(4*i,⟨true,enc m t d.1⟩)::a1z ps d.2 (i+1)
 | .val _ _::ps,d,i=>a1z ps d.2 (i+1)
 | .rptr _::ps,d,i=>a1z ps d.2 (i+1)
 | .fnx _::ps,d,i=>a1z ps d.2 (i+1)
 | .pfn _::ps,d,i=>a1z ps d.2 (i+1)
def a9B:Nat->List TV
 | 0=>[]
 | n+1 => .dead::a9B n
def a6P (ps:List PS) (d:Ins ps) (n:Nat):St:=⟨a1O ps d 0++a9B (n-ps.length),a1z ps d 0⟩
def kpOf:List PS->Nat->List Nat
 | [],_=>[]
 | .wr _ _ _::ps,i=>i::kpOf ps (i+1)
 | .wp _ _::ps,i=>i::kpOf ps (i+1)
 | _::ps,i=>kpOf ps (i+1)
def a7Y (m:Mode) (cs:List Cell):List Cell:=match m.own with
 | true=>cs
 | false=>cs.map Cell.sh
def readC (σ:St):TV->Option (List Cell×List Nat)
 | .val _ cs=>some (cs,[])
 | .view r p n _=>match rget σ.rs r with
   | some x=>some ((a0W x.cs p).take n,[r])
   | none=>none
 | _=>none
def b1U (σ:St):List TV->Option (List Cell×List Nat)
 | []=>some ([],[])
 | t::ts=>match readC σ t,b1U σ ts with
   | some q,some q'=>some (q.1++q'.1,q.2++q'.2)
   | _,_=>none
def a5u (σ:St) (agg:Bool) (t:Ty) (m:Mode) (tv:TV):Option (t.den×List Nat):=match tv with
 | .val a cs=>match decEq a agg with
   | .isTrue _=>match a0u m t cs with
     | some x=>some (x,[])
     | none=>none
   | .isFalse _=>none
 | .view r p n a=>match decEq a agg,rget σ.rs r with
   | .isTrue _,some x=>match a0u m t (a7Y m ((a0W x.cs p).take n))with
     | some y=>some (y,[r])
     | none=>none
   | _,_=>none
 | .tup .a ts=>match agg,b1U σ ts with
   | true,some q=>match a1a q.2,a0u m t (a7Y m q.1)with
     | true,some y=>some (y,q.2)
     | _,_=>none
   | _,_=>none
 | _=>none
def b0r (σ:St) (k:OutK) (t:Ty) (m:Mode) (tv:TV):Option (t.den×List Nat):=match k with
 | .val agg=>a5u σ agg t m tv
 | .fr agg=>a5u σ agg t m tv
 | .ptr=>match tv with
   | .rptr true cs=>match a0u .sh t (cs.take t.sz)with
     | some x=>some (x,[])
     | none=>none
   | _=>none
def a3C (σ:St):(outs:List (OutK×Ty×Mode))->List TV->Option (Outs outs×List Nat)
 | [],[]=>some ((),[])
 | o::outs,tv::l=>match b0r σ o.1 o.2.1 o.2.2 tv,a3C σ outs l with
   | some (x,u),some (y,u')=>some ((x,y),u++u')
   | _,_=>none
 | _,_=>none
def b1T (σ:St) (agg:Bool) (t:Ty) (m:Mode):TV->Option (t.den×List Nat)
 | .view r (.root 0) n a=>match decEq a agg,rget σ.rs r with
   | .isTrue _,some x=>match a0u m t (x.cs.take n)with
     | some y=>some (y,[r])
     | none=>none
   | _,_=>none
 | _=>none
def a1K (σ:St):(ps:List PS)->List TV->Option (Muts ps×List Nat)
 | [],_=>some ((),[])
 | .wr agg t m::ps,tv::l=>match b1T σ agg t m tv,a1K σ ps l with
   | some (x,u),some (y,u')=>some ((x,y),u++u')
   | _,_=>none
 | .wp t m::ps,tv::l=>match a6g σ t m tv,a1K σ ps l with
   | some (x,r),some (y,u')=>some ((x,y),[r]++u')
   | _,_=>none
 | .val _ _::ps,_::l=>a1K σ ps l
 | .rptr _::ps,_::l=>a1K σ ps l
 | .tk _ _ _::ps,_::l=>a1K σ ps l
 | .fnx _::ps,_::l=>a1K σ ps l
 | .pfn _::ps,_::l=>a1K σ ps l
 | _,_=>none
def a6n (c:Ctx) (σ:St):List ResultVar->Option (List TV)
 | []=>some []
 | .tmp t::l=>match a6n c σ l with
   | some ts=>some (nth σ.ts t .dead::ts)
   | none=>none
 | .cell b T::l=>match a6S c T (nth σ.ts b .dead) σ some,a6n c σ l with
   | some t,some ts=>some (t::ts)
   | _,_=>none
def finK (c:Ctx) (s:Sig) (res:List ResultVar) (σ:St):Option (Outs s.outs×Muts s.ps):=match a6n c σ res with
 | none=>none
 | some ts=>match a3C σ s.outs ts,a1K σ s.ps σ.ts with
   | some (x,u),some (y,u')=>match a1a (u++u')with
     | true=>some (x,y)
     | false=>none
   | _,_=>none
theorem b4H {w:World}:∀ (ps:List PS) (d:Ins ps) (vs:List Value) (M S A:List Nat) (i:Nat),a1W P w ps d vs M S A->M.Nodup →
   ∃ (G:Nat->RG) (S' A':List Nat),a1A P (a1z ps d i) G w (a1O ps d i) vs S' A'/\(∀ b∈S',b∈S)/\(∀ b∈A',b∈A) ∧
     (∀ r x,rget (a1z ps d i) r=some x->a0S w x (G r)/\∀ b∈(G r).S,b∈S/\b∈A)/\(∀ r b,b∈(G r).F->b∈M/\b<w.heap.size)/\(∀ r,(G r).F.Nodup)/\(∀ r r' b,b∈(G r).F->b∈(G r').F->r=r') ∧
     (∀ r,r<4*i∨4*(i+ps.length)≤r->rget (a1z ps d i) r=none/\(G r).F=[]):=by
 intro ps;induction ps with
 | nil =>
   rintro d vs M S A i ⟨rfl,rfl,rfl,rfl⟩ _;exact⟨fun _=>noRG,[],[],⟨rfl,rfl,rfl⟩,by simp,by simp,fun r x hx=>by simp[a1z,rget]at hx,by simp[noRG],by simp[noRG],by simp[noRG],fun r _=>⟨rfl,rfl⟩⟩
 | cons p ps ih =>
   rintro d vs M S A i ⟨v,vs',M1,M2,S1,S2,A1,A2,rfl,rfl,rfl,rfl,h1,h2⟩ hn;obtain⟨n1,n2,n3⟩:=zx.1 hn;obtain⟨G,S',A',k1,k2,k3,k4,k5,k6,k7,k8⟩:=ih d.2 vs' M2 S2 A2 (i+1) h2 n2;have plain:∀ (tv:TV) (Sa Aa:List Nat),M1=[]->a1O (p::ps) d i=tv::a1O ps d.2 (i+1)->a1z (p::ps) d i=a1z ps d.2 (i+1)->TRep P (a1z ps d.2 (i+1)) G w tv v Sa Aa->(∀ b∈Sa,b∈S1)->(∀ b∈Aa,b∈A1) →
       ∃ (G:Nat->RG) (S' A':List Nat),a1A P (a1z (p::ps) d i) G w (a1O (p::ps) d i) (v::vs') S' A'/\(∀ b∈S',b∈S1++S2)/\(∀ b∈A',b∈A1++A2) ∧
     (∀ r x,rget (a1z (p::ps) d i) r=some x->a0S w x (G r)/\∀ b∈(G r).S,b∈S1++S2/\b∈A1++A2)/\(∀ r b,b∈(G r).F->b∈M1++M2/\b<w.heap.size)/\(∀ r,(G r).F.Nodup)/\(∀ r r' b,b∈(G r).F->b∈(G r').F->r=r') ∧
     (∀ r,r<4*i∨4*(i+(p::ps).length)≤r->rget (a1z (p::ps) d i) r=none/\(G r).F=[]):=by
     intro tv Sa Aa hM e1 e2 ht hSa hAa;rw[e1,e2];refine⟨G,Sa++S',Aa++A',⟨v,vs',Sa,S',Aa,A',rfl,rfl,rfl,ht,k1⟩,fun b hb=>?_,fun b hb=>?_,fun r x hx=>⟨(k4 r x hx).1,fun b hb=>?_⟩,fun r b hb=>⟨?_,(k5 r b hb).2⟩,k6,k7,fun r hr=>k8 r ?_⟩
     . simp only[zd]at hb ⊢;exact hb.imp (hSa b) (k2 b)
     . simp only[zd]at hb ⊢;exact hb.imp (hAa b) (k3 b)
     . have:=(k4 r x hx).2 b hb;simp[this.1,this.2]
     . simp[(k5 r b hb).1]
     . simp only[zo]at hr;omega
   have root0:∀ (tv:TV) (x:Root) (g:RG),a0S w x g->g.F=M1->g.S=S1->A1=S1->(∀ rs' (G':Nat->RG),rget rs' (4*i)=some x->G' (4*i)=g->TRep P rs' G' w tv v [] [])->a1O (p::ps) d i=tv::a1O ps d.2 (i+1)->a1z (p::ps) d i=(4*i,x)::a1z ps d.2 (i+1) →
       ∃ (G:Nat->RG) (S' A':List Nat),a1A P (a1z (p::ps) d i) G w (a1O (p::ps) d i) (v::vs') S' A'/\(∀ b∈S',b∈S1++S2)/\(∀ b∈A',b∈A1++A2) ∧
     (∀ r x,rget (a1z (p::ps) d i) r=some x->a0S w x (G r)/\∀ b∈(G r).S,b∈S1++S2/\b∈A1++A2)/\(∀ r b,b∈(G r).F->b∈M1++M2/\b<w.heap.size)/\(∀ r,(G r).F.Nodup)/\(∀ r r' b,b∈(G r).F->b∈(G r').F->r=r') ∧
     (∀ r,r<4*i∨4*(i+(p::ps).length)≤r->rget (a1z (p::ps) d i) r=none/\(G r).F=[]):=by
     intro tv x g hroot hgF hgS hA htv e1 e2;subst hA;rw[e1,e2];have hget:∀ q,rget ((4*i,x)::a1z ps d.2 (i+1)) q=if q=4*i then some x else rget (a1z ps d.2 (i+1)) q:=by
       intro q;simp only[rget];cases hd:Nat.decEq (4*i) q with
       | isTrue e=>subst e;simp
       | isFalse e=>simp[Ne.symm e]
     have hnone:rget (a1z ps d.2 (i+1)) (4*i)=none:=(k8 (4*i) (.inl (by omega))).1;have htail:a1A P ((4*i,x)::a1z ps d.2 (i+1)) (upG G (4*i) g) w (a1O ps d.2 (i+1)) vs' S' A':=by
       refine a4q (fun q y hq=>?_) (fun q hq=>?_) _ _ _ _ k1
       . rw[hget,if_neg (by rintro rfl;rw[hnone]at hq;cases hq)];exact hq
       . exact a0z _ _ (by rintro rfl;exact hq hnone)
     refine⟨upG G (4*i) g,S',A',⟨v,vs',[],S',[],A',rfl,rfl,rfl,htv _ _ (by rw[hget,if_pos rfl]) (a0y _ _ _),htail⟩,fun b hb=>by simp[k2 b hb],fun b hb=>by simp[k3 b hb],fun r y hy=>?_,fun r b hb=>?_,fun r=>?_,fun r r' b hb hb'=>?_,fun r hr=>?_⟩
     . rw[hget]at hy;by_cases hr:r=4*i
       . subst hr;rw[if_pos rfl]at hy;obtain rfl:=za hy;rw[a0y];exact⟨hroot,fun b hb=>by rw[hgS]at hb;simp[hb]⟩
       . rw[if_neg hr]at hy;rw[a0z _ _ hr];exact⟨(k4 r y hy).1,fun b hb=>by have:=(k4 r y hy).2 b hb;simp[this.1,this.2]⟩
     . by_cases hr:r=4*i
       . subst hr;rw[a0y]at hb;have hb':=hb;rw[hgF]at hb;exact⟨by simp[hb],a0N hroot b (.inl hb')⟩
       . rw[a0z _ _ hr]at hb;exact⟨by simp[(k5 r b hb).1],(k5 r b hb).2⟩
     . by_cases hr:r=4*i
       . subst hr;rw[a0y,hgF];exact n1
       . rw[a0z _ _ hr];exact k6 r
     . by_cases hr:r=4*i
       . subst hr;rw[a0y]at hb;by_cases hr':r'=4*i
         . exact hr'.symm
         . rw[a0z _ _ hr']at hb';rw[hgF]at hb;exact absurd rfl (n3 b hb b (k5 r' b hb').1)
       . rw[a0z _ _ hr]at hb;by_cases hr':r'=4*i
         . subst hr';rw[a0y,hgF]at hb';exact absurd rfl (n3 b hb' b (k5 r b hb).1)
         . rw[a0z _ _ hr']at hb';exact k7 r r' b hb hb'
     . simp only[zo]at hr;have hne:r≠4*i:=by omega
       rw[hget,if_neg hne,a0z _ _ hne];exact k8 r (by omega)
   have root:∀ (agg:Bool) (t:Ty) (m:Mode) (x:t.den) (us:List Value),Rep w t m x us M1 S1->a0E agg us v->A1=S1->a1O (p::ps) d i = .view (4*i) (.root 0) t.sz agg::a1O ps d.2 (i+1)->a1z (p::ps) d i=(4*i,⟨false,enc m t x⟩)::a1z ps d.2 (i+1)->_:=fun agg t m x us hrep hsh hA e1 e2 =>
     root0 (.view (4*i) (.root 0) t.sz agg) ⟨false,enc m t x⟩ ⟨us,none,M1,S1⟩ ⟨M1,(a0n _ _ _ _ _ _ _).1 hrep,.inl ⟨rfl,rfl,rfl⟩⟩ rfl rfl hA (fun rs' G' h1 h2=>⟨rfl,rfl,⟨false,enc m t x⟩,_,_,h1,zA _,by rw[h2];exact a2g,by rw[show us.length=t.sz from a0s hrep];exact ze _,by rw[zH (Nat.le_of_eq (a0s hrep))];exact hsh⟩) e1 e2
   cases p with
   | val agg t =>
     obtain⟨rfl,rfl,us,hrep,hsh⟩:=h1;exact plain (.val agg (enc .sh t d.1)) A1 A1 rfl rfl rfl ⟨rfl,us,(a0n _ _ _ _ _ _ _).1 hrep,hsh⟩ (fun b hb=>hb) (fun b hb=>hb)
   | rptr t =>
     obtain⟨rfl,ad,us,rfl,hc,hlt,hrep,rfl⟩:=h1;exact plain (.rptr false (enc .sh t d.1)) (ad.block::A1) A1 rfl rfl rfl ⟨ad,us,A1,rfl,hc,hlt,(a0n _ _ _ _ _ _ _).1 hrep,rfl,rfl⟩ (fun b hb=>hb) (fun b hb=>hb)
   | wr agg t m =>
     obtain⟨_,hA,us,hrep,hsh⟩:=h1;exact root agg t m d.1 us hrep hsh hA rfl rfl
   | tk agg t m =>
     obtain⟨hA,us,hrep,hsh⟩:=h1;exact root agg t m d.1 us hrep hsh hA rfl rfl
   | fnx s =>
     obtain⟨rfl,h1⟩:=h1;exact plain (.fnx s d.1) S1 A1 rfl rfl rfl h1 (fun b hb=>hb) (fun b hb=>hb)
   | pfn s =>
     obtain⟨rfl,ad,u,S0,rfl,hc,hlt,h1,rfl⟩:=h1;exact plain (.pfn (.fnx s d.1)) (ad.block::S0) A1 rfl rfl rfl ⟨ad,u,S0,rfl,hc,hlt,h1,rfl⟩ (fun b hb=>hb) (fun b hb=>hb)
   | wp t m =>
     obtain⟨hA,us,b,F,arr,e,rfl,hrep,hheap,harr,hM⟩:=h1;exact root0 (.ref (4*i) (.root 0)) ⟨true,enc m t d.1⟩ ⟨us,some b,M1,S1⟩ ⟨F,(a0n _ _ _ _ _ _ _).1 hrep,.inr ⟨rfl,b,arr,e,rfl,hheap,harr,hM⟩⟩ rfl rfl hA (fun rs' G' h1 h2=>⟨rfl,rfl,⟨true,enc m t d.1⟩,⟨b,0,none⟩,us,h1,zA _,by rw[h2];exact⟨rfl,rfl⟩,rfl⟩) rfl rfl
end Go.Vm
end
section
namespace Go.Vm
variable {P:Program}
structure Back (E:Env) (G:Nat->RG) (us:List Nat) (F S:List Nat):Prop where
 own:∀ b∈F,∃ r∈us,b∈(G r).F
 shr:∀ b∈S,(∀ q,b∉(G q).F)∨∃ r∈us,b∈(G r).F
 nodup:F.Nodup
 dis:∀ b∈F,b∉S
 inA:∀ b∈S,b<E.w0.heap.size->b∈E.A
theorem Back.nil {E:Env} {G:Nat->RG} (us:List Nat):Back E G us [] []:=⟨by simp,by simp,by simp,by simp,by simp⟩
theorem Back.app {E:Env} {rs:List (Nat×Root)} {w:World} {G:Nat->RG} (hr:RelR E rs w G) {us us':List Nat} {F S F' S':List Nat} (h:Back E G us F S) (h':Back E G us' F' S') (hn:∀ r∈us,r∉us'):Back E G (us++us') (F++F') (S++S'):=by
 have key:∀ b,(∃ r∈us,b∈(G r).F)->(∃ r∈us',b∈(G r).F)->False:=by
   rintro b ⟨r,h1,h2⟩ ⟨r',h3,h4⟩;have:=hr.disj r r' b h2 h4;subst this;exact hn r h1 h3
 refine⟨fun b hb=>?_,fun b hb=>?_,zx.2 ⟨h.nodup,h'.nodup,fun b hb c hc e=>?_⟩,fun b hb hs=>?_,fun b hb=>?_⟩
 . simp only[zd]at hb ⊢;rcases hb with hb|hb
   . obtain⟨r,h1,h2⟩:=h.own b hb;exact⟨r,.inl h1,h2⟩
   . obtain⟨r,h1,h2⟩:=h'.own b hb;exact⟨r,.inr h1,h2⟩
 . simp only[zd]at hb ⊢;rcases hb with hb|hb
   . exact(h.shr b hb).imp id fun⟨r,h1,h2⟩=>⟨r,.inl h1,h2⟩
   . exact(h'.shr b hb).imp id fun⟨r,h1,h2⟩=>⟨r,.inr h1,h2⟩
 . subst e;exact key b (h.own b hb) (h'.own b hc)
 . simp only[zd]at hb hs;rcases hb with hb|hb<;>rcases hs with hs|hs
   . exact h.dis b hb hs
   . rcases h'.shr b hs with k|k
     . obtain⟨r,h1,h2⟩:=h.own b hb;exact k r h2
     . exact key b (h.own b hb) k
   . rcases h.shr b hs with k|k
     . obtain⟨r,h1,h2⟩:=h'.own b hb;exact k r h2
     . exact key b k (h'.own b hb)
   . exact h'.dis b hb hs
 . simp only[zd]at hb;exact hb.elim (h.inA b) (h'.inA b)
theorem a2h {l l':List Nat} (h:a1a (l++l')=true):a1a l=true/\a1a l'=true/\∀ r∈l,r∉l':=by
 induction l with
 | nil=>exact⟨rfl,h,by simp⟩
 | cons x l ih =>
   simp only[zX,a1a,zb]at h;obtain⟨h1,h2,h3⟩:=ih h.2;have:=a3r (by simpa using h.1);simp only[zd,not_or]at this;refine⟨?_,h2,fun r hr=>?_⟩
   . simp only[a1a,zb];refine⟨?_,h1⟩;cases hx:hasN l x with
     | false=>rfl
     | true=>exact absurd (a0Q hx) this.1
   . simp only[zk]at hr;rcases hr with rfl|hr
     . exact this.2
     . exact h3 r hr
theorem b0p {E:Env} {σ:St} {a:Act} {w:World} {G:Nat->RG} (h:Rel P E σ a w G) {tv:TV} {v:Value} {S A:List Nat} (ht:TRep P σ.rs G w tv v S A) (hf:Fine2 E G S A) {q:List Cell×List Nat} (hr:readC σ tv=some q) :
   ∃ F S',a0K w q.1 v.cells.toList F S'/\Back E G q.2 F S':=by
 unfold readC at hr;split at hr
 . obtain rfl:=za hr;obtain⟨rfl,vs,h1,h2⟩:=ht;exact⟨[],_,by rw[a0e h1 h2];exact h1,⟨by simp,fun b hb => .inl (hf.free b hb),by simp,by simp,fun b hb=>hf.inA b hb⟩⟩
 . rename_i q p n ag;split at hr
   case h_2=>cases hr
   rename_i y hy;obtain rfl:=za hr;obtain⟨rfl,rfl,y',ad,us,hy',hp,hl,hn,hs⟩:=ht;rw[hy]at hy';obtain rfl:=za hy';obtain⟨F,S',hrep,hF,hS,-,hFn⟩:=a1H (h.r.roots q y hy) (h.r.nodup q) hp hl;obtain⟨F1,F2,S1,S2,rfl,rfl,hr1,-⟩:=a0F n hrep;have hshr:=h.r.shr q y hy;have hS1:∀ b∈S1,b∈(G q).S:=fun b hb=>hS b (by simp[hb]);have hF1:∀ b∈F1,b∈(G q).F:=fun b hb=>(hF b (by simp[hb])).1;exact⟨F1,S1,by rw[a0e hr1 hs];exact hr1,fun b hb=>⟨q,by simp,hF1 b hb⟩,fun b hb => .inl (hshr b (hS1 b hb)).1,(zx.1 hFn).1,fun b hb hb'=>(hshr b (hS1 b hb')).1 q (hF1 b hb),fun b hb=>(hshr b (hS1 b hb)).2⟩
 . cases hr
theorem a9Z {E:Env} {σ:St} {a:Act} {w:World} {G:Nat->RG} (h:Rel P E σ a w G):∀ (ts:List TV) (vs:List Value) (S A:List Nat),a1A P σ.rs G w ts vs S A->Fine2 E G S A->∀ (q:List Cell×List Nat),b1U σ ts=some q->a1a q.2=true →
   ∃ F S',a0K w q.1 (vs.flatMap fun v=>v.cells.toList) F S'/\Back E G q.2 F S':=by
 intro ts;induction ts with
 | nil =>
   intro vs S A ht hf q hr _;obtain rfl:=za hr;obtain⟨rfl,rfl,rfl⟩:=ht;exact⟨[],[],⟨rfl,rfl,rfl⟩,Back.nil _⟩
 | cons t ts ih =>
   intro vs S A ht hf q hr hn;obtain⟨v,vs',S1,S2,A1,A2,rfl,rfl,rfl,h1,h2⟩:=ht;simp only[b1U]at hr;split at hr
   case h_2=>cases hr
   rename_i q1 q2 hx hy;obtain rfl:=za hr;obtain⟨n1,n2,n3⟩:=a2h hn;obtain⟨F1,T1,g1,k1⟩:=b0p h h1 (hf.sub (by simp +contextual) (by simp +contextual)) hx;obtain⟨F2,T2,g2,k2⟩:=ih vs' S2 A2 h2 (hf.sub (by simp +contextual) (by simp +contextual)) q2 hy n2;exact⟨F1++F2,T1++T2,by simpa using a0M g1 g2,k1.app h.r k2 n3⟩
theorem a4I {E:Env} {σ:St} {a:Act} {w:World} {G:Nat->RG} (h:Rel P E σ a w G) {tv:TV} {v:Value} {S A:List Nat} (ht:TRep P σ.rs G w tv v S A) (hf:Fine2 E G S A) {agg:Bool} {t:Ty} {m:Mode} {x:t.den} {us:List Nat} (hr:a5u σ agg t m tv=some (x,us)) :
   ∃ F S',b1B w (.val agg) t m x v F S'/\Back E G us F S':=by
 have free:∀ (S':List Nat),(∀ b∈S',b∈A)->(∀ b∈S',b∈S)->Back E G [] [] S':=fun S' h1 h2=>⟨by simp,fun b hb => .inl (hf.free b (h2 b hb)),by simp,by simp,fun b hb=>hf.inA b (h1 b hb)⟩;unfold a5u at hr;split at hr
 . split at hr
   . rename_i he _;subst he;split at hr
     . rename_i y hy;simp only[zc,zl]at hr;obtain⟨rfl,rfl⟩:=hr;obtain⟨rfl,vs,h1,h2⟩:=ht;exact⟨[],_,⟨vs,a0J hy h1,h2⟩,free _ (fun b hb=>hb) (fun b hb=>hb)⟩
     . cases hr
   . cases hr
 . rename_i q p n ag;split at hr
   . rename_i he y _ hy;subst he;split at hr
     . rename_i z hz;simp only[zc,zl]at hr;obtain⟨rfl,rfl⟩:=hr;obtain⟨rfl,rfl,y',ad,us,hy',hp,hl,hn,hs⟩:=ht;rw[hy]at hy';obtain rfl:=za hy';obtain⟨F,S',hrep,hF,hS,-,hFn⟩:=a1H (h.r.roots q y hy) (h.r.nodup q) hp hl;obtain⟨F1,F2,S1,S2,rfl,rfl,hr1,-⟩:=a0F n hrep;have hshr:=h.r.shr q y hy;have hS1:∀ b∈S1,b∈(G q).S:=fun b hb=>hS b (by simp[hb]);have hF1:∀ b∈F1,b∈(G q).F:=fun b hb=>(hF b (by simp[hb])).1;have hEA:∀ b∈(G q).F,b<E.w0.heap.size->b∈E.A:=by
         intro b hb hlt;rcases h.r.own q b hb with h1|h1
         . omega
         . exact E.ma b h1
       cases hm:m.own with
       | true =>
         simp only[a7Y,hm]at hz;refine⟨F1,S1,⟨us.take n,a0J hz hr1,hs⟩,fun b hb=>⟨q,by simp,hF1 b hb⟩,fun b hb => .inl (hshr b (hS1 b hb)).1,?_,fun b hb hb'=>(hshr b (hS1 b hb')).1 q (hF1 b hb),fun b hb=>(hshr b (hS1 b hb)).2⟩;exact(zx.1 hFn).1
       | false =>
         simp only[a7Y,hm]at hz;obtain⟨T,hT,hTs⟩:=a2k hr1;have hms:m = .sh:=by cases m<;>first|rfl|cases hm
         have:=a0J hz hT;refine⟨[],T,⟨us.take n,this,hs⟩,by simp,fun b hb=>?_,by simp,by simp,fun b hb=>?_⟩
         . rcases hTs b hb with h1|h1
           . exact .inr ⟨q,by simp,hF1 b h1⟩
           . exact .inl (hshr b (hS1 b h1)).1
         . rcases hTs b hb with h1|h1
           . exact hEA b (hF1 b h1)
           . exact(hshr b (hS1 b h1)).2
     . cases hr
   . cases hr
 . rename_i ts;split at hr
   case h_2=>cases hr
   rename_i q hq;split at hr
   case h_2=>cases hr
   rename_i z hn hz;simp only[zc,zl]at hr;obtain⟨rfl,rfl⟩:=hr;obtain⟨vs,rfl,hts⟩:=ht;obtain⟨F1,S1,hr1,hb⟩:=a9Z h ts vs _ _ hts hf q hq hn;cases hm:m.own with
   | true =>
     simp only[a7Y,hm]at hz;exact⟨F1,S1,⟨_,a0J hz hr1,rfl⟩,hb⟩
   | false =>
     simp only[a7Y,hm]at hz;obtain⟨T,hT,hTs⟩:=a2k hr1;have hms:m = .sh:=by cases m<;>first|rfl|cases hm
     refine⟨[],T,⟨_,a0J hz hT,rfl⟩,by simp,fun b hb'=>?_,by simp,by simp,fun b hb' hlt=>?_⟩
     . rcases hTs b hb' with h1|h1
       . exact .inr (hb.own b h1)
       . exact hb.shr b h1
     . rcases hTs b hb' with h1|h1
       . obtain⟨q',-,h2⟩:=hb.own b h1;rcases h.r.own q' b h2 with h3|h3
         . omega
         . exact E.ma b h3
       . exact hb.inA b h1 hlt
 . cases hr
theorem a8d {E:Env} {σ:St} {a:Act} {w:World} {G:Nat->RG} (h:Rel P E σ a w G) {tv:TV} {v:Value} {S A:List Nat} (ht:TRep P σ.rs G w tv v S A) (hf:Fine2 E G S A) {k:OutK} {t:Ty} {m:Mode} {x:t.den} {us:List Nat} (hr:b0r σ k t m tv=some (x,us)) :
   ∃ F S',b1B w k t m x v F S'/\Back E G us F S':=by
 cases k with
 | val agg=>exact a4I h ht hf hr
 | fr agg=>exact a4I h ht hf hr
 | ptr =>
   simp only[b0r]at hr;split at hr
   case h_2=>cases hr
   rename_i cs;split at hr
   case h_2=>cases hr
   rename_i y hy;simp only[zc,zl]at hr;obtain⟨rfl,rfl⟩:=hr;obtain⟨ad,vs,A0,rfl,hc,hlt,h1,rfl,rfl⟩:=ht;obtain⟨T,hT,hTs⟩:=a2B t.sz h1;have hsub:∀ b∈ad.block::T,b∈ad.block::A0:=fun b hb=>by
     simp only[zk]at hb ⊢;exact hb.imp id (hTs b)
   refine⟨[],ad.block::T,⟨rfl,ad,vs.take t.sz,T,rfl,fun i u hu=>hc i u ?_,hlt,a0J hy hT,rfl⟩,⟨by simp,fun b hb => .inl (hf.free b (hsub b hb)),by simp,by simp,fun b hb=>hf.inA b (hsub b hb)⟩⟩;rw[zz]at hu;split at hu
   . exact hu
   . cases hu
theorem a7J {E:Env} {σ:St} {a:Act} {w:World} {G:Nat->RG} (h:Rel P E σ a w G):∀ (outs:List (OutK×Ty×Mode)) (ts:List TV) (vs:List Value) (S A:List Nat),a1A P σ.rs G w ts vs S A->Fine2 E G S A->∀ (d:Outs outs) (us:List Nat),a3C σ outs ts=some (d,us)->a1a us=true →
   ∃ F S',a4N w outs d vs F S'/\Back E G us F S':=by
 intro outs;induction outs with
 | nil =>
   intro ts vs S A ht hf d us hr _;cases ts with
   | nil =>
     simp only[a3C,zc,zl]at hr;obtain⟨-,rfl⟩:=hr;obtain⟨rfl,rfl,rfl⟩:=ht;exact⟨[],[],⟨rfl,rfl,rfl⟩,Back.nil _⟩
   | cons t ts=>simp[a3C]at hr
 | cons o outs ih =>
   intro ts vs S A ht hf d us hr hn;cases ts with
   | nil=>simp[a3C]at hr
   | cons t ts =>
     obtain⟨v,vs',S1,S2,A1,A2,rfl,rfl,rfl,h1,h2⟩:=ht;simp only[a3C]at hr;split at hr
     . rename_i x u y u' hx hy;simp only[zc,zl]at hr;obtain⟨rfl,rfl⟩:=hr;obtain⟨n1,n2,n3⟩:=a2h hn;obtain⟨F1,T1,g1,k1⟩:=a8d h h1 (hf.sub (by simp +contextual) (by simp +contextual)) hx;obtain⟨F2,T2,g2,k2⟩:=ih ts vs' S2 A2 h2 (hf.sub (by simp +contextual) (by simp +contextual)) y u' hy n2;exact⟨F1++F2,T1++T2,⟨v,vs',F1,F2,T1,T2,rfl,rfl,rfl,g1,g2⟩,k1.app h.r k2 n3⟩
     . cases hr
theorem a7I {E:Env} {σ:St} {a:Act} {w:World} {G:Nat->RG} (h:Rel P E σ a w G) {args:List Value}:∀ (ps:List PS) (i:Nat) (ts:List TV) (vs:List Value),(∀ j t,ts[j]? = some t->σ.ts[i+j]? = some t)->vs.length=ps.length →
   (∀ j v,vs[j]? = some v->(i+j)∈kpOf ps i->a.tmps[i+j]? = some v)->∀ (d:Muts ps) (us:List Nat),a1K σ ps ts=some (d,us)->a1a us=true->∃ M T,a1R w ps d vs M T/\Back E G us M T:=by
 intro ps;induction ps with
 | nil =>
   intro i ts vs hts hl hk d us hr _;simp only[a1K,zc,zl]at hr;obtain⟨-,rfl⟩:=hr;exact⟨[],[],⟨rfl,rfl⟩,Back.nil _⟩
 | cons p ps ih =>
   intro i ts vs hts hl hk d us hr hn;cases vs with
   | nil=>simp at hl
   | cons v vs =>
   cases ts with
   | nil=>cases p<;>simp[a1K]at hr
   | cons t ts =>
     have hts':∀ j t,ts[j]? = some t->σ.ts[i+1+j]? = some t:=fun j t' h'=>by
       rw[show i+1+j=i+(j+1)by omega];exact hts (j+1) t' (by simpa using h')
     have hl':vs.length=ps.length:=by simpa using hl
     have hk':∀ j u,vs[j]? = some u->(i+1+j)∈kpOf ps (i+1)->a.tmps[i+1+j]? = some u:=fun j u h1 h2=>by
       rw[show i+1+j=i+(j+1)by omega]at h2 ⊢;exact hk (j+1) u (by simpa using h1) (by cases p<;>simp[kpOf,h2])
     cases p with
     | wr agg ty m =>
       simp only[a1K]at hr;split at hr
       . rename_i x u y u' hx hy;simp only[zc,zl]at hr;obtain⟨rfl,rfl⟩:=hr;obtain⟨n1,n2,n3⟩:=a2h hn;obtain⟨M2,T2,g2,k2⟩:=ih (i+1) ts vs hts' hl' hk' y u' hy n2;obtain⟨v',S,A,hv,ht,hf⟩:=h.temps.2 i t (by simpa using hts 0 t rfl);have hkv:=hk 0 v rfl (by simp[kpOf]);simp only[Nat.add_zero]at hkv;rw[hkv]at hv;obtain rfl:=za hv;unfold b1T at hx;split at hx
         . rename_i q n ag;split at hx
           . rename_i he yr _ hyr;subst he;split at hx
             . rename_i z hz;simp only[zc,zl]at hx;obtain⟨rfl,rfl⟩:=hx;obtain⟨rfl,rfl,y',ad,us,hy',hp,hl1,hn1,hs⟩:=ht;rw[hyr]at hy';obtain rfl:=za hy';obtain⟨F,S',hrep,hF,hS,-,hFn⟩:=a1H (h.r.roots q yr hyr) (h.r.nodup q) hp hl1;simp only[a0W,yn]at hrep;obtain⟨F1,F2,S1,S2,rfl,rfl,hr1,-⟩:=a0F n hrep;have hshr:=h.r.shr q yr hyr;have hS1:∀ b∈S1,b∈(G q).S:=fun b hb=>hS b (by simp[hb]);have hF1:∀ b∈F1,b∈(G q).F:=fun b hb=>(hF b (by simp[hb])).1;have k1:Back E G [q] F1 S1:=⟨fun b hb=>⟨q,by simp,hF1 b hb⟩,fun b hb => .inl (hshr b (hS1 b hb)).1,(zx.1 hFn).1,fun b hb hb'=>(hshr b (hS1 b hb')).1 q (hF1 b hb),fun b hb=>(hshr b (hS1 b hb)).2⟩;exact⟨F1++M2,S1++T2,⟨v,vs,F1,M2,S1,T2,rfl,rfl,rfl,⟨_,a0J hz hr1,hs⟩,g2⟩,k1.app h.r k2 n3⟩
             . cases hx
           . cases hx
         . cases hx
       . cases hr
     | val agg ty=>obtain⟨M,T,g1,k1⟩:=ih (i+1) ts vs hts' hl' hk' d us hr hn;exact⟨M,T,⟨v,vs,rfl,g1⟩,k1⟩
     | rptr ty=>obtain⟨M,T,g1,k1⟩:=ih (i+1) ts vs hts' hl' hk' d us hr hn;exact⟨M,T,⟨v,vs,rfl,g1⟩,k1⟩
     | tk agg ty m=>obtain⟨M,T,g1,k1⟩:=ih (i+1) ts vs hts' hl' hk' d us hr hn;exact⟨M,T,⟨v,vs,rfl,g1⟩,k1⟩
     | fnx s=>obtain⟨M,T,g1,k1⟩:=ih (i+1) ts vs hts' hl' hk' d us hr hn;exact⟨M,T,⟨v,vs,rfl,g1⟩,k1⟩
     | pfn s=>obtain⟨M,T,g1,k1⟩:=ih (i+1) ts vs hts' hl' hk' d us hr hn;exact⟨M,T,⟨v,vs,rfl,g1⟩,k1⟩
     | wp ty m =>
       simp only[a1K]at hr;split at hr
       . rename_i x q y u' hx hy;simp only[zc,zl]at hr;obtain⟨rfl,rfl⟩:=hr;obtain⟨n1,n2,n3⟩:=a2h hn;obtain⟨M2,T2,g2,k2⟩:=ih (i+1) ts vs hts' hl' hk' y u' hy n2;obtain⟨v',S,A,hv,ht,hf⟩:=h.temps.2 i t (by simpa using hts 0 t rfl);have hkv:=hk 0 v rfl (by simp[kpOf]);simp only[Nat.add_zero]at hkv;rw[hkv]at hv;obtain rfl:=za hv;obtain⟨cs,hcs,hcl,-,hA,g1⟩:=a5c h ht hx;have hshr:=h.r.shr q _ hcs;have k1:Back E G [q] (G q).F (G q).S:=⟨fun b hb=>⟨q,by simp,hb⟩,fun b hb => .inl (hshr b hb).1,h.r.nodup q,fun b hb hb'=>(hshr b hb').1 q hb,fun b hb=>(hshr b hb).2⟩;exact⟨(G q).F++M2,(G q).S++T2,⟨v,vs,(G q).F,M2,(G q).S,T2,rfl,rfl,rfl,g1,g2⟩,k1.app h.r k2 n3⟩
       . cases hr
end Go.Vm
end
section
namespace Go.Vm
variable {P:Program}
theorem b3m {rs:List (Nat×Root)} {G:Nat->RG} {w:World}:∀ (ts:List TV) (vs:List Value) (S A:List Nat),a1A P rs G w ts vs S A->ts.length=vs.length/\∀ (i:Nat) (t:TV),ts[i]? = some t->∃ v S' A',vs[i]? = some v/\TRep P rs G w t v S' A'/\(∀ b∈S',b∈S)/\(∀ b∈A',b∈A):=by
 intro ts;induction ts with
 | nil=>rintro vs S A ⟨rfl,rfl,rfl⟩;exact⟨rfl,by simp⟩
 | cons t ts ih =>
   rintro vs S A ⟨v,vs',S1,S2,A1,A2,rfl,rfl,rfl,h1,h2⟩;obtain⟨k1,k2⟩:=ih _ _ _ h2;refine⟨by simp[k1],fun i t' ht=>?_⟩;cases i with
   | zero =>
     simp only[zG,zc]at ht;subst ht;exact⟨v,S1,A1,rfl,h1,by simp +contextual,by simp +contextual⟩
   | succ i =>
     obtain⟨u,S',A',k3,k4,k5,k6⟩:=k2 i t' (by simpa using ht);exact⟨u,S',A',by simpa using k3,k4,fun b hb=>by simp[k5 b hb],fun b hb=>by simp[k6 b hb]⟩
theorem a7k {w:World}:∀ (ps:List PS) (d:Ins ps) (vs:List Value) (M S A:List Nat),a1W P w ps d vs M S A->vs.length=ps.length:=by
 intro ps;induction ps with
 | nil=>rintro d vs M S A ⟨rfl,_⟩;rfl
 | cons p ps ih =>
   rintro d vs M S A ⟨v,vs',M1,M2,S1,S2,A1,A2,rfl,-,-,-,-,h⟩;simp[ih _ _ _ _ _ h]
theorem b1o {w:World}:∀ (ps:List PS) (d:Ins ps) (vs:List Value) (M S A:List Nat),a1W P w ps d vs M S A->∀ b∈S,b<w.heap.size:=by
 intro ps;induction ps with
 | nil=>rintro d vs M S A ⟨_,_,rfl,_⟩;simp
 | cons p ps ih =>
   rintro d vs M S A ⟨v,vs',M1,M2,S1,S2,A1,A2,rfl,rfl,rfl,rfl,h1,h2⟩ b hb;simp only[zd]at hb;rcases hb with hb|hb
   . cases p with
     | val agg t=>obtain⟨_,_,us,hr,_⟩:=h1;exact a2W _ hr b (.inr hb)
     | rptr t =>
       obtain⟨_,ad,us,_,_,hlt,hr,rfl⟩:=h1;simp only[zk]at hb;rcases hb with rfl|hb
       . exact hlt
       . exact a2W _ hr b (.inr hb)
     | wr agg t m=>obtain⟨_,_,us,hr,_⟩:=h1;exact a2W _ hr b (.inr hb)
     | tk agg t m=>obtain⟨_,us,hr,_⟩:=h1;exact a2W _ hr b (.inr hb)
     | fnx s=>obtain⟨_,f,caps,_,_,hlt,_⟩:=h1;exact hlt b hb
     | pfn s =>
       obtain⟨_,ad,u,S0,_,_,hlt,⟨f,caps,_,_,hl2,_⟩,rfl⟩:=h1;simp only[zk]at hb;rcases hb with rfl|hb
       . exact hlt
       . exact hl2 b hb
     | wp t m=>obtain⟨_,us,b',F,arr,e,_,hr,_⟩:=h1;exact a2W _ hr b (.inr hb)
   . exact ih _ _ _ _ _ h2 b hb
theorem kpOf_lt:∀ (ps:List PS) (i j:Nat),j∈kpOf ps i->i≤j/\j<i+ps.length:=by
 intro ps;induction ps with
 | nil=>intro i j h;cases h
 | cons p ps ih =>
   intro i j h;cases p<;>simp only[kpOf,zk]at h
   case wr agg t m =>
     rcases h with rfl|h
     . simp
     . have:=ih _ _ h;simp only[zo];omega
   case wp t m =>
     rcases h with rfl|h
     . simp
     . have:=ih _ _ h;simp only[zo];omega
   all_goals (have:=ih _ _ h;simp only[zo];omega)
theorem a9n {E:Env} {σ:St} {a:Act} {w:World} {G:Nat->RG} {c:Ctx} (ht:TabOK P c.tab) (h:Rel P E σ a w G):∀ (res:List ResultVar) (ts:List TV),a6n c σ res=some ts->∃ vs S A,a1A P σ.rs G w ts vs S A/\Fine2 E G S A ∧
   ∀ (f:ResultVar->Sem Value),(∀ u,f (.tmp u)=pure (a.tmps.getD u undef))->(∀ u t,f (.cell u t)=(do loadVar t (←asAddr (a.tmps.getD u undef))))->(res.mapM f).run P w = .ok vs w:=by
 intro res;induction res with
 | nil =>
   intro ts hr;simp only[a6n,zc]at hr;subst hr;exact⟨[],[],[],⟨rfl,rfl,rfl⟩,Fine2.nil _ _,fun f _ _=>by simp⟩
 | cons x res ih =>
   intro ts hr;cases x with
   | cell b T =>
     simp only[a6n]at hr;split at hr
     case h_2=>cases hr
     rename_i t ts' hl hts;obtain rfl:=(za hr);obtain⟨vs,S,A,h1,h2,h3⟩:=ih ts' hts;obtain⟨ad,v,S1,A1,hv,hrun,hx,hf⟩:=load_tv ht h (x := .tmp b) hl;refine⟨_,S1++S,A1++A,⟨v,vs,S1,S,A1,A,rfl,rfl,rfl,hx,h1⟩,a4p hf h2,fun f hf' hc=>?_⟩;have hv':a.tmps.getD b undef = .pointer (some ad):=hv;rw[yo,hc,hv'];simp[asAddr,hrun,h3 f hf' hc]
   | tmp t =>
     simp only[a6n]at hr;split at hr
     case h_2=>cases hr
     rename_i ts' hts;obtain rfl:=(za hr);obtain⟨vs,S,A,h1,h2,h3⟩:=ih ts' hts;obtain⟨S1,A1,hx,hf⟩:=a0q h (.tmp t);refine⟨_,S1++S,A1++A,⟨a.tmps.getD t undef,vs,S1,S,A1,A,rfl,rfl,rfl,hx,h1⟩,a4p hf h2,fun f hf' hc=>?_⟩;simp[yo,hf',h3 f hf' hc]
theorem b3x:∀ (n i:Nat) (t:TV),(a9B n)[i]? = some t->t = .dead:=by
 intro n;induction n with
 | zero=>intro i t h;simp[a9B]at h
 | succ n ih =>
   intro i t h;cases i with
   | zero=>simp only[a9B,zG,zc]at h;exact h.symm
   | succ i=>simp only[a9B,List.getElem?_cons_succ]at h;exact ih i t h
theorem a5W:∀ (n:Nat),(a9B n).length=n:=by
 intro n;induction n with
 | zero=>rfl
 | succ n ih=>simp[a9B,ih]
theorem a3w:∀ (ps:List PS) (d:Ins ps) (i:Nat),(a1O ps d i).length=ps.length:=by
 intro ps;induction ps with
 | nil=>intro d i;rfl
 | cons p ps ih=>intro d i;cases p<;>simp[a1O,ih]
theorem b4s {f : FuncId} {fn : Func} {code : Code} (hf : P.funcs[f]? = some fn) (hbody : fn.body = some code) (hname : (fn.name == "runtime.NumGoroutine") = false) {s : Sig} {g : Cfg} (hctx : CtxOK P g.c) (hkp : g.kp = kpOf s.ps 0) {nt : Nat} (hnt : fn.ntmps = nt) (hle : s.ps.length ≤ nt)
   {res:List ResultVar} (hres:fn.results=res.toArray) {F:Ins s.ps->Option (Outs s.outs×Muts s.ps)}
   (hF:∀ d r,F d=some r->∃ k,a1P g (finK g.c s res) (runT g (finK g.c s res) k) big [.code code] (a6P s.ps d nt)=some r):a3P P ⟨f,s,F⟩:=by
 refine⟨⟨fn,hf,by simp[hbody],hname⟩,fun d r hFd w vs M S A hargs hMn hMS=>?_⟩;obtain⟨k,hk⟩:=hF d r hFd;have hvl:=a7k _ _ _ _ _ _ hargs;have hSlt:=b1o _ _ _ _ _ _ hargs;have hAS:=a2u _ _ _ _ _ _ hargs;let E:Env:=⟨w,M,A++M,fun b hb=>by simp[hb]⟩;obtain⟨G,S',A',g1,g2,g3,g4,g5,g6,g7,g8⟩:=b4H s.ps d vs M S A 0 hargs hMn;have hfree:∀ b∈S,∀ q,b∉(G q).F:=fun b hb q hq=>hMS b (g5 q b hq).1 hb;let a:Act:={ tmps:=vs.toArray++zg (fn.ntmps-vs.toArray.size) undef,defers:=[] };have hrel:Rel P E (a6P s.ps d nt) a w G:=by
   refine⟨rfl,⟨?_,fun i t ht=>?_⟩,⟨fun q x hx=>(g4 q x hx).1,fun q b hb=>(g5 q b hb).2,g6,?_,g7,fun q x hx b hb=>?_,fun q b hb => .inr (g5 q b hb).1,fun b _ _=>rfl,Bel.refl _⟩⟩
   . simp[a,a6P,a3w,a5W,hvl,hnt]
   . obtain⟨k1,k2⟩:=b3m _ _ _ _ g1;simp only[a6P]at ht ⊢;rw[z9]at ht;split at ht
     . rename_i hlt;obtain⟨v,S1,A1,k3,k4,k5,k6⟩:=k2 i t ht;refine⟨v,S1,A1,?_,k4,⟨fun b hb=>hfree b (g2 b (k5 b hb)),fun b hb hlt=>?_⟩⟩
       . rw[a3w,<-hvl]at hlt;simp only[a];rw[zQ (by simpa using hlt)];simpa using k3
       . show b∈A++M;simp[g3 b (k6 b hb)]
     . rename_i hlt;have hd:=b3x _ _ _ ht;subst hd;have hi:i-(a1O s.ps d 0).length<nt-s.ps.length:=by
         rcases zp (i-(a1O s.ps d 0).length) (nt-s.ps.length)with h|h
         . exact h
         . rw[z4 (by rw[a5W];exact h)]at ht;cases ht
       rw[a3w]at hi hlt;have hia:i<a.tmps.size:=by simp[a,hvl,hnt];omega
       exact⟨a.tmps[i],[],[],by simp[hia],⟨rfl,rfl⟩,Fine2.nil _ _⟩
   . exact⟨4*(0+s.ps.length),fun q hq=>g8 q (.inr hq)⟩
   . obtain⟨h1,h2⟩:=(g4 q x hx).2 b hb;refine⟨hfree b h1,fun _=>?_⟩;show b∈A++M;simp[h2]
 let kv:List (Nat×Value):=(kpOf s.ps 0).map fun i=>(i,vs.getD i undef);have hkv:(kpOf s.ps 0)=kv.map (·.1):=by simp only[kv,zE];exact(List.map_id _).symm
 have hkeep:Keep kv a:=by
   intro p hp;simp only[kv,zY]at hp;obtain⟨i,hi,rfl⟩:=hp;have hlt:=(kpOf_lt _ _ _ hi).2;simp only[yc]at hlt;rw[<-hvl]at hlt;simp only[a];rw[zQ (by simpa using hlt)];simp[hlt]
 have hfin:FinOK P E kv (fun r a' w'=>a'.defers=[]/\∃ v,(results fn a'.tmps).run P w' = .ok v w'/\PostC w s r vs M A (.returned v) w') (finK g.c s res):=by
   intro σ r a' w' G' hr hrel' hkeep';refine⟨hrel'.defers,?_⟩;unfold finK at hr;split at hr
   . cases hr
   rename_i ts hts;split at hr
   case h_2=>cases hr
   rename_i x u y u' hx hy;split at hr
   case h_2=>cases hr
   rename_i hnd;obtain rfl:=za hr;obtain⟨n1,n2,n3⟩:=a2h hnd;obtain⟨us,So,Ao,h1,h2,h3⟩:=a9n hctx.tab hrel' res ts hts;obtain⟨F1,T1,k1,k2⟩:=a7J hrel' s.outs ts us So Ao h1 h2 x u hx n1;obtain⟨M1,T2,k3,k4⟩:=a7I hrel' (args:=vs) s.ps 0 σ.ts vs (fun j t hj=>by simpa using hj) hvl (fun j v hj hjk=>by
     simp only[yc]at hjk ⊢;have:=hkeep' (j,vs.getD j undef) (by simp only[kv,zY];exact⟨j,hjk,rfl⟩);simp only[]at this;rw[this];simp[List.getD_eq_getElem?_getD,hj]) y u' hy n2
   have hback:=k2.app hrel'.r k4 n3;refine⟨retV us,?_,us,F1,T1,M1,T2,rfl,k1,k3,hback.nodup,fun b hb=>?_,fun b hb=>⟨fun hbF=>hback.dis b hbF hb,fun hlt=>?_⟩,fun b hb hbM=>hrel'.r.frame b hb hbM,hrel'.r.base⟩
   . unfold results;rw[hres,List.mapM_toArray];simp only[Sem.run_bind,Sem.run_map];rw[h3 _ (fun u=>rfl) (fun u t=>rfl)]
     match us with
     | []=>simp[retV]
     | [v]=>simp[retV]
     | v::v'::us=>simp[retV]
   . obtain⟨q,-,hq⟩:=hback.own b hb;exact hrel'.r.own q b hq
   . have:=hback.inA b hb hlt;have:b∈A++M:=this;simpa using this
 have hreach:=a3e hctx (hkp.trans hkv) hfin (b2T hctx (hkp.trans hkv) hfin k) big [.code code] (a6P s.ps d nt) r a w G hk hrel hkeep;intro cs;let b:Frame:={ (default:Frame)with fn:=f,kind := .normal };have henter:Frame.enter P f vs.toArray .normal=b.at a [.code code]:=by
   simp[Frame.enter,Frame.at,hf,hbody,b,a]
 obtain⟨a',w',todo',hs,hd,v,hr,hp⟩:=hreach b cs;rw[<-henter]at hs;exact⟨.returned v,w',_,hp,hs,rfl,rfl,hd,rfl,fn,hf,hr⟩
end Go.Vm
end
section
namespace Go.Vm
variable {P:Program}
def a2n:List (Nat×TInfo)->Tab
 | [],_=>none
 | p::l,T=>match Nat.decEq p.1 T with
   | .isTrue _=>some p.2
   | .isFalse _=>a2n l T
def val1:Value->Value->Bool
 | .int k n,.int k' n'=>(match decEq k k' with
   | .isTrue _=>true
   | .isFalse _=>false)&&(match Int.decEq n n' with
   | .isTrue _=>true
   | .isFalse _=>false)
 | .bool a,.bool b=>a==b
 | .slice none 0 0,.slice none 0 0=>true
 | .nilFunc,.nilFunc=>true
 | _,_=>false
def b5j:List Value->List Value->Bool
 | [],[]=>true
 | x::xs,y::ys=>val1 x y&&b5j xs ys
 | _,_=>false
def zeroB:Option Value->Value->Bool
 | some (.agg xs),.agg ys=>b5j xs.toList ys.toList
 | some x,y=>val1 x y
 | none,_=>false
def aggB:TypeDesc->Bool
 | .struct _=>true
 | .array _ _=>true
 | _=>false
def a5K (P:Program):List (Nat×Nat×Bool)->List Field->Bool
 | [],[]=>true
 | (off,sz,ag)::l,f::fs=>zF f.offset off&&(match P.info? f.type with
     | some inf=>zF inf.size sz
     | none=>false)&&zy 0 sz&&(match P.underlying f.type with
     | some d=>aggB d==ag
     | none=>false)&&a5K P l fs
 | _,_=>false
def tyB:Ty->Ty->Bool
 | .int k,.int k'=>match decEq k k' with
   | .isTrue _=>true
   | .isFalse _=>false
 | .bool,.bool=>true
 | .pair a b,.pair c d=>tyB a c&&tyB b d
 | .sl a,.sl b=>tyB a b
 | _,_=>false
def a9C (P:Program) (tab:Tab) (i:TInfo) (d:TypeDesc):Bool:=match i.agg with
 | true=>match d with
   | .struct fields=>a5K P i.fs fields.toList
   | _=>false
 | false=>(match i.fs with
   | []=>true
   | _=>false)&&match i.t,d with
   | .sl t,.slice e=>zF e i.elem&&(match tab e with
     | some j=>tyB j.t t
     | none=>false)
   | .int k,.int k'=>(match decEq k k' with
     | .isTrue _=>true
     | .isFalse _=>false)
   | .bool,.bool=>true
   | .any,.func .. => true
   | _,_=>false
def rowB (P:Program) (tab:Tab) (p:Nat×TInfo):Bool:=match P.info? p.1,P.underlying p.1 with
 | some inf,some d=>zF inf.size p.2.t.sz&&zy 0 inf.bytes&&Nat.ble inf.bytes 256&&zeroB inf.zero (a3i p.2)&&(p.2.agg||zF p.2.t.sz 1)&&(aggB d==p.2.agg)&&a9C P tab p.2 d
 | _,_=>false
def tabB (P:Program) (l:List (Nat×TInfo)):Bool:=allB (rowB P (a2n l)) l
theorem b0C:∀ {l:List (Nat×TInfo)} {T:Nat} {i:TInfo},a2n l T=some i->(T,i)∈l:=by
 intro l;induction l with
 | nil=>intro T i h;cases h
 | cons p l ih =>
   intro T i h;simp only[a2n]at h;split at h
   . rename_i he _;obtain rfl:=za h;subst he;simp
   . simp[ih h]
theorem b3s {x y:Value} (h:val1 x y=true):x=y:=by
 unfold val1 at h;split at h
 . rename_i k n k' n';simp only[zb]at h;obtain⟨h1,h2⟩:=h;split at h1
   . rename_i he _;split at h2
     . rename_i hf _;rw[he,hf]
     . cases h2
   . cases h1
 . rename_i a b;simp only[beq_iff_eq]at h;rw[h]
 . rfl
 . rfl
 . cases h
theorem b5q:∀ {xs ys:List Value},b5j xs ys=true->xs=ys:=by
 intro xs;induction xs with
 | nil=>intro ys h;cases ys with
   | nil=>rfl
   | cons y ys=>cases h
 | cons x xs ih =>
   intro ys h;cases ys with
   | nil=>cases h
   | cons y ys =>
     simp only[b5j,zb]at h;rw[b3s h.1,ih h.2]
theorem b5w {x:Option Value} {y:Value} (h:zeroB x y=true):x=some y:=by
 unfold zeroB at h;split at h
 . rename_i xs ys;rw[show xs=ys from Array.ext' (b5q h)]
 . rw[b3s h]
 . cases h
theorem b3o:∀ {s t:Ty},tyB s t=true->s=t:=by
 intro s;induction s with
 | int k =>
   intro t h;cases t with
   | int k' =>
     simp only[tyB]at h;split at h
     . rename_i he _;rw[he]
     . cases h
   | _=>cases h
 | bool=>intro t h;cases t<;>first|rfl|cases h
 | any=>intro t h;cases t<;>cases h
 | pair a b iha ihb =>
   intro t h;cases t with
   | pair c d =>
     simp only[tyB,zb]at h;rw[iha h.1,ihb h.2]
   | _=>cases h
 | sl a ih =>
   intro t h;cases t with
   | sl b=>rw[ih h]
   | _=>cases h
theorem b0X:∀ {l:List (Nat×Nat×Bool)} {fs:List Field},a5K P l fs=true->∀ (f:Nat) (off sz:Nat) (ag:Bool),l[f]? = some (off,sz,ag) →
   ∃ (fd:Field) (d:TypeDesc),fs[f]? = some fd/\fd.offset=off/\(∃ inf,P.info? fd.type=some inf/\inf.size=sz)/\sz≠0/\P.underlying fd.type=some d/\aggB d=ag:=by
 intro l;induction l with
 | nil=>intro fs _ f off sz ag h;simp at h
 | cons p l ih =>
   intro fs h f off sz ag hf;obtain⟨o,s,g⟩:=p;cases fs with
   | nil=>cases h
   | cons fd fs =>
     simp only[a5K,zb]at h;obtain⟨⟨⟨⟨h1,h2⟩,h3⟩,h4⟩,h5⟩:=h;cases f with
     | succ f=>exact ih h5 f off sz ag (by simpa using hf)
     | zero =>
       simp only[zG,zc,zl]at hf;obtain⟨rfl,rfl,rfl⟩:=hf;split at h2
       . rename_i inf hinf;split at h4
         . rename_i d hd;refine⟨fd,d,rfl,zh h1,⟨inf,hinf,zh h2⟩,?_,hd,by simpa using h4⟩;have:=zq h3;omega
         . cases h4
       . cases h2
theorem b0Y:∀ {l:List (Nat×Nat×Bool)} {fs:List Field},a5K P l fs=true->fs.length=l.length:=by
 intro l;induction l with
 | nil=>intro fs h;cases fs with
   | nil=>rfl
   | cons f fs=>cases h
 | cons p l ih =>
   intro fs h;obtain⟨o,s,g⟩:=p;cases fs with
   | nil=>cases h
   | cons fd fs =>
     simp only[a5K,zb]at h;simp[ih h.2]
theorem tab_ok {l:List (Nat×TInfo)} (h:tabB P l=true):TabOK P (a2n l):=by
 have base:∀ T i,a2n l T=some i->∃ inf d,P.info? T=some inf/\P.underlying T=some d/\inf.size=i.t.sz/\0<inf.bytes/\inf.bytes≤256/\inf.zero=some (a3i i)/\(i.agg=false->i.t.sz=1)/\aggB d=i.agg/\a9C P (a2n l) i d=true:=by
   intro T i hi;have:=a0H h (T,i) (b0C hi);unfold rowB at this;split at this
   . rename_i inf d h1 h2;simp only[zb]at this;obtain⟨⟨⟨⟨⟨⟨k1,k2⟩,k3⟩,k4⟩,k5⟩,k6⟩,k7⟩:=this;refine⟨inf,d,h1,h2,zh k1,zq k2,zq k3,b5w k4,fun ha=>?_,by simpa using k6,k7⟩;rw[ha]at k5;exact zh (by simpa using k5)
   . cases this
 refine⟨fun T i hi=>?_,fun T i hi ha=>?_,fun T i hi=>?_,fun T t e fs hi=>?_,fun T i f off sz ag hi hf=>?_,fun T i hi hne=>?_,fun T i hi ht ha=>?_,fun T k e fs hi=>?_,fun T e fs hi=>?_⟩
 . obtain⟨inf,d,h1,_,h3,h4,h5,h6,_⟩:=base T i hi;exact⟨inf,h1,h3,h4,h5,h6⟩
 . obtain⟨inf,d,_,_,_,_,_,_,h7,_⟩:=base T i hi;exact h7 ha
 . obtain⟨inf,d,_,h2,_,_,_,_,_,h8,_⟩:=base T i hi;exact⟨d,h2,by rw[<-h8];cases d<;>rfl⟩
 . obtain⟨inf,d,_,h2,_,_,_,_,_,h8,h9⟩:=base T _ hi;simp only[a9C,zb]at h9;obtain⟨-,h9⟩:=h9;cases d with
   | slice e' =>
     simp only[zb]at h9;obtain⟨k1,k2⟩:=h9;have he:=zh k1;subst he;split at k2
     . rename_i j hj;exact⟨h2,j,hj,b3o k2⟩
     . cases k2
   | _=>cases h9
 . obtain⟨inf,d,_,h2,_,_,_,_,_,h8,h9⟩:=base T i hi;unfold a9C at h9;split at h9
   . split at h9
     . rename_i fields;obtain⟨fd,d',k1,k2,k3,k4,k5,k6⟩:=b0X h9 f off sz ag hf;exact⟨fields,fd,d',h2,by simpa using k1,k2,k3,k4,k5,by rw[<-k6];cases d'<;>rfl⟩
     . cases h9
   . simp only[zb]at h9;have:=h9.1;split at this
     . rename_i he;rw[he]at hf;simp at hf
     . cases this
 . obtain⟨inf,d,_,h2,_,_,_,_,_,h8,h9⟩:=base T i hi;unfold a9C at h9;split at h9
   . split at h9
     . rename_i fields;exact⟨fields,h2,by simpa using b0Y h9⟩
     . cases h9
   . simp only[zb]at h9;have:=h9.1;cases hfs:i.fs with
     | nil=>exact absurd hfs hne
     | cons f fs=>simp[hfs]at this
 . obtain⟨inf,d,_,h2,_,_,_,_,_,h8,h9⟩:=base T i hi;unfold a9C at h9;rw[ha,ht]at h9;simp only[zb]at h9;have:=h9.2;cases d<;>first|exact h2|cases this
 . obtain⟨inf,d,_,h2,_,_,_,_,_,h8,h9⟩:=base T _ hi;simp only[a9C,zb]at h9;have:=h9.2;cases d with
   | int k' =>
     simp only[]at this;split at this
     . rename_i he _;rw[h2,<-he]
     . cases this
   | _=>cases this
 . obtain⟨inf,d,_,h2,_,_,_,_,_,h8,h9⟩:=base T _ hi;simp only[a9C,zb]at h9;have:=h9.2;cases d with
   | func ps rs v=>exact⟨ps,rs,v,h2⟩
   | _=>cases this
end Go.Vm
end
section
namespace Go.Vm
variable {P:Program}
end Go.Vm
end
section
namespace Go.Vm
variable {P:Program} {R:Type}
def sub:List Nat->Code->Code
 | [],c=>c
 | 0::p,.seq a _=>sub p a
 | 1::p,.seq _ b=>sub p b
 | 0::p,.cond _ a _=>sub p a
 | 1::p,.cond _ _ b=>sub p b
 | 0::p,.block _ b=>sub p b
 | 0::p,.loop b=>sub p b
 | _,c=>c
open Classical in
noncomputable def anyK (M:Nat->Option R):Option R:=if h:∃ k r,M k=some r then M (Classical.choose h)else none
theorem b2m {M:Nat->Option R} {r:R} (h:anyK M=some r):∃ k,M k=some r:=by
 unfold anyK at h;split at h
 . exact⟨_,h⟩
 . cases h
theorem b2l {M:Nat->Option R} (hm:∀ k k' r,k≤k'->M k=some r->M k'=some r) {k:Nat} {r:R} (h:M k=some r):anyK M=some r:=by
 unfold anyK;have hex:∃ k r,M k=some r:=⟨k,r,h⟩;rw[dif_pos hex];obtain⟨r',hr'⟩:=Classical.choose_spec hex;rw[hr'];have h1:=hm _ (max k (Classical.choose hex)) _ (yl _ _) h;have h2:=hm _ (max k (Classical.choose hex)) _ (yj _ _) hr';rw[h1]at h2;exact h2.symm
theorem b1n (x:Option R):anyK (fun _=>x)=x:=by
 cases x with
 | none =>
   unfold anyK;rw[dif_neg];rintro⟨_,_,h⟩;cases h
 | some r=>exact b2l (M:=fun _=>some r) (fun _ _ _ _ h=>h) (k:=0) rfl
noncomputable def a9u (g:Cfg) (fin:St->Option R) (code:Code) (σ:St) (k:Nat):Option R:=a1P g fin (runT g fin k) big [.code code] σ
theorem b4i {g:Cfg} {fin:St->Option R} {code:Code} {σ:St} (k k':Nat) (r:R) (h:k≤k') (hr:a9u g fin code σ k=some r):a9u g fin code σ k'=some r :=
 a7y (runT_le h) _ _ _ _ hr
def Ev (M:Nat->Option R) (r:R):Prop:=∃ k0,∀ k,k0≤k->M k=some r
theorem Ev.const (r:R):Ev (fun _=>some r) r:=⟨0,fun _ _=>rfl⟩
theorem Ev.of_eq {M N:Nat->Option R} {r:R} (h:Ev N r) (e:∀ k,M k=N k):Ev M r:=by
 obtain⟨k0,h⟩:=h;exact⟨k0,fun k hk=>(e k).trans (h k hk)⟩
theorem Ev.succ {M N:Nat->Option R} {r:R} (h:Ev N r) (e:∀ k,M (k+1)=N k):Ev M r:=by
 obtain⟨k0,h⟩:=h;refine⟨k0+1,fun k hk=>?_⟩;obtain⟨k',rfl⟩:∃ k',k=k'+1:=⟨k-1,by omega⟩;exact(e k').trans (h k' (by omega))
theorem Ev.any {M:Nat->Option R} {r:R} (hm:∀ k k' r,k≤k'->M k=some r->M k'=some r) (h:Ev M r):anyK M=some r:=by
 obtain⟨k0,h⟩:=h;exact b2l hm (h k0 (ze _))
theorem Ev.run {g:Cfg} {fin:St->Option R} {code:Code} {σ:St} {M:Nat->Option R} {r:R} (e:∀ k,a9u g fin code σ k=M k) (h:Ev M r):anyK (a9u g fin code σ)=some r :=
 Ev.any (fun k k' r=>b4i k k' r) (h.of_eq e)
theorem b3f {f : FuncId} {fn : Func} {code : Code} (hf : P.funcs[f]? = some fn) (hbody : fn.body = some code) (hname : (fn.name == "runtime.NumGoroutine") = false) {s : Sig} {g : Cfg} (hctx : CtxOK P g.c) (hkp : g.kp = kpOf s.ps 0) {nt : Nat} (hnt : fn.ntmps = nt) (hle : s.ps.length ≤ nt)
   {res:List ResultVar} (hres:fn.results=res.toArray):a3P P ⟨f,s,fun d=>anyK (a9u g (finK g.c s res) code (a6P s.ps d nt))⟩ :=
 b4s hf hbody hname hctx hkp hnt hle hres fun d r h=>b2m h
theorem Ev.uniq {M:Nat->Option R} {r r':R} (h:Ev M r) (h':Ev M r'):r=r':=by
 obtain⟨a,h⟩:=h;obtain⟨b,h'⟩:=h';have h1:=h (max a b) (yl _ _);rw[h' (max a b) (yj _ _)]at h1;exact(za h1).symm
open Classical in
noncomputable def anyE (M:Nat->Option R):Option R:=if h:∃ r,Ev M r then some (Classical.choose h)else none
theorem anyE_of {M:Nat->Option R} {r:R} (h:Ev M r):anyE M=some r:=by
 unfold anyE;have hex:∃ r,Ev M r:=⟨r,h⟩;rw[dif_pos hex,(Classical.choose_spec hex).uniq h]
theorem b2i {M:Nat->Option R} {r:R} (h:anyE M=some r):∃ k,M k=some r:=by
 unfold anyE at h;split at h
 . rename_i hex;obtain⟨k,hk⟩:=Classical.choose_spec hex;exact⟨k,by rw[<-h];exact hk k (ze _)⟩
 . cases h
def recF {α β:Type} (step:(α->Option β)->α->Option β):Nat->α->Option β
 | 0,_=>none
 | q+1,d=>step (recF step q) d
theorem sound_rec {f:FuncId} {s:Sig} {step:(Ins s.ps->Option (Outs s.outs×Muts s.ps))->Ins s.ps->Option (Outs s.outs×Muts s.ps)} (hE:a6j P f) (h:∀ self,a3P P ⟨f,s,self⟩->a3P P ⟨f,s,step self⟩) :
   a3P P ⟨f,s,fun d=>anyE fun q=>recF step q d⟩:=by
 have hq:∀ q,a3P P ⟨f,s,recF step q⟩:=by
   intro q;induction q with
   | zero=>exact⟨hE,fun d r hr=>by cases hr⟩
   | succ q ih=>exact h _ ih
 refine⟨hE,fun d r hr=>?_⟩;obtain⟨q,hr⟩:=b2i hr;exact(hq q).2 d r hr
theorem nilM {α:Type} {p:α->Prop}:∀ x∈([]:List α),p x:=List.forall_mem_nil _
theorem consM {α:Type} {p:α->Prop} {a:α} {l:List α} (h:p a/\∀ x∈l,p x):∀ x∈a::l,p x:=List.forall_mem_cons.2 h
theorem eq_any {R:Type} {g:Cfg} {fin:St->Option R} {code:Code} {σ:St} {v:Option R} (h:∀ k,a9u g fin code σ k=v):anyK (a9u g fin code σ)=v:=(congrArg anyK (funext h)).trans (b1n _)
theorem sound_k {f : FuncId} {fn : Func} {code : Code} {s : Sig} {g : Cfg} {nt : Nat} {res : List ResultVar} (hf : P.funcs[f]? = some fn) (hctx : CtxOK P g.c) (hbody : fn.body = some code := by kernel_rfl) (hname : (fn.name == "runtime.NumGoroutine") = false := by kernel_rfl) (hkp : g.kp = kpOf s.ps 0 := by kernel_rfl) (hnt : fn.ntmps = nt := by kernel_rfl) (hle : Nat.ble s.ps.length nt = true := by kernel_rfl)
   (hres:fn.results=res.toArray:=by kernel_rfl):a3P P ⟨f,s,fun d=>anyK (a9u g (finK g.c s res) code (a6P s.ps d nt))⟩ :=
 b3f hf hbody hname hctx hkp hnt (zq hle) hres
end Go.Vm
end
section
namespace Go.Vm
variable {P:Program}
def a8j:List (Bool×Ty)->List PS
 | []=>[]
 | p::l => .val p.1 p.2::a8j l
def b0b (caps:List PS):(ins:List (Bool×Ty))->Vals ins->Ins caps->Ins (a8j ins++caps)
 | [],_,y=>y
 | _::l,d,y=>(d.1,b0b caps l d.2 y)
def a7P:List PS->Bool
 | []=>true
 | .val _ _::l=>a7P l
 | .rptr _::l=>a7P l
 | .fnx _::l=>a7P l
 | .pfn _::l=>a7P l
 | _::_=>false
theorem a8A {w w':World} (hz:w.heap.size≤w'.heap.size):∀ (ps:List PS) (y:Ins ps) (vs:List Value) (S A:List Nat),a7P ps=true->a1W P w ps y vs [] S A->a0a w w' S->a1W P w' ps y vs [] S A:=by
 intro ps;induction ps with
 | nil=>intro y vs S A _ h _;exact h
 | cons p ps ih =>
   rintro y vs S A hok ⟨v,vs',M1,M2,S1,S2,A1,A2,rfl,hM,rfl,rfl,h1,h2⟩ hs;obtain⟨rfl,rfl⟩:=List.append_eq_nil_iff.1 hM.symm;have hs1:a0a w w' S1:=a0B hs (by simp +contextual);have hs2:a0a w w' S2:=a0B hs (by simp +contextual);cases p with
   | val agg t =>
     obtain⟨_,rfl,us,hr,hsh⟩:=h1;exact⟨v,vs',[],[],A1,S2,A1,A2,rfl,rfl,rfl,rfl,⟨rfl,rfl,us,a1u _ hr (by simpa using hs1),hsh⟩,ih _ _ _ _ hok h2 hs2⟩
   | rptr t =>
     obtain⟨_,ad,us,rfl,hc,hlt,hr,rfl⟩:=h1;refine⟨_,vs',[],[],ad.block::A1,S2,A1,A2,rfl,rfl,rfl,rfl,⟨rfl,ad,us,rfl,fun i u hu=>?_,yb hlt hz,a1u _ hr (a0B hs1 (by simp +contextual)),rfl⟩,ih _ _ _ _ hok h2 hs2⟩;have hq:=a1s (w:=w) (w':=w') (a:=ad.add i) (by rw[a0P];exact hs1 _ (by simp));rw[hq];exact hc i u hu
   | fnx s =>
     obtain⟨_,hf⟩:=h1;exact⟨v,vs',[],[],S1,S2,A1,A2,rfl,rfl,rfl,rfl,⟨rfl,a3x hf hs1 hz⟩,ih _ _ _ _ hok h2 hs2⟩
   | pfn s =>
     obtain⟨_,ad,u,S0,rfl,hc,hlt,hf,rfl⟩:=h1;refine⟨_,vs',[],[],ad.block::S0,S2,A1,A2,rfl,rfl,rfl,rfl,⟨rfl,ad,u,S0,rfl,?_,yb hlt hz,a3x hf (a0B hs1 (by simp +contextual)) hz,rfl⟩,ih _ _ _ _ hok h2 hs2⟩;rw[a1s (w:=w) (w':=w') (a:=ad) (hs1 _ (by simp))];exact hc
   | wr agg t m=>cases hok
   | wp t m=>cases hok
   | tk agg t m=>cases hok
theorem a9v {w:World} {caps:List PS} {y:Ins caps} {cv:List Value} {S A:List Nat} (h:a1W P w caps y cv [] S A):∀ (ins:List (Bool×Ty)) (d:Vals ins) (vs:List Value) (Sa:List Nat),a5H w ins d vs Sa->a1W P w (a8j ins++caps) (b0b caps ins d y) (vs++cv) [] (Sa++S) (Sa++A):=by
 intro ins;induction ins with
 | nil=>rintro d vs Sa ⟨rfl,rfl⟩;exact h
 | cons p l ih =>
   rintro d vs Sa ⟨v,vs',us,S1,S2,rfl,rfl,hr,hsh,h2⟩;refine⟨v,vs'++cv,[],[],S1,S2++S,S1,S2++A,rfl,rfl,by simp,by simp,⟨rfl,rfl,us,hr,hsh⟩,ih d.2 vs' S2 h2⟩
theorem sound_clo {n:FuncId} {s:FSig} {caps:List PS} {F:Ins (a8j s.ins++caps)->Option (Outs s.outs×Muts (a8j s.ins++caps))} (hok:a7P caps=true) (h:a3P P ⟨n,⟨a8j s.ins++caps,s.outs⟩,F⟩) :
   a2t P ⟨n,s,caps,fun y d=>(F (b0b caps s.ins d y)).map (·.1)⟩:=by
 refine⟨h.1,fun y w cv S A hc w' hs hz d r vs Sa hG hv=>?_⟩;simp only[zZ]at hG;obtain⟨⟨r',mu⟩,hF,rfl⟩:=hG;have hargs:=a9v (a8A hz caps y cv S A hok hc hs) s.ins d vs Sa hv;have hcall:=h.2 _ _ hF w' (vs++cv) [] _ _ hargs (by simp) (by simp);rw[show(vs++cv).toArray=vs.toArray++cv.toArray by simp]at hcall;refine hcall.mono fun e w2 hp=>?_;obtain⟨us,F',S',M',T,he,hout,hmut,hnd,hFM,hST,hsame,hbase⟩:=hp;refine⟨us,F',S',he,hout,(zx.1 hnd).1,fun b hb=>?_,fun b hb=>?_,fun b hb=>hsame b hb (by simp),hbase⟩
 . exact(hFM b (by simp[hb])).resolve_right (by simp)
 . obtain⟨h1,h2⟩:=hST b (by simp[hb]);refine⟨fun hbF=>h1 (by simp[hbF]),fun hlt=>(h2 hlt).resolve_right (by simp)⟩
end Go.Vm
end
section
namespace Go.Vm
variable {H:Type} {enc':TypeId×Value->H} {P:Program}
def wfT:(t:Ty)->t.den->Prop
 | .int k,x=>(Lit.int k x).wf=true
 | .bool,_=>True
 | .pair a b,x=>wfT a x.1/\wfT b x.2
 | .sl t,xs=>zn xs≤maxLen/\∀ x∈xs,wfT t x
 | .any,_=>True
def a5x (P:Program) (tab:Tab):Ty->Nat->List Field->Bool
 | .pair a b,off,f::g::fs=>zF f.offset off&&zF (P.cellsOf f.type) a.sz&&(match tab f.type with
   | some i=>tyB i.t a
   | none=>false)&&a5x P tab b (off+a.sz) (g::fs)
 | t,off,[f]=>zF f.offset off&&zF (P.cellsOf f.type) t.sz&&(match tab f.type with
   | some i=>tyB i.t t
   | none=>false)
 | _,_,_=>false
def anyB:Ty->Bool
 | .any=>true
 | _=>false
def a8V (P:Program) (tab:Tab) (p:Nat×TInfo):Bool:=zF (P.cellsOf p.1) p.2.t.sz&&(!anyB p.2.t||!p.2.agg)&&(match p.2.agg,P.underlying p.1 with
 | true,some (.struct fields)=>a5x P tab p.2.t 0 fields.toList
 | true,_=>false
 | false,_=>true)
def b4R (P:Program) (l:List (Nat×TInfo)):Bool:=allB (a8V P (a2n l)) l
theorem repL_of {w:World} {t:Ty}:∀ (n:Nat) (css:Nat->List Value),(∀ i,i<n->∃ x S,Rep w t .sh x (css i) [] S/\(∀ b∈S,b<w.heap.size)/\wfT t x) →
   ∃ xs S,RepL (Rep w t .sh) xs ((zw n).flatMap css) [] S/\(∀ b∈S,b<w.heap.size)/\xs.length=n/\∀ x∈xs,wfT t x:=by
 intro n;induction n with
 | zero=>intro css _;exact⟨[],[],⟨by simp,rfl,rfl⟩,by simp,rfl,by simp⟩
 | succ n ih =>
   intro css h;obtain⟨xs,S,h1,h2,h3,h4⟩:=ih css fun i hi=>h i (by omega);obtain⟨x,S',k1,k2,k3⟩:=h n (by omega);refine⟨xs++[x],S++S',?_,fun b hb=>?_,by simp[h3],fun y hy=>?_⟩
   . rw[z0,zN];refine(a0R xs [x] _ _ _).2 ⟨_,_,[],[],S,S',rfl,rfl,rfl,h1,?_⟩;simp only[zC,yk,zt];exact⟨css n,[],[],[],S',[],by simp,rfl,by simp,k1,⟨rfl,rfl,rfl⟩⟩
   . simp only[zd]at hb;exact hb.elim (h2 b) (k2 b)
   . simp only[zd,List.mem_singleton]at hy;rcases hy with hy|rfl
     . exact h4 y hy
     . exact k3
theorem b5y {l : List (Nat×TInfo)} (ht:TabOK P (a2n l)) (ho:b4R P l=true) {w:World} {base:Nat} {spare:Nat->Bool} {held:Bool}:∀ (fuel T:Nat) (i:TInfo) (cs:List Value) (d:DataW H×List MemPlace),a2n l T=some i →
   DataW.trod enc' P w base spare held fuel T cs=some d->∃ x S,Rep w i.t .sh x cs [] S/\(∀ b∈S,b<w.heap.size)/\wfT i.t x:=by
 have row:∀ T i,a2n l T=some i->a8V P (a2n l) (T,i)=true:=fun T i hi=>a0H ho _ (b0C hi);intro fuel;induction fuel with
 | zero=>intro T i cs d _ h;simp[DataW.trod]at h
 | succ fuel ih =>
   intro T i cs d hi h;have hrow:=row T i hi;simp only[a8V,zb]at hrow;obtain⟨⟨hcells,hany⟩,hrow⟩:=hrow;have hcells:=zh hcells;obtain⟨ag,t,e,fs⟩:=i;cases ag with
   | true =>
     simp only[]at hrow;split at hrow
     case h_2=>cases hrow
     case h_3=>rename_i hx;cases hx
     rename_i fields _ hu;obtain⟨xs,n,hn,rfl,hl,hlen,hf⟩:=DataW.trod_struct hu h;obtain rfl:fuel=n:=by omega
     have key:∀ (t:Ty) (off:Nat) (fs:List Field),a5x P (a2n l) t off fs=true->(∀ f∈fs,∃ y,DataW.trod enc' P w base spare held fuel f.type ((cs.drop f.offset).take (P.cellsOf f.type))=some y)->∃ x S,Rep w t .sh x ((cs.drop off).take t.sz) [] S/\(∀ b∈S,b<w.heap.size)/\wfT t x:=by
       have one:∀ (t:Ty) (off:Nat) (f:Field),(zF f.offset off&&zF (P.cellsOf f.type) t.sz&&(match a2n l f.type with|some i=>tyB i.t t|none=>false))=true->(∃ y,DataW.trod enc' P w base spare held fuel f.type ((cs.drop f.offset).take (P.cellsOf f.type))=some y) →
           ∃ x S,Rep w t .sh x ((cs.drop off).take t.sz) [] S/\(∀ b∈S,b<w.heap.size)/\wfT t x:=by
         intro t off f h ⟨y,hy⟩;simp only[zb]at h;obtain⟨⟨h1,h2⟩,h3⟩:=h;split at h3
         . rename_i j hj;have htj:=b3o h3;subst htj;rw[zh h1,zh h2]at hy;exact ih f.type j _ y hj hy
         . cases h3
       intro t;induction t with
       | pair a b iha ihb =>
         intro off fs h hy
         match fs,h with
         | [f],h=>exact one (.pair a b) off f (by simpa only[a5x]using h) (hy f (by simp))
         | f::g::fs,h =>
           simp only[a5x,zb]at h;obtain⟨x,S,h1,h2,h3⟩:=one a off f (by simp only[zb];exact h.1) (hy f (by simp));obtain⟨y,S',k1,k2,k3⟩:=ihb (off+a.sz) (g::fs) h.2 fun f' hf'=>hy f' (by simp[hf']);refine⟨(x,y),S++S',⟨_,_,[],[],S,S',?_,rfl,rfl,h1,k1⟩,fun b hb=>?_,h3,k3⟩
           . rw[Ty.sz,List.take_add,List.drop_drop]
           . simp only[zd]at hb;exact hb.elim (h2 b) (k2 b)
       | int k =>
         intro off fs h hy
         match fs,h with
         | [f],h=>exact one _ off f (by simpa only[a5x]using h) (hy f (by simp))
       | bool =>
         intro off fs h hy
         match fs,h with
         | [f],h=>exact one _ off f (by simpa only[a5x]using h) (hy f (by simp))
       | any =>
         intro off fs h hy
         match fs,h with
         | [f],h=>exact one _ off f (by simpa only[a5x]using h) (hy f (by simp))
       | sl t _ =>
         intro off fs h hy
         match fs,h with
         | [f],h=>exact one _ off f (by simpa only[a5x]using h) (hy f (by simp))
     obtain⟨x,S,h1,h2,h3⟩:=key t 0 fields.toList hrow fun f hf'=>by
       obtain⟨j,hj⟩:=zB.1 hf';have hj':fields[j]? = some f:=by simpa using hj
       rw[hf j f hj'];have:j<xs.length:=by
         rw[hlen];rcases zp j fields.size with h|h
         . exact h
         . rw[zf h]at hj';cases hj'
       exact⟨xs[j],by simp[this]⟩
     refine⟨x,S,?_,h2,h3⟩;rw[yn,zH (by rw[hl,hcells];exact ze _)]at h1;exact h1
   | false =>
     cases t with
     | int k =>
       obtain⟨n,rfl,rfl,hwf⟩:=DataW.trod_int (ht.int T k e fs hi) h;exact⟨n,[],⟨rfl,rfl,rfl⟩,by simp,hwf⟩
     | bool =>
       obtain⟨b,rfl,rfl⟩:=DataW.trod_bool (ht.bool T _ hi rfl rfl) h;exact⟨b,[],⟨rfl,rfl,rfl⟩,by simp,trivial⟩
     | any =>
       obtain⟨ps,rs,v,hu⟩:=ht.fn T e fs hi;have:∃ c,cs=[c]/\c.oneCell'=true/\∀ ds,c ≠ .agg ds:=by
         unfold DataW.trod at h;rw[hu]at h;split at h<;>first|exact⟨_,rfl,rfl,fun ds e=>by cases e⟩|simp_all
       obtain⟨c,rfl,h1,h2⟩:=this;exact⟨(),[],⟨⟨c,rfl,h1,h2⟩,rfl,rfl⟩,by simp,trivial⟩
     | pair a b =>
       have:=ht.plain T _ hi rfl;simp only[Ty.sz]at this;have h1:=a3O a;have h2:=a3O b;omega
     | sl t =>
       obtain⟨hu,j,hj,rfl⟩:=ht.slice T t e fs hi;have hce:P.cellsOf e=j.t.sz:=by
         have:=row e j hj;simp only[a8V,zb]at this;exact zh this.1.1
       rcases DataW.trod_slice hu h with⟨rfl,_⟩|⟨a,len,cap,elems,rest,n,hn,rfl,_,hb,hlc,hcm,hel,hget,_,_⟩
       . exact⟨[],[],⟨none,0,rfl,ze _,.inl ⟨rfl,rfl,rfl,fun h=>by cases h⟩⟩,by simp,by simp[wfT],by simp⟩
       . obtain rfl:fuel=n:=by omega
         rw[hce]at hget;have each:∀ i,i<len->∃ cs,w.cells? base (a.add (i*j.t.sz)) j.t.sz=some cs/\∃ x S,Rep w j.t .sh x cs [] S/\(∀ b∈S,b<w.heap.size)/\wfT j.t x:=by
           intro i hi;have hg:=hget i hi;have:i<elems.length:=by omega
           rw[zW this,Option.bind_eq_some_iff]at hg;obtain⟨cs,h1,h2⟩:=hg;exact⟨cs,h1,ih e j cs _ hj h2⟩
         let css:Nat->List Value:=fun i=>(w.cells? base (a.add (i*j.t.sz)) j.t.sz).getD [];have hcss:∀ i,i<len->w.cells? base (a.add (i*j.t.sz)) j.t.sz=some (css i):=by
           intro i hi;obtain⟨cs,h1,_⟩:=each i hi;simp only[css,h1,yh]
         obtain⟨xs,S,k1,k2,k3,k4⟩:=repL_of (w:=w) (t:=j.t) len css fun i hi=>by
           obtain⟨cs,h1,h2⟩:=each i hi;have:=hcss i hi;rw[h1]at this;rw[<-za this];exact h2
         by_cases hl0:len=0
         . subst hl0;have:xs=[]:=List.eq_nil_of_length_eq_zero k3;subst this;exact⟨[],[],⟨some a,cap,rfl,zA _,.inl ⟨rfl,rfl,rfl,fun h=>by cases h⟩⟩,by simp,by simp[wfT],by simp⟩
         . have hblk : a.block<w.heap.size:=by
             have:=World.cells?_block (hcss 0 (by omega)) (a3O j.t)
             rwa [a0P]at this
           refine⟨xs,a.block::S,⟨some a,cap,by rw[k3],by omega,.inr (.inr ⟨rfl,?_,a,_,S,rfl,fun q v hq=>?_,k1,rfl,rfl⟩)⟩,fun b hb=>?_,?_,k4⟩
           . intro e;rw[e]at k3;simp at k3;omega
           ·
             have hcl:∀ i,i<len->(css i).length=j.t.sz:=fun i hi=>(World.cells?_some (hcss i hi)).2.1;have flat:∀ n,n≤len->∀ q v,((zw n).flatMap css)[q]? = some v->w.cell? (a.add q)=some v:=by
               intro n;induction n with
               | zero=>intro _ q v h;simp at h
               | succ n ihn =>
                 intro hn q v h;rw[z0,zN,z9]at h;have hlenn:((zw n).flatMap css).length=n*j.t.sz:=by
                   have:∀ m,m≤len->((zw m).flatMap css).length=m*j.t.sz:=by
                     intro m;induction m with
                     | zero=>intro _;simp
                     | succ m ihm =>
                       intro hm;rw[z0,zN,zu,ihm (by omega)];simp[hcl m (by omega),Nat.add_mul]
                   exact this n (by omega)
                 split at h
                 . exact ihn (by omega) q v h
                 . rename_i hge;rw[hlenn]at hge h;simp only[zC,yk,zt]at h;have hlt:q-n*j.t.sz<j.t.sz:=by
                     have hc:=hcl n (by omega);rcases zp (q-n*j.t.sz) (css n).length with h'|h'
                     . rw[hc]at h';exact h'
                     . rw[z4 h']at h;cases h
                   have:=(World.cells?_some (hcss n (by omega))).2.2 (q-n*j.t.sz) hlt;rw[a2c,show n*j.t.sz+(q-n*j.t.sz)=q by omega]at this;rw[this];exact h
             exact flat len (ze _) q v hq
           . simp only[zk]at hb;rcases hb with rfl|hb
             . exact hblk
             . exact k2 b hb
           . show xs.length≤maxLen;omega
end Go.Vm
end
section
namespace Go.Vm
open Go.RowKit (Below)
variable {H:Type} {enc':TypeId×Value->H} {P:Program}
def parB (tab:Tab):List PS->List TypeId->Bool
 | [],[]=>true
 | .val agg t::ps,T::Ts=>(match tab T with
   | some i=>(match Bool.decEq i.agg agg with
     | .isTrue _=>true
     | .isFalse _=>false)&&tyB i.t t
   | none=>false)&&parB tab ps Ts
 | _,_=>false
def wfIns:(ps:List PS)->Ins ps->Prop
 | [],_=>True
 | .val _ t::ps,d=>wfT t d.1/\wfIns ps d.2
 | _::_,_=>False
theorem b3y {v:Value} (h:∀ cs,v ≠ .agg cs):v.cells.toList=[v]:=by
 cases v<;>first
   | rfl
   | exact absurd rfl (h _)
theorem b4j {l:List (Nat×TInfo)} (ht:TabOK P (a2n l)) (ho:b4R P l=true) {w:World} {T:TypeId} {i:TInfo} (hi:a2n l T=some i) {v:Value} {d:DataW H} {p:List MemPlace}
   (h:DataW.Trod enc' P w 0 (fun _=>true) true T v d p) (hok:Value.okWide P w .any 0 T v∨∃ b,Value.okWide P w .any b T v):∃ x vs S,Rep w i.t .sh x vs [] S/\a0E i.agg vs v/\(∀ b∈S,b<w.heap.size)/\wfT i.t x:=by
 obtain⟨fuel,hf⟩:=h;obtain⟨x,S,h1,h2,h3⟩:=b5y ht ho fuel T i _ _ hi hf;refine⟨x,_,S,h1,?_,h2,h3⟩;obtain⟨b,hok⟩:∃ b,Value.okWide P w .any b T v:=hok.elim (fun h=>⟨0,h⟩) id;obtain⟨ag,t,e,fs⟩:=i;cases ag with
 | true =>
   obtain⟨dd,hd,hag⟩:=ht.agg T _ hi;have:∃ cs,v = .agg cs:=by
     unfold Value.okWide at hok;rw[hd]at hok;cases dd<;>simp only[]at hok hag<;>first
       | exact⟨_,hok.choose_spec.1⟩
       | cases hag
   obtain⟨cs,rfl⟩:=this;simp[a0E,Value.cells]
 | false =>
   have:∀ cs,v ≠ .agg cs:=by
     intro cs e;subst e;cases t with
     | int k=>have:=ht.int T k _ fs hi;simp[Value.okWide,this,Cell.okWide,Cell.ok]at hok
     | bool=>have:=ht.bool T _ hi rfl rfl;simp[Value.okWide,this,Cell.okWide,Cell.ok]at hok
     | sl t=>obtain⟨this,_⟩:=ht.slice T t _ fs hi;simp[Value.okWide,this,Cell.okWide,Cell.ok]at hok
     | any =>
       obtain⟨ps,rs,v,this⟩:=ht.fn T _ fs hi;simp[Value.okWide,this,Cell.okWide,Cell.ok]at hok
     | pair a b =>
       have:=ht.plain T _ hi rfl;simp only[Ty.sz]at this;have h1:=a3O a;have h2:=a3O b;omega
   simp only[a0E,zO,if_false];exact b3y this
theorem b2p {l:List (Nat×TInfo)} (ht:TabOK P (a2n l)) (ho:b4R P l=true) {w:World}:∀ (ps:List PS) (Ts:List TypeId) (vs:List Value) (ds:List (DataW H)) (p:List MemPlace),parB (a2n l) ps Ts=true →
   DataW.TrodAll enc' P w 0 (fun _=>true) true Ts vs ds p->(∀ (j:Nat) t v,Ts[j]? = some t->vs[j]? = some v->∃ b,Value.okWide P w .any b t v) →
   ∃ d S,a1W P w ps d vs [] S S/\(∀ b∈S,b<w.heap.size)/\wfIns ps d:=by
 intro ps;induction ps with
 | nil =>
   intro Ts vs ds p hp h hok;cases Ts with
   | cons T Ts=>simp[parB]at hp
   | nil =>
     obtain⟨rfl,rfl,rfl⟩:=ChangeShapes.trodAll_nil h;exact⟨(),[],⟨rfl,rfl,rfl,rfl⟩,by simp,trivial⟩
 | cons q ps ih =>
   intro Ts vs ds p hp h hok;cases Ts with
   | nil=>cases q<;>simp[parB]at hp
   | cons T Ts =>
     cases q with
     | val agg t =>
       simp only[parB,zb]at hp;obtain⟨hp1,hp2⟩:=hp;split at hp1
       case h_2=>cases hp1
       rename_i i hi;simp only[zb]at hp1;obtain⟨hag,hty⟩:=hp1;have hag:i.agg=agg:=by
         split at hag
         . assumption
         . cases hag
       have hty:=b3o hty;obtain⟨v,vs',d1,ds',p1,q1,rfl,rfl,rfl,h1,h2⟩:=ChangeShapes.trodAll_cons h;obtain⟨x,us,S,k1,k2,k3,k4⟩:=b4j ht ho hi h1 (.inr (hok 0 T v rfl rfl));obtain⟨d,S',g1,g2,g3⟩:=ih Ts vs' ds' q1 hp2 h2 fun j t v hj hv=>hok (j+1) t v hj hv;subst hag hty;refine⟨(x,d),S++S',⟨v,vs',[],[],S,S',S,S',rfl,rfl,rfl,rfl,⟨rfl,rfl,us,k1,k2⟩,g1⟩,fun b hb=>?_,k4,g3⟩;simp only[zd]at hb;exact hb.elim (k3 b) (g2 b)
     | _=>simp[parB]at hp
theorem b4q (hl:laidOutB P=true) {W W':World} (hb:Below W.heap.size W W'):∀ (Ts:List TypeId) (vs:List Value) (ds:List (DataW H)) (p:List MemPlace),allB (fun T=>P.readableRec T&&zy T P.types.size) Ts=true →
   DataW.TrodAll enc' P W 0 (fun _=>true) true Ts vs ds p->DataW.TrodAll enc' P W' 0 (fun b=>decide (b<W.heap.size)) true Ts vs ds p:=by
 intro Ts;induction Ts with
 | nil =>
   intro vs ds p _ h;obtain⟨rfl,rfl,rfl⟩:=ChangeShapes.trodAll_nil h;exact ChangeShapes.trodAll_mk0
 | cons T Ts ih =>
   intro vs ds p hr h;obtain⟨v,vs',d,ds',p1,q1,rfl,rfl,rfl,h1,h2⟩:=ChangeShapes.trodAll_cons h;have r0:=a0H hr T (by simp);simp only[zb]at r0;obtain⟨r1,r2⟩:=r0;have r3:allB (fun T=>P.readableRec T&&zy T P.types.size) Ts=true:=by
     simp only[allB]at hr;split at hr
     . exact hr
     . cases hr
   have hlt:∀ x∈p1,x.block<W.heap.size:=by
     obtain⟨m,hm⟩:=h1;exact DataW.trod_lt m _ _ _ hm
   exact⟨p1,q1,Go.RowKit.Below.trod hl r1 (zq r2) h1 hb hlt,ih vs' ds' q1 r3 h2,rfl⟩
theorem law_calls (hl:laidOutB P=true) {l:List (Nat×TInfo)} (ht:TabOK P (a2n l)) (ho:b4R P l=true) {f:FuncId} {ps:List PS} {m:Mode} {F:Ins ps->Option (Outs [(OutK.val false,Ty.bool,m)]×Muts ps)} (hS:a3P P ⟨f,⟨ps,[(.val false,.bool,m)]⟩,F⟩)
   (hpure:∀ d,wfIns ps d->∃ mu,F d=some ((true,()),mu)) {fn:Func} {Ts:List TypeId} (hTs:fn.params.toList=Ts) (hpar:parB (a2n l) ps Ts=true) (hread:allB (fun T=>P.readableRec T&&zy T P.types.size) Ts=true)
   {rt:TypeId} (hrt:fn.resultTypes=#[rt]) (hub:P.underlying rt=some .bool) (s:ChangeSpec) (hv:s.vars=[]) (hs:∀ (ds:List (DataW H)),ds.length=Ts.length->s.fn H ds={ results:=[.lit (.bool true)],args:=ds })
   (W:World) (base:Nat) (args:Array Value) (ds gs:List (DataW H)) (before:List MemPlace) (hval:∀ (j:Nat) t v,fn.params[j]? = some t->args[j]? = some v->Value.okWide P W .any base t v)
   (hW:DataW.Whole enc' P fn.params.toList s.vars false W args.toList ds gs before):Calls P f args W fun e W'=>∃ v,e = .returned v/\s.post enc' P fn false true false false W args v W':=by
 have hW':=hW;obtain⟨p,q,hA,hV,rfl,-,-⟩:=hW;rw[hv]at hV;obtain⟨rfl,rfl⟩:=ChangeShapes.trodVars_none hV;have hA':=hA;rw[hTs]at hA;have hlen:ds.length=Ts.length:=by
   have aux:∀ (Ts:List TypeId) (vs:List Value) (ds:List (DataW H)) (p:List MemPlace),DataW.TrodAll enc' P W 0 (fun _=>true) true Ts vs ds p->ds.length=Ts.length:=by
     intro Ts;induction Ts with
     | nil=>intro vs ds p h;obtain⟨_,rfl,_⟩:=ChangeShapes.trodAll_nil h;rfl
     | cons T Ts ih =>
       intro vs ds p h;obtain⟨v,vs',d,ds',p1,q1,rfl,rfl,rfl,h1,h2⟩:=ChangeShapes.trodAll_cons h;simp[ih _ _ _ h2]
   exact aux _ _ _ _ hA
 obtain⟨d,S,h1,h2,h3⟩:=b2p ht ho ps Ts args.toList ds p hpar hA fun j t v hj hvj=>⟨base,hval j t v (by
   rw[<-hTs]at hj;simpa using hj) (by simpa using hvj)⟩
 obtain⟨mu,hF⟩:=hpure d h3;have hcall:=hS.2 d _ hF W args.toList [] S S h1 (by simp) (by simp);simp only[Array.toArray_toList]at hcall;refine hcall.mono fun e W' hp=>?_;obtain⟨us,F',S',M',T',rfl,hout,hmut,-,-,-,hold,hbel⟩:=hp;obtain⟨v,vs',F1,F2,S1,S2,rfl,-,-,⟨ws,⟨rfl,-,-⟩,hsh⟩,⟨rfl,-,-⟩⟩:=hout;have hsh:[Value.bool true]=[v]:=by simpa[a0E]using hsh
 simp only[zm,and_true]at hsh;subst hsh;have bel:Below W.heap.size W W':=⟨hbel.os,hbel.tape,hbel.output,hbel.size,fun b hb=>hold b hb (by simp)⟩;have hfn:=hs (ds++[]) (by simpa using hlen);refine⟨.bool true,rfl,ds,[],p++[],[],p,[],hW',?_,?_,?_,bel.frame _,fun h=>by cases h⟩
 . rw[hfn,hrt];exact ChangeShapes.trodAll_mk1 (Go.RowKit.shut_bool hub _)
 . rw[hfn,zt,hTs];exact b4q hl bel Ts args.toList ds p hread hA
 . rw[hfn,hv];rfl
end Go.Vm
end
section
namespace Go.Vm
variable {P:Program}
theorem growOK_of {g : FuncId} {E : TypeId} {t : Ty} {z : Value} (hE : ∃ fn, P.funcs[g]? = some fn /\ fn.body.isNone = false /\ (fn.name == "runtime.NumGoroutine") = false) (hzs : z.cells.size = t.sz)
   (h0:∀ w,Calls P g #[.slice none 0 0,.int .i64 ((0:Nat):Int)] w fun e w'=>e = .returned (.slice none 0 0)/\w'=w)
   (h1:∀ w (n:Nat),0<n->n≤1099511627776->Calls P g #[.slice none 0 0,.int .i64 (n:Int)] w fun e w'=>∃ G,n≤G/\G≤9223372036854775807/\e = .returned (.slice (some ⟨w.heap.size,0,none⟩) 0 G)/\w'=w.drew.alloc (.cells (Builtin.zeroCells z.cells n++Builtin.zeroCells z.cells (G-n)) E)):b2f P (g,t):=by
 refine⟨hE,fun w n hn=>?_⟩;by_cases hz:n=0
 . subst hz;refine(h0 w).mono fun e w' ⟨he,hw⟩=>?_;subst he hw;exact⟨[.slice none 0 0],[],[],rfl,⟨_,[],[],[],[],[],rfl,rfl,rfl,⟨[_],⟨none,0,rfl,ze _,.inl ⟨rfl,rfl,rfl,fun _=>rfl⟩⟩,rfl⟩,⟨rfl,rfl,rfl⟩⟩,by simp,by simp,by simp,fun _ _=>rfl,⟨rfl,rfl,rfl,ze _,ze _⟩⟩
 . refine(h1 w n (by omega) (by simpa[bigN]using hn)).mono fun e w' ⟨G,hG,hG63,he,hw⟩=>?_;subst he hw;obtain⟨Z,hZ⟩:∃ Z,Z=Builtin.zeroCells z.cells n++Builtin.zeroCells z.cells (G-n):=⟨_,rfl⟩;have hZs:Z.size=G*t.sz:=by
     rw[hZ];simp only[Array.size_append,Go.size_zeroCells,hzs];rw[<-Nat.add_mul];congr 1;omega
   rw[<-hZ];have hheap:(w.drew.alloc (.cells Z E)).heap=w.heap.push (.cells Z E):=rfl;refine⟨[.slice (some ⟨w.heap.size,0,none⟩) 0 G],[w.heap.size],[],rfl,⟨_,[],[w.heap.size],[],[],[],rfl,rfl,rfl,⟨[_],⟨some ⟨w.heap.size,0,none⟩,G,rfl,zA _,.inr (.inl ⟨rfl,w.heap.size,Z,E,[],Z.toList,[],rfl,?_,rfl,⟨?_,?_⟩,⟨rfl,rfl,rfl⟩,rfl⟩)⟩,rfl⟩,⟨rfl,rfl,rfl⟩⟩,by simp,by simp,by simp,fun b hb=>?_,⟨rfl,rfl,rfl,?_,Nat.le_succ _⟩⟩
   . rw[hheap];simp
   . exact hZs
   . unfold maxLen;omega
   . rw[hheap,Array.getElem?_push];rw[if_neg (by omega)]
   . rw[hheap];simp
end Go.Vm
end
section
namespace Go.Vm
open Go.Sort (putRow Holds grow putCells mapBlock onCells)
open Go.Proofs (sortWorld OneCell CmpLays1)
variable {P:Program}
abbrev RowT:Ty := .sl (.int .i64)
structure El where
 x:List Int
 v:Value
 F:List Nat
 S:List Nat
theorem b5C {w:World}:∀ {xs:List (List Int)} {us:List Value} {F S:List Nat},RepL (Rep w RowT .deep) xs us F S →
   ∃ l:List El,xs=l.map El.x/\us=l.map El.v/\F=l.flatMap El.F/\S=l.flatMap El.S/\∀ e∈l,Rep w RowT .deep e.x [e.v] e.F e.S:=by
 intro xs;induction xs with
 | nil=>rintro us F S ⟨rfl,rfl,rfl⟩;exact⟨[],rfl,rfl,rfl,rfl,by simp⟩
 | cons x xs ih =>
   rintro us F S ⟨v1,v2,F1,F2,S1,S2,rfl,rfl,rfl,h1,h2⟩;obtain⟨l,rfl,rfl,rfl,rfl,hl⟩:=ih h2;have hh:∃ v,v1=[v]:=by obtain⟨A,c,h,_⟩:=h1;exact⟨_,h⟩
   obtain⟨v,rfl⟩:=hh;refine⟨⟨x,v,F1,S1⟩::l,rfl,rfl,rfl,rfl,fun e he=>?_⟩;simp only[zk]at he;rcases he with rfl|he
   . exact h1
   . exact hl e he
theorem b5K {w:World}:∀ (l:List El),(∀ e∈l,Rep w RowT .deep e.x [e.v] e.F e.S)->RepL (Rep w RowT .deep) (l.map El.x) (l.map El.v) (l.flatMap El.F) (l.flatMap El.S)
 | [],_=>⟨rfl,rfl,rfl⟩
 | e::l,h=>⟨[e.v],_,e.F,_,e.S,_,rfl,rfl,rfl,h e (by simp),b5K l fun a ha=>h a (by simp[ha])⟩
theorem grow_of {W W':World} (hb:Bel W W') (hs:∀ b,b<W.heap.size->W'.heap[b]? = W.heap[b]?):∃ q os,W'=grow (W.drewN q) os:=by
 refine⟨W'.drawn-W.drawn,W'.heap.extract W.heap.size W'.heap.size,?_⟩;obtain⟨h1,h2,h3,h4,h5⟩:=hb;obtain⟨hp,tp,dr,o,ou⟩:=W';simp only at h1 h2 h3 h4 h5 hs;subst h1 h2 h3;unfold grow World.drewN;congr 1
 . apply Array.ext_getElem?;intro i;simp only[zJ];split
   . exact hs i (by assumption)
   . rw[Array.getElem?_extract];split
     . congr 1;omega
     . rw[zf];omega
 . simp only;omega
section
variable {α:Type} [Inhabited α] {enc:α->Value} {w:World} {b m:Nat} {dk:Array α} {os:Array Obj}
theorem b0B (hb:b<w.heap.size):∀ k,k<w.heap.size->k≠b->(sortWorld enc w b 0 m dk os).heap[k]? = w.heap[k]? := by
 intro k hk hne;unfold sortWorld grow putRow mapBlock;simp only[zJ,ye,z5];have h1:(Sort.ahead w m).heap=w.heap:=rfl;rw[h1,if_pos hk,if_neg (Ne.symm hne)]
theorem b3i:w.heap.size≤(sortWorld enc w b 0 m dk os).heap.size:=by
 unfold sortWorld grow putRow mapBlock;have h1:(Sort.ahead w m).heap=w.heap:=rfl;simp[h1]
theorem b1a:Bel w (sortWorld enc w b 0 m dk os):=⟨rfl,rfl,rfl,b3i,Nat.le_add_right _ _⟩
theorem b1b {arr:Array Value} {e:TypeId} {us sp:List Value} (hb:w.heap[b]? = some (.cells arr e (0,0))) (ha:arr.toList=us++sp) (hs:dk.size=us.length) :
   ∃ arr',(sortWorld enc w b 0 m dk os).heap[b]? = some (.cells arr' e (0,0))/\arr'.toList=dk.toList.map enc++sp:=by
 have hlt:b<w.heap.size:=by
   rcases zp b w.heap.size with h|h
   . exact h
   . rw[zf h]at hb;cases hb
 refine⟨putCells enc 0 dk arr,?_,?_⟩
 . unfold sortWorld grow putRow mapBlock;simp only[zJ,ye,z5];have h1:(Sort.ahead w m).heap=w.heap:=rfl;rw[h1,if_pos hlt,if_pos trivial,hb];rfl
 . have hsz:arr.size=us.length+sp.length:=by rw[<-zi,ha,zu]
   apply List.ext_getElem?;intro i;rw[zs];simp only[putCells,Array.getElem?_mapIdx];by_cases hi:i<dk.size
   . rw[List.getElem?_append_left (by simpa using hi),zT (by omega)];simp[hi]
   . rw[zR (by simp;omega)];have h2:arr[i]? = sp[i-us.length]? := by rw[<-zs,ha,zR (by omega)]
     rw[h2];simp only[zj,zi,hs];cases sp[i-us.length]? with
     | none=>rfl
     | some v=>simp;omega
end
abbrev fn2 (t:Ty):FSig:=⟨[(false,RowT),(false,RowT)],[(.val false,t,.deep)]⟩
section
variable {α:Type} [Inhabited α] {enc:α->Value} {w:World} {b:Nat} {arr:Array Value} {et:TypeId} {sp:List Value}
structure ElG (w:World) (b:Nat) (e:El):Prop where
 rep:Rep w RowT .deep e.x [e.v] e.F e.S
 notF:b∉e.F
 notS:b∉e.S
theorem a9t (hb:w.heap[b]? = some (.cells arr et (0,0))) {t:Ty} {g:Vals (fn2 t).ins->Option (Outs (fn2 t).outs)} {f:FuncId} {caps:Array Value} {S2 A2:List Nat}
   (hfn:∀ w',a0a w w' S2->w.heap.size≤w'.heap.size->∀ d r vs Sa,g d=some r->a5H w' (fn2 t).ins d vs Sa->Calls P f (vs.toArray++caps) w' (b3t w' (fn2 t).outs r (Sa++A2)))
   (hbS:b∉S2) (hSlt:∀ c∈S2,c<w.heap.size) {x y:El} (hx:ElG w b x) (hy:ElG w b y) {r:t.den} (hg:g (x.x,y.x,())=some (r,())) (m:Nat) (dk:Array α) (os:Array Obj) :
   Calls P f (#[x.v,y.v]++caps) (sortWorld enc w b 0 m dk os) fun e w'=>(∃ v F S,Rep w' t .deep r [v] F S/\e = .returned v)/\∃ q os',w'=grow ((sortWorld enc w b 0 m dk os).drewN q) os':=by
 have hlt:b<w.heap.size:=by
   rcases zp b w.heap.size with h|h
   . exact h
   . rw[zf h]at hb;cases hb
 have hold:=fun k hk hne=>b0B (enc:=enc) (m:=m) (dk:=dk) (os:=os) hlt k hk hne;have row:∀ z:El,ElG w b z->∃ S',Rep (sortWorld enc w b 0 m dk os) RowT .sh z.x [z.v] [] S':=fun z ⟨h1,h2,h3⟩=>by
   obtain⟨S',h4,-⟩:=a9m _ (a1u _ h1 (w':=sortWorld enc w b 0 m dk os) fun c hc=>hold c (a2W _ h1 c (by simpa using hc)) (by rintro rfl;simp only[zd]at hc;exact hc.elim h2 h3));exact⟨S',h4⟩
 obtain⟨S1,h1⟩:=row x hx;obtain⟨S3,h3⟩:=row y hy;have hc:=hfn (sortWorld enc w b 0 m dk os) (fun c hc=>hold c (hSlt c hc) (by rintro rfl;exact hbS hc)) b3i (x.x,y.x,()) (r,()) [x.v,y.v] (S1++(S3++[])) hg
   ⟨_,_,_,S1,_,rfl,rfl,h1,rfl,⟨_,_,_,S3,[],rfl,rfl,h3,rfl,rfl,rfl⟩⟩
 refine hc.mono fun e w' hp=>?_;obtain⟨us,F,S,rfl,hout,-,-,-,hs,hbel⟩:=hp;obtain⟨v,vs',F1,F2,T1,T2,rfl,-,-,⟨ws,hr,hsh⟩,⟨rfl,-,-⟩⟩:=hout;have hsh:ws=[v]:=by simpa[a0E]using hsh
 subst hsh;exact⟨⟨v,F1,T1,hr,rfl⟩,grow_of hbel hs⟩
end
theorem a9s {w:World} {b:Nat} {arr:Array Value} {e:TypeId} {l:List El} {sp:List Value} {c:Nat} (hb:w.heap[b]? = some (.cells arr e (0,0))) (ha:arr.toList=l.map El.v++sp) (hs:arr.size=c) (hm:c≤maxLen) (hlen:l.length≤c)
   (hl:∀ e∈l,Rep w RowT .deep e.x [e.v] e.F e.S):Rep w (.sl RowT) .deep (l.map El.x) [.slice (some ⟨b,0,none⟩) l.length c] (b::l.flatMap El.F) (l.flatMap El.S) :=
 ⟨_,c,by simp,by simpa using hlen,.inr (.inl ⟨rfl,b,arr,e,l.map El.v,sp,l.flatMap El.F,rfl,hb,ha,⟨by simpa[Ty.sz]using hs,hm⟩,b5K l hl,rfl⟩)⟩
abbrev encE (l:List El) (i:Fin l.length):Value:=(l.get i).v
section
open Go.Proofs (SW Row1)
variable {α:Type} [Inhabited α] {enc:α->Value} {w0 W:World} {blk off:Nat} {dk d0:Array α}
def b0J (P:Program) (g:Nat) (cb:Array Value) (enc:α->Value) (eq:α->α->Bool) (blk off size:Nat) (w:World):Prop :=
 ∀ (m:Nat) (os:Array Obj) (dk:Array α),dk.size=size->∀ x y:α,
   Calls P g (#[enc x,enc y]++cb) (sortWorld enc w blk off m dk os) fun e w'=>e = .returned (.bool (eq x y))/\∃ q os',w'=grow ((sortWorld enc w blk off m dk os).drewN q) os'
theorem sw_eql {g:Nat} {cb:Array Value} {eq:α->α->Bool} {size:Nat} (h:SW enc w0 blk off dk W) (hC:b0J P g cb enc eq blk off size w0) (hs:dk.size=size) (x y:α) (n:Nat) (os:Array Obj) :
   Calls P g (#[enc x,enc y]++cb) (grow (W.drewN n) os) fun e w'=>e = .returned (.bool (eq x y))/\∃ q os',w'=grow ((grow (W.drewN n) os).drewN q) os':=by
 obtain⟨m,os0,hw⟩:=h.grown n os;rw[hw];exact hC m os0 dk hs x y
theorem sw_set (h:SW enc w0 blk off dk W) (hblk:blk<w0.heap.size) (i:Nat) (x:α) (hi:i<dk.size):SW enc w0 blk off (dk.setIfInBounds i x) (W.setCell ⟨blk,off+i,none⟩ (enc x)):=by
 obtain⟨m,os,rfl⟩:=h;refine⟨m,os,?_⟩;unfold sortWorld;rw[<-Go.Sort.putRow_set enc _ blk off dk i x hi,Go.Sort.setCell_eq,Go.Sort.setCell_eq];unfold mapBlock grow;simp only;rw[Go.Sort.modify_append_left _ _ _ _ (by simpa[putRow,mapBlock]using hblk)]
open Go.Lib (lay) in
theorem sw_lay (hblk:blk<w0.heap.size):∀ (xs:List α) (dk:Array α) (W:World) (k:Nat),SW enc w0 blk off dk W->k+xs.length≤dk.size->SW enc w0 blk off (lay dk k xs) (W.setCells blk (off+k) (xs.map enc))
 | [],_,_,_,h,_=>h
 | x::r,d,W,k,h,hl=>by
   have hl':k+(r.length+1)≤d.size:=by simpa using hl
   simp only[yp,World.setCells,lay];rw[show off+k+1=off+(k+1)by omega];exact sw_lay hblk r _ _ (k+1) (sw_set h hblk k x (by omega)) (by simp;omega)
end
def a2R (p:List Int):List (List Int)->List (List Int)
 | []=>[]
 | x::l=>if x=p then a2R x l else x::a2R x l
def a8E:List (List Int)->List (List Int)
 | []=>[]
 | x::l=>x::a2R x l
theorem a4l (y:List Int):∀ (l:List (List Int)) (p:List Int),a2R p (l++[y])=a2R p l++(if y=l.getLastD p then[]else[y])
 | [],p=>by simp[a2R]
 | x::l,p=>by
   have:=a4l y l x;simp only[zX,a2R,this,List.getLastD_cons];split<;>simp
theorem b1s (y:List Int) (l:List (List Int)):a8E (l++[y])=a8E l++(if l.getLast? = some y then[]else[y]):=by
 cases l with
 | nil=>simp[a8E,a2R]
 | cons x l =>
   simp only[zX,a8E,a4l];have:(x::l).getLast? = some (l.getLastD x):=by
     rw[List.getLast?_cons,List.getLastD_eq_getLast?]
   rw[this];by_cases h:y=l.getLastD x
   . rw[if_pos h,if_pos (by rw[h])]
   . rw[if_neg h,if_neg fun h2=>h (za h2).symm]
section
variable {α:Type} [Inhabited α]
open Go.Lib (keptUpTo keptUpTo_succ)
def a6R (cx:α->List Int) (d:Array α) (j:Nat):Bool:=decide (j=0∨cx d[j]! ≠ cx d[j-1]!)
theorem a7T (cx:α->List Int) (d:Array α):∀ m,m≤d.size->(keptUpTo (a6R cx d) d m).map cx=a8E ((d.toList.take m).map cx)
 | 0,_=>rfl
 | m + 1,h=>by
   have hlt:m<d.toList.length:=by rw[zi];omega
   rw[keptUpTo_succ,z1,a7T cx d m (by omega),List.take_succ_eq_append_getElem hlt,z1,List.map_singleton,b1s];congr 1;have e1:d.toList[m]=d[m]! := by rw[getElem!_pos d m (by omega)];simp
   rw[e1];by_cases hm:m=0
   . subst hm;simp[a6R]
   . have e2:((d.toList.take m).map cx).getLast? = some (cx d[m-1]!):=by
       rw[zS];simp only[zj,yg,zi,Nat.min_eq_left (show m≤d.size by omega),yf,zz];rw[if_pos (by omega),zs,zT (by omega),getElem!_pos d (m-1) (by omega)];rfl
     rw[e2];by_cases hk:cx d[m]! = cx d[m-1]!
     . have hkp:a6R cx d m=false:=by simp[a6R,hm,hk]
       rw[hkp,hk];simp
     . have hkp:a6R cx d m=true:=by simp[a6R,hm,hk]
       have hk2:¬ some (cx d[m-1]!)=some (cx d[m]!):=fun h2=>hk (za h2).symm;rw[hkp,if_neg hk2];simp
theorem b4J (kp:Nat->Bool) (d:Array α):(keptUpTo kp d d.size).Sublist d.toList:=by
 have h:(keptUpTo kp d d.size).Sublist ((zw d.size).map (d[·]!)):=(List.filter_sublist).map _
 rwa [Go.Lib.range_map_get]at h
end
end Go.Vm
end
section
namespace Go.Vm
open Go.Sort (SWO PermIn SortedIn)
open Go.Proofs (sortWorld OneCell CmpLays1 ltOf Bears SlLaysF.n6)
open Go.Shelf (Ren)
variable {P:Program} {ρ:Ren}
theorem a3Q {f:FuncId} {B:Func} {c:Code} (h:Bears P f B) (hb:B.body=some c):a6j P f:=by
 obtain⟨nm,hn,hf⟩:=h;exact⟨_,hf,by show B.body.isNone=false;rw[hb];rfl,hn⟩
theorem a7R {f:FuncId} (h:a6j P f):∀ args w,(callFunc f args).run P w = .ok (.enter f args) w:=by
 obtain⟨fn,h1,h2,h3⟩:=h;cases hb:fn.body with
 | none=>rw[hb]at h2;cases h2
 | some c=>exact Go.Proofs.enters_of h1 h3 hb
abbrev sortS:Sig:=⟨[.wr false (.sl RowT) .deep,.fnx (fn2 (.int .i64))],[]⟩
def b4r (cf:List Int->List Int->Int) (xs:List (List Int)):List (List Int):=xs.mergeSort fun x y=>!ltOf cf y x
open Classical in
noncomputable def sortF (cf:List Int->List Int->Int) (d:Ins sortS.ps):Option (Outs sortS.outs×Muts sortS.ps) :=
 if (∀ x∈d.1,∀ y∈d.1,d.2.1 (x,y,())=some (cf x y,()))/\d.1.length<4611686018427387904 then some ((),(b4r cf d.1,()))else none
theorem sort_sound (L:SlLaysF.n6 P ρ) {cf:List Int->List Int->Int} (hO:SWO (ltOf cf)) (hT:∀ x y,ltOf cf x y=false->ltOf cf y x=false->x=y):a3P P ⟨ρ.f 6,sortS,sortF cf⟩:=by
 refine⟨a3Q L.f6 rfl,?_⟩;rintro⟨xs,g,⟨⟩⟩ r hF w vs M S A hA hMn hMS;have e0:b4r cf []=[]:=by simp[b4r]
 simp only[sortF]at hF;split at hF
 next hgn =>
   obtain⟨hg,hn⟩:=hgn;simp only[zc]at hF;subst hF;obtain⟨v1,vs1,M1,M2,S1,S2,A1,A2,rfl,rfl,rfl,rfl,⟨-,rfl,us,hr,hsh⟩,v2,vs2,M3,M4,S3,S4,A3,A4,rfl,rfl,rfl,rfl,⟨rfl,f,caps,rfl,hfe,hSlt,hAS,hfn⟩,rfl,rfl,rfl,rfl⟩:=hA;have hsh:us=[v1]:=by simpa[a0E]using hsh
   subst hsh;have hr0:=hr;obtain⟨A0,c,hv,hc,hcase⟩:=hr;simp only[zm,and_true]at hv;subst hv;rcases hcase with⟨rfl,rfl,rfl,hc0⟩|⟨-,b,arr,et,us,sp,F',rfl,hb,harr,⟨hsz,hcm⟩,hrl,rfl⟩|⟨ho,-⟩
   . have h0:=Go.Proofs.AnyF.slices_SortFunc_none (P:=P) (ρ:=ρ) { L with } A0 c (.func (.func f) #[] caps) w;refine h0.mono fun e w' ⟨he,hw⟩=>?_;subst he hw;exact⟨[],[],[],[],[],rfl,⟨rfl,rfl,rfl⟩,⟨_,_,[],[],[],[],rfl,rfl,rfl,⟨_,e0.symm▸hr0,rfl⟩,⟨_,_,rfl,rfl,rfl⟩⟩,by simp,by simp,by simp,fun _ _ _=>rfl,Bel.refl _⟩
   . obtain⟨l,rfl,rfl,rfl,rfl,hl⟩:=b5C hrl;simp only[zt]at hMn hMS hn;have hbS:b∉S3:=fun h=>hMS b (by simp) (by simp[h]);have hlF:∀ e∈l,ElG w b e:=fun e he=>⟨hl e he,fun h=>by
       simp only[ym,zK,not_exists,not_and]at hMn;exact hMn.1 e he h,fun h=>hMS b (by simp) (by simp only[zd,zK];exact .inl ⟨e,he,h⟩)⟩
     simp only[zj]at hn hc ⊢;rcases Nat.eq_zero_or_pos l.length with h0|hpos
     . have hl0:l=[]:=List.length_eq_zero_iff.1 h0;subst hl0;have h0:=Go.Proofs.AnyF.slices_SortFunc_none (P:=P) (ρ:=ρ) { L with } (some ⟨b,0,none⟩) c (.func (.func f) #[] caps) w;refine h0.mono fun e w' ⟨he,hw⟩=>?_;subst he hw;exact⟨[],[],[],[b],[],rfl,⟨rfl,rfl,rfl⟩,⟨_,_,[b],[],[],[],rfl,rfl,rfl,⟨_,e0.symm▸hr0,rfl⟩,⟨_,_,rfl,rfl,rfl⟩⟩,by simp,by simp,by simp,fun _ _ _=>rfl,Bel.refl _⟩
     . haveI : Inhabited (Fin l.length):=⟨⟨0,hpos⟩⟩
       have hblt:b<w.heap.size:=by
         rcases zp b w.heap.size with h|h
         . exact h
         . rw[zf h]at hb;cases hb
       obtain⟨d,hd⟩:∃ d:Array (Fin l.length),d=(List.finRange l.length).toArray:=⟨_,rfl⟩;have hds:d.size=l.length:=by rw[hd];simp
       have hdg:∀ j (hj:j<l.length),d[j]! = ⟨j,hj⟩:=fun j hj=>by
         rw[getElem!_pos d j (by omega)];subst hd;simp
       have hH:Go.Sort.Holds (encE l) w b 0 d:=fun j hj=>by
         have hj':j<l.length:=by omega
         have h1:=a0V hb harr j (l.get ⟨j,hj'⟩).v (by simp[hj']);have h2:(⟨b,0,none⟩:Addr).add j=⟨b,0+j,none⟩:=by unfold Addr.add;split<;>simp_all
         rw[h2]at h1;refine⟨by rw[h1,hdg j hj'],?_⟩;unfold World.frozen?;simp[hb]
       have hcmp:CmpLays1 P f caps (encE l) (fun i j=>cf (l.get i).x (l.get j).x) b 0 d.size w:=fun m os dk _ i j=>by
         refine(a9t hb hfn hbS hSlt (hlF _ (zM l i)) (hlF _ (zM l j)) (hg _ (ya (zM l i)) _ (ya (zM l j))) m dk os).mono fun e w' ⟨⟨v,F,S,⟨hv,_,_⟩,he⟩,h⟩=>⟨?_,h⟩;simp only[zm,and_true]at hv;rw[he,hv]
       have hO':SWO (ltOf fun i j:Fin l.length=>cf (l.get i).x (l.get j).x):=⟨fun i=>hO.irrefl _,fun i j k=>hO.trans _ _ _,fun i j k=>hO.ntrans _ _ _⟩;have hmain:=Go.Proofs.Any.slices_SortFunc L (encE l) (fun i=>by
         obtain⟨A,c,h,-⟩:=hl (l.get i) (zM l i);simp only[zm,and_true]at h;show(l.get i).v.oneCell'=true;rw[h];rfl) (fun i j=>cf (l.get i).x (l.get j).x) hO' f caps b 0 c d w (a7R hfe) hcmp hH hblt (by omega)
       rw[hds]at hmain;refine hmain.mono fun e w' ⟨he,d',n,os,hp,hsd,hw⟩=>?_;subst he;obtain⟨hpz,-,hperm⟩:=hp;have ex:∀ (a:Array (Fin l.length)) (m:Nat),m=a.size->a.extract 0 m=a:=by rintro a m rfl;exact Array.extract_size
       have e1:=ex d' l.length (by omega);have e2:=ex d l.length (by omega);rw[e1,e2]at hperm;have hdl:d.toList.map l.get=l:=by
         rw[hd];apply yi
         . simp
         . intro i h1 h2;simp
       have hpl:(d'.toList.map l.get).Perm l:=by
         have:=hperm.map l.get
         rwa [hdl]at this
       obtain⟨l',hl'⟩:∃ l',l'=d'.toList.map l.get:=⟨_,rfl⟩;rw[<-hl']at hpl;obtain⟨arr',hb',ha'⟩:=b1b (enc:=encE l) (m:=n) (dk:=d') (os:=os) hb harr (by simp;omega);rw[<-hw]at hb';have hv':d'.toList.map (encE l)=l'.map El.v:=by rw[hl',zE];exact List.map_congr_left fun a _=>rfl
       rw[hv']at ha';have hll:l'.length=l.length:=hpl.length_eq;have hsame:∀ k,k<w.heap.size->k≠b->w'.heap[k]? = w.heap[k]? := fun k hk hne=>by rw[hw];exact b0B hblt k hk hne
       have hrep:Rep w' (.sl RowT) .deep (l'.map El.x) [.slice (some ⟨b,0,none⟩) l'.length c] (b::l'.flatMap El.F) (l'.flatMap El.S):=by
         refine a9s hb' ha' ?_ hcm (by omega) fun e he=>?_
         . have:=congrArg zn ha';have h2:=congrArg zn harr;simp only[zi,zu,zj,Ty.sz,z6]at this h2 hsz;omega
         . obtain⟨h1,h2,h3⟩:=hlF e (hpl.mem_iff.1 he);refine a1u _ h1 fun k hk=>hsame k (a2W _ h1 k (by simpa using hk)) ?_;rintro rfl;simp only[zd]at hk;exact hk.elim h2 h3
       have hsort:l'.map El.x=b4r cf (l.map El.x):=by
         refine List.Perm.eq_of_pairwise (le:=fun x y=>(!ltOf cf y x)=true) ?_ ?_ ?_ ((hpl.map El.x).trans (List.mergeSort_perm _ _).symm)
         . intro x y _ _ h1 h2;simp only[zU]at h1 h2;exact hT x y h2 h1
         . rw[hl',zE,List.pairwise_map,List.pairwise_iff_getElem];intro i j hi hj hij;have hi':i<d'.size:=by simpa using hi
           have hj':j<d'.size:=by simpa using hj
           have:=hsd i j (zA _) hij (by omega);rw[getElem!_pos d' j hj',getElem!_pos d' i hi']at this;simp only[Array.getElem_toList,Function.comp_apply,zU];exact this
         . refine List.pairwise_mergeSort ?_ ?_ _
           . intro x y z h1 h2;simp only[zU]at h1 h2 ⊢;exact hO.ntrans _ _ _ h2 h1
           . intro x y;cases h:ltOf cf y x with
             | false=>rfl
             | true =>
               cases h2:ltOf cf x y with
               | false=>rfl
               | true=>have:=hO.irrefl x;rw[hO.trans _ _ _ h2 h]at this;cases this
       rw[hsort,hll]at hrep;have hFp:(l'.flatMap El.F).Perm (l.flatMap El.F):=hpl.flatMap_right El.F;have hSp:(l'.flatMap El.S).Perm (l.flatMap El.S):=hpl.flatMap_right El.S;refine⟨[],[],[],b::l'.flatMap El.F,l'.flatMap El.S,rfl,⟨rfl,rfl,rfl⟩,⟨_,_,b::l'.flatMap El.F,[],l'.flatMap El.S,[],rfl,by simp,by simp,⟨_,hrep,rfl⟩,⟨_,_,rfl,rfl,rfl⟩⟩,?_,?_,?_,?_,?_⟩
       . exact((hFp.cons b).nodup_iff).2 hMn
       . intro k hk;simp only[z2,zk,hFp.mem_iff]at hk;exact .inr (by simpa using hk)
       . intro k hk;simp only[z2,hSp.mem_iff]at hk;refine⟨fun h=>?_,fun _ => .inl (by simp[hk])⟩;simp only[z2,zk,hFp.mem_iff]at h;exact hMS k (by simpa using h) (by simp[hk])
       . intro k hk hkM;exact hsame k hk (by rintro rfl;exact hkM (by simp))
       . rw[hw];exact b1a
   . cases ho
 next=>cases hF
end Go.Vm
end
section
namespace Go.Vm
open Go.Proofs (sortWorld OneCell SW)
open Go.Sort (Holds)
open Go.Lib (keptUpTo)
variable {P:Program}
abbrev compS:Sig:=⟨[.tk false (.sl RowT) .deep,.fnx (fn2 .bool)],[(.val false,.sl RowT,.deep)]⟩
open Classical in
noncomputable def compF (d:Ins compS.ps):Option (Outs compS.outs×Muts compS.ps) :=
 if (∀ x∈([]:List Int)::d.1,∀ y∈([]:List Int)::d.1,d.2.1 (x,y,())=some (decide (x=y),()))/\d.1.length<4611686018427387904 then some ((a8E d.1,()),())else none
def CompOK (P:Program) (f:FuncId):Prop:=a6j P f/\(∀ p cap fv w,Calls P f #[.slice p 0 cap,fv] w fun e w'=>e = .returned (.slice p 0 cap)/\w'=w) ∧
 ∀ {α:Type} [Inhabited α] (enc:α->Value) (hO:OneCell enc) (eq:α->α->Bool) (zr:α) (hz:enc zr = .slice none 0 0) (g:Nat) (cb:Array Value) (eg:∀ args w,(callFunc g args).run P w = .ok (.enter g args) w)
   (blk off cap:Nat) (d:Array α) (w:World) (hcmp:b0J P g cb enc eq blk off d.size w) (hH:Holds enc w blk off d) (hblk:blk<w.heap.size) (hsz:d.size<4611686018427387904) (hcap:d.size≤cap) (kp:Nat->Bool) (hkp0:kp 0=true) (hkp:∀ j,0<j->kp j=!(eq d[j]! d[j-1]!)),
   Calls P f #[.slice (some ⟨blk,off,none⟩) d.size cap,.func (.func g) #[] cb] w fun e w'=>e = .returned (.slice (some ⟨blk,off,none⟩) (keptUpTo kp d d.size).length cap)/\SW enc w blk off (keptUpTo kp d d.size++z7 (d.size-(keptUpTo kp d d.size).length) zr).toArray w'
theorem b1E {α β:Type} (f:α->List β) {l l':List α} (h:l'.Sublist l):(l'.flatMap f).Sublist (l.flatMap f):=by
 induction h with
 | slnil=>exact yq.refl _
 | cons a _ ih=>rw[zC];exact ih.trans (List.sublist_append_right _ _)
 | cons_cons a _ ih=>rw[zC,zC];exact(yq.refl _).append ih
theorem comp_sound {f0:FuncId} (hW:CompOK P f0):a3P P ⟨f0,compS,compF⟩:=by
 obtain⟨hE,hnone,hwalk⟩:=hW;refine⟨hE,?_⟩;rintro⟨xs,g,⟨⟩⟩ r hF w vs M S A hA hMn hMS;have e0:a8E []=[]:=rfl;simp only[compF]at hF;split at hF
 next hgn =>
   obtain⟨hg,hn⟩:=hgn;simp only[zc]at hF;subst hF;obtain⟨v1,vs1,M1,M2,S1,S2,A1,A2,rfl,rfl,rfl,rfl,⟨rfl,us,hr,hsh⟩,v2,vs2,M3,M4,S3,S4,A3,A4,rfl,rfl,rfl,rfl,⟨rfl,f,caps,rfl,hfe,hSlt,hAS,hfn⟩,rfl,rfl,rfl,rfl⟩:=hA;have hsh:us=[v1]:=by simpa[a0E]using hsh
   subst hsh;have hr0:=hr;obtain⟨A0,c,hv,hc,hcase⟩:=hr;simp only[zm,and_true]at hv;subst hv;rcases hcase with⟨rfl,rfl,rfl,hc0⟩|⟨-,b,arr,et,us,sp,F',rfl,hb,harr,⟨hsz,hcm⟩,hrl,rfl⟩|⟨ho,-⟩
   . refine(hnone A0 c (.func (.func f) #[] caps) w).mono fun e w' ⟨he,hw⟩=>?_;subst he hw;exact⟨[_],[],[],[],[],rfl,⟨_,[],[],[],[],[],rfl,rfl,rfl,⟨_,e0.symm▸hr0,rfl⟩,rfl,rfl,rfl⟩,⟨_,_,rfl,⟨_,_,rfl,rfl,rfl⟩⟩,by simp,by simp,by simp,fun _ _ _=>rfl,Bel.refl _⟩
   . obtain⟨l,rfl,rfl,rfl,rfl,hl⟩:=b5C hrl;simp only[zt]at hMn hMS hn;have hbS:b∉S3:=fun h=>hMS b (by simp) (by simp[h]);have hlF:∀ e∈l,ElG w b e/\e.x∈([]:List Int)::l.map El.x:=fun e he=>⟨⟨hl e he,fun h=>by
       simp only[ym,zK,not_exists,not_and]at hMn;exact hMn.1 e he h,fun h=>hMS b (by simp) (by simp only[zd,zK];exact .inl ⟨e,he,h⟩)⟩,by simp only[zk,zY];exact .inr ⟨e,he,rfl⟩⟩
     simp only[zj]at hn hc ⊢;have hblt:b<w.heap.size:=by
       rcases zp b w.heap.size with h|h
       . exact h
       . rw[zf h]at hb;cases hb
     obtain⟨Q,hQ⟩:∃ Q:El->Prop,∀ e,Q e↔ElG w b e/\e.x∈([]:List Int)::l.map El.x:=⟨_,fun _=>Iff.rfl⟩;have hlQ:∀ e∈l,Q e:=fun e he=>(hQ e).2 (hlF e he);obtain⟨zr,hzr⟩:∃ z:{e:El // Q e},z.1=⟨[],.slice none 0 0,[],[]⟩:=⟨⟨⟨[],.slice none 0 0,[],[]⟩,(hQ _).2 ⟨⟨⟨none,0,rfl,ze _,.inl ⟨rfl,rfl,rfl,fun _=>rfl⟩⟩,by simp,by simp⟩,by simp⟩⟩,rfl⟩
     haveI:Inhabited {e:El // Q e}:=⟨zr⟩
     obtain⟨d,hd⟩:∃ d:Array {e:El // Q e},d=(l.attachWith _ hlQ).toArray:=⟨_,rfl⟩;have hdl:d.toList.map (·.1)=l:=by rw[hd];simp
     have hds:d.size=l.length:=by rw[hd];simp
     obtain⟨enc,henc⟩:∃ enc:{e:El // Q e}->Value,enc=fun a=>a.1.v:=⟨_,rfl⟩;have hdv:d.toList.map enc=l.map El.v:=by rw[henc,<-hdl,zE];rfl
     have hdx:d.toList.map (fun a=>a.1.x)=l.map El.x:=by
       conv=>rhs;rw[<-hdl]
       rw[zE];rfl
     have hH:Go.Sort.Holds enc w b 0 d:=fun j hj=>by
       have h1:=a0V hb harr j (enc d[j]!) (by rw[<-hdv,getElem!_pos d j hj];simp[hj]);have h2:(⟨b,0,none⟩:Addr).add j=⟨b,0+j,none⟩:=by unfold Addr.add;split<;>simp_all
       rw[h2]at h1;refine⟨h1,?_⟩;unfold World.frozen?;simp[hb]
     have hcmp:b0J P f caps enc (fun x y=>decide (x.1.x=y.1.x)) b 0 d.size w:=fun m os dk _ i j=>by
       have h:=a9t (enc:=enc) hb hfn hbS hSlt ((hQ _).1 i.2).1 ((hQ _).1 j.2).1 (hg _ ((hQ _).1 i.2).2 _ ((hQ _).1 j.2).2) m dk os;rw[henc]at h ⊢;refine h.mono fun e w' ⟨⟨v,F,S,⟨hv,_,_⟩,he⟩,h⟩=>⟨?_,h⟩;simp only[zm,and_true]at hv;rw[he,hv]
     have hmain:=hwalk enc (fun i=>by
       obtain⟨A,c,h,-⟩:=((hQ _).1 i.2).1.rep;simp only[zm,and_true]at h;rw[henc];show i.1.v.oneCell'=true;rw[h];rfl) (fun x y=>decide (x.1.x=y.1.x)) zr (by rw[henc];show zr.1.v=_;rw[hzr]) f caps (a7R hfe) b 0 c d w hcmp hH hblt (by omega) (by omega) (a6R (fun a=>a.1.x) d) (by simp[a6R]) (fun j hj=>by
         have:j≠0:=by omega
         simp[a6R,this])
     rw[hds]at hmain;refine hmain.mono fun e w' ⟨he,n,os,hw⟩=>?_;subst he;obtain⟨K,hK⟩:∃ K,K=keptUpTo (a6R (fun a:{e:El // Q e}=>a.1.x) d) d d.size:=⟨_,rfl⟩;have hK':keptUpTo (a6R (fun a:{e:El // Q e}=>a.1.x) d) d l.length=K:=by rw[hK,hds]
     rw[hK']at hw ⊢;have hKs:K.Sublist d.toList:=by rw[hK];exact b4J _ d
     have hKx:K.map (fun a=>a.1.x)=a8E (l.map El.x):=by
       rw[hK,a7T (fun a:{e:El // Q e}=>a.1.x) d d.size (ze _),<-hdx,zH (by simp)]
     obtain⟨l',hl'⟩:∃ l',l'=K.map (·.1):=⟨_,rfl⟩;have hls:l'.Sublist l:=by rw[hl',<-hdl];exact hKs.map _
     have hll:l'.length=K.length:=by rw[hl'];simp
     have hlle:l'.length≤l.length:=hls.length_le;obtain⟨arr',hb',ha'⟩:=b1b (enc:=enc) (m:=n) (dk:=(K++z7 (l.length-K.length) zr).toArray) (os:=os) hb harr (by simp;omega);rw[<-hw]at hb';have hv':K.map enc=l'.map El.v:=by rw[hl',henc,zE];rfl
     simp only[z1,hv',List.append_assoc]at ha';have hsame:∀ k,k<w.heap.size->k≠b->w'.heap[k]? = w.heap[k]? := fun k hk hne=>by rw[hw];exact b0B hblt k hk hne
     have hrep:Rep w' (.sl RowT) .deep (l'.map El.x) [.slice (some ⟨b,0,none⟩) l'.length c] (b::l'.flatMap El.F) (l'.flatMap El.S):=by
       refine a9s hb' ha' ?_ hcm (by omega) fun e he=>?_
       . have:=congrArg zn ha';have h2:=congrArg zn harr;simp only[zi,zu,zj,List.length_replicate,Ty.sz,z6]at this h2 hsz;omega
       . obtain⟨⟨h1,h2,h3⟩,-⟩:=hlF e (hls.subset he);refine a1u _ h1 fun k hk=>hsame k (a2W _ h1 k (by simpa using hk)) ?_;rintro rfl;simp only[zd]at hk;exact hk.elim h2 h3
     have hx':l'.map El.x=a8E (l.map El.x):=by rw[<-hKx,hl',zE];rfl
     rw[hx',hll]at hrep;have hFs:=b1E El.F hls;have hSs:=b1E El.S hls;refine⟨[_],b::l'.flatMap El.F,l'.flatMap El.S,[],[],rfl,⟨_,[],b::l'.flatMap El.F,[],l'.flatMap El.S,[],rfl,by simp,by simp,⟨_,hrep,rfl⟩,rfl,rfl,rfl⟩,⟨_,_,rfl,⟨_,_,rfl,rfl,rfl⟩⟩,?_,?_,?_,?_,?_⟩
     . simp only[zt];exact(hFs.cons_cons b).nodup hMn
     . intro k hk;simp only[zt]at hk;exact .inr (by simpa using(hFs.cons_cons b).subset hk)
     . intro k hk;simp only[zt]at hk ⊢;refine⟨fun h=>?_,fun _ => .inl (by simp[hSs.subset hk])⟩;exact hMS k (by simpa using(hFs.cons_cons b).subset h) (by simp[hSs.subset hk])
     . intro k hk hkM;exact hsame k hk (by rintro rfl;exact hkM (by simp))
     . rw[hw];exact b1a
   . cases ho
 next=>cases hF
end Go.Vm
end
section
namespace Go.Vm
open Go.Sort (SWO)
open Go.Proofs (ltOf)
def ordL:List Int->List Int->Int
 | [],[]=>0
 | [],_::_=>-1
 | _::_,[]=>1
 | a::x,b::y=>if a<b then -1 else if b<a then 1 else ordL x y
def ordS (x y:List Int):Int:=if x.length<y.length then -1 else if y.length<x.length then 1 else ordL x y
theorem b1R:∀ x y,ordL x y<0↔0<ordL y x
 | [],[]=>by simp[ordL]
 | [],_::_=>by simp[ordL]
 | _::_,[]=>by simp[ordL]
 | a::x,b::y=>by
   simp only[ordL];have:=b1R x y;split<;>(try split)<;>(try split)<;>omega
theorem a9R:∀ x y,ordL x y=0->x=y
 | [],[],_=>rfl
 | [],_::_,h=>by simp[ordL]at h
 | _::_,[],h=>by simp[ordL]at h
 | a :: x,b::y,h=>by
   simp only[ordL]at h;split at h
   . omega
   . split at h
     . omega
     . rw[a9R x y h,show a=b by omega]
theorem a7e:∀ x y z,ordL x y<0->ordL y z<0->ordL x z<0
 | [],[],_,h,_=>by simp[ordL]at h
 | [],_::_,[],_,h=>by simp[ordL]at h
 | [],_::_,_::_,_,_=>by simp[ordL]
 | _::_,[],_,h,_=>by simp[ordL]at h
 | _::_,_::_,[],_,h=>by simp[ordL]at h
 | a :: x,b::y,c::z,h1,h2=>by
   simp only[ordL]at *;have:=a7e x y z;split at h1
   . split at h2
     . rw[if_pos (by omega)];omega
     . split at h2
       . omega
       . rw[if_pos (by omega)];omega
   . split at h1
     . omega
     . split at h2
       . rw[if_pos (by omega)];omega
       . split at h2
         . omega
         . rw[if_neg (by omega),if_neg (by omega)];exact this h1 h2
theorem a5t (x y:List Int):ordS x y<0↔0<ordS y x:=by
 have:=b1R x y;unfold ordS;split<;>(try split)<;>(try split)<;>omega
theorem a9S (x y:List Int) (h:ordS x y=0):x=y:=by
 unfold ordS at h;split at h
 . omega
 . split at h
   . omega
   . exact a9R x y h
theorem a7f (x y z:List Int) (h1:ordS x y<0) (h2:ordS y z<0):ordS x z<0:=by
 have:=a7e x y z;unfold ordS at *;split at h1
 . rw[if_pos]
   . omega
   . split at h2
     . omega
     . split at h2<;>omega
 . split at h1
   . omega
   . split at h2
     . rw[if_pos (by omega)];omega
     . split at h2
       . omega
       . rw[if_neg (by omega),if_neg (by omega)];exact this h1 h2
theorem ordS_swo:SWO (ltOf ordS):=by
 have hn:∀ x y:List Int,ltOf ordS x y=true↔ordS x y<0:=fun x y=>by simp[ltOf]
 have hf:∀ x y:List Int,ltOf ordS x y=false↔¬ ordS x y<0:=fun x y=>by simp[ltOf]
 refine⟨fun x=>?_,fun x y z=>?_,fun x y z=>?_⟩
 . rw[hf];have:=a5t x x;omega
 . rw[hn,hn,hn];exact a7f x y z
 . rw[hf,hf,hf];intro h1 h2 h3;rcases Int.lt_trichotomy (ordS y x) 0 with h|h|h
   . have:=a7f y x z h h3;exact h2 this
   . have:=a9S y x h;subst this;exact h2 h3
   . exact h1 ((a5t x y).2 h)
theorem ordS_tot (x y:List Int) (h1:ltOf ordS x y=false) (h2:ltOf ordS y x=false):x=y:=by
 simp only[ltOf,decide_eq_false_iff_not]at h1 h2;have:=a5t x y;have:=a5t y x;exact a9S x y (by omega)
end Go.Vm
end
section
namespace Go.Vm
open Go.Proofs (sortWorld Bears SlLaysN.n53 SlLaysN.n43)
open Go.Sort (Holds putRow grow)
open Go.Shelf (Ren)
variable {P:Program} {ρ:Ren}
theorem a8l {w:World} {m:Mode}:∀ {xs:List Int} {us:List Value} {F S:List Nat},RepL (Rep w (.int .i64) m) xs us F S->us=xs.map (Value.int .i64)/\F=[]/\S=[]
 | [],_,_,_,⟨h1,h2,h3⟩=>⟨h1,h2,h3⟩
 | x::xs,_,_,_,⟨v1,v2,F1,F2,S1,S2,e1,e2,e3,⟨h1,h2,h3⟩,h⟩=>by
   obtain⟨k1,k2,k3⟩:=a8l h;subst e1 e2 e3 h1 h2 h3 k1 k2 k3;exact⟨rfl,rfl,rfl⟩
theorem b5L {w:World} {m:Mode}:∀ (xs:List Int),RepL (Rep w (.int .i64) m) xs (xs.map (Value.int .i64)) [] []
 | []=>⟨rfl,rfl,rfl⟩
 | _::xs=>⟨_,_,[],[],[],[],rfl,rfl,rfl,⟨rfl,rfl,rfl⟩,b5L xs⟩
theorem a9I {w:World} {b:Nat} {arr:Array Value} {e:TypeId} {xs:List Int} {sp:List Value} (hb:w.heap[b]? = some (.cells arr e (0,0))) (ha:arr.toList=xs.map (Value.int .i64)++sp):Holds (Value.int .i64) w b 0 xs.toArray:=fun j hj=>by
 have hj':j<xs.length:=by simpa using hj
 have h1:=a0V hb ha j (Value.int .i64 xs.toArray[j]!) (by rw[yf,zW hj',getElem!_pos xs.toArray j hj];simp);have h2:(⟨b,0,none⟩:Addr).add j=⟨b,0+j,none⟩:=by unfold Addr.add;split<;>simp_all
 rw[h2]at h1;refine⟨h1,?_⟩;unfold World.frozen?;simp[hb]
theorem b3Z {w:World} {b:Nat} {arr:Array Value} {e:TypeId} {xs:List Int} {sp:List Value} {c:Nat} (hb:w.heap[b]? = some (.cells arr e (0,0))) (ha:arr.toList=xs.map (Value.int .i64)++sp) (hs:arr.size=c) (hm:c≤maxLen) (hlen:xs.length≤c) :
   Rep w RowT .deep xs [.slice (some ⟨b,0,none⟩) xs.length c] [b] [] :=
 ⟨_,c,rfl,hlen,.inr (.inl ⟨rfl,b,arr,e,_,sp,[],rfl,hb,ha,⟨by simpa[Ty.sz]using hs,hm⟩,b5L xs,rfl⟩)⟩
abbrev sortIS:Sig:=⟨[.wr false RowT .deep],[]⟩
def b5N (d:Ins sortIS.ps):Option (Outs sortIS.outs×Muts sortIS.ps) :=
 if d.1.length<4611686018427387904 then some ((),((d.1:List Int).mergeSort fun x y=>decide (x≤y),()))else none
theorem sortI_sound (L:SlLaysN.n53 P ρ):a3P P ⟨ρ.f 53,sortIS,b5N⟩:=by
 refine⟨a3Q L.f53 rfl,?_⟩;rintro⟨xs,⟨⟩⟩ r hF w vs M S A hA hMn hMS;simp only[b5N]at hF;split at hF
 next hn =>
   simp only[zc]at hF;subst hF;obtain⟨v1,vs1,M1,M2,S1,S2,A1,A2,rfl,rfl,rfl,rfl,⟨-,rfl,us,hr,hsh⟩,rfl,rfl,rfl,rfl⟩:=hA;have hsh:us=[v1]:=by simpa[a0E]using hsh
   subst hsh;have hr0:=hr;obtain⟨A0,c,hv,hc,hcase⟩:=hr;simp only[zm,and_true]at hv;subst hv;rcases hcase with⟨rfl,rfl,rfl,hc0⟩|⟨-,b,arr,et,us,sp,F',rfl,hb,harr,⟨hsz,hcm⟩,hrl,rfl⟩|⟨ho,-⟩
   . refine(Go.Proofs.AnyG.slices_Sort_int_none L A0 c w).mono fun e w' ⟨he,hw⟩=>?_;subst he hw;have e0:([]:List Int).mergeSort (fun x y=>decide (x≤y))=[]:=by simp
     exact⟨[],[],[],[],[],rfl,⟨rfl,rfl,rfl⟩,⟨_,_,[],[],[],[],rfl,rfl,rfl,⟨_,e0.symm▸hr0,rfl⟩,rfl,rfl⟩,by simp,by simp,by simp,fun _ _ _=>rfl,Bel.refl _⟩
   . obtain⟨rfl,rfl,rfl⟩:=a8l hrl;have hblt:b<w.heap.size:=by
       rcases zp b w.heap.size with h|h
       . exact h
       . rw[zf h]at hb;cases hb
     refine(Go.Proofs.AnyG.slices_Sort_int L b 0 c xs w (a9I hb harr) hblt hn).mono fun e w' ⟨he,n,os,hw⟩=>?_;subst he;obtain⟨ys,hys⟩:∃ ys,ys=xs.mergeSort (fun x y=>decide (x≤y)):=⟨_,rfl⟩;have hyl:ys.length=xs.length:=by rw[hys];exact List.length_mergeSort _
     have hw:w'=sortWorld (Value.int .i64) w b 0 n ys.toArray os:=by rw[hw,hys];rfl
     obtain⟨arr',hb',ha'⟩:=b1b (enc:=Value.int .i64) (m:=n) (dk:=ys.toArray) (os:=os) hb harr (by simp[hyl]);rw[<-hw]at hb';have hrep:=b3Z (c:=c) hb' (by simpa using ha') (by
       have:=congrArg zn ha';have h2:=congrArg zn harr;simp only[zi,zu,zj,Ty.sz,z6,hyl]at this h2 hsz;omega) hcm (by rw[hyl];exact hc)
     rw[hyl]at hrep;have hsame:∀ k,k<w.heap.size->k≠b->w'.heap[k]? = w.heap[k]? := fun k hk hne=>by rw[hw];exact b0B hblt k hk hne
     rw[<-hys];refine⟨[],[],[],[b],[],rfl,⟨rfl,rfl,rfl⟩,⟨_,_,[b],[],[],[],rfl,rfl,rfl,⟨_,hrep,rfl⟩,rfl,rfl⟩,by simp,?_,by simp,fun k hk hkM=>hsame k hk (by rintro rfl;exact hkM (by simp)),by rw[hw];exact b1a⟩;intro k hk;exact .inr (by simpa using hk)
   . cases ho
 next=>cases hF
abbrev compIS:Sig:=⟨[.tk false RowT .deep],[(.val false,RowT,.deep)]⟩
def b5B (d:Ins compIS.ps):Option (Outs compIS.outs×Muts compIS.ps) :=
 if d.1.length<4611686018427387904 then some ((Go.Lib.compact (α:=Int) d.1,()),())else none
theorem b0U (xs:List Int):(Go.Lib.compact xs).length≤xs.length:=by
 unfold Go.Lib.compact Go.Lib.compactUpTo;rw[zj];exact zL (List.length_filter_le _ _) (by simp)
theorem compI_sound (L:SlLaysN.n43 P ρ):a3P P ⟨ρ.f 43,compIS,b5B⟩:=by
 refine⟨a3Q L.f43 rfl,?_⟩;rintro⟨xs,⟨⟩⟩ r hF w vs M S A hA hMn hMS;simp only[b5B]at hF;split at hF
 next hn =>
   simp only[zc]at hF;subst hF;obtain⟨v1,vs1,M1,M2,S1,S2,A1,A2,rfl,rfl,rfl,rfl,⟨rfl,us,hr,hsh⟩,rfl,rfl,rfl,rfl⟩:=hA;have hsh:us=[v1]:=by simpa[a0E]using hsh
   subst hsh;have hr0:=hr;obtain⟨A0,c,hv,hc,hcase⟩:=hr;simp only[zm,and_true]at hv;subst hv;rcases hcase with⟨rfl,rfl,rfl,hc0⟩|⟨-,b,arr,et,us,sp,F',rfl,hb,harr,⟨hsz,hcm⟩,hrl,rfl⟩|⟨ho,-⟩
   . refine(Go.Proofs.AnyG.slices_Compact_int_empty L A0 c w).mono fun e w' ⟨he,hw⟩=>?_;subst he hw;have e0:Go.Lib.compact ([]:List Int)=[]:=rfl;exact⟨[_],[],[],[],[],rfl,⟨_,[],[],[],[],[],rfl,rfl,rfl,⟨_,e0.symm▸hr0,rfl⟩,rfl,rfl,rfl⟩,⟨_,_,rfl,rfl,rfl⟩,by simp,by simp,by simp,fun _ _ _=>rfl,Bel.refl _⟩
   . obtain⟨rfl,rfl,rfl⟩:=a8l hrl;have hblt:b<w.heap.size:=by
       rcases zp b w.heap.size with h|h
       . exact h
       . rw[zf h]at hb;cases hb
     have hn:xs.length<4611686018427387904:=hn;have hc:xs.length≤c:=hc;refine(Go.Proofs.AnyG.slices_Compact_int L b 0 c xs w (a9I hb harr) (by omega) hc).mono fun e w' ⟨he,n,hw⟩=>?_;subst he;have hle:=b0U xs;obtain⟨ys,hys⟩:∃ ys,ys=Go.Lib.compact xs:=⟨_,rfl⟩;rw[<-hys]at hle hw ⊢;obtain⟨z,hz⟩:∃ z,z=z7 (xs.length-ys.length) (0:Int):=⟨_,rfl⟩;rw[<-hz]at hw;have hzl:z.length=xs.length-ys.length:=by rw[hz];simp
     have hw:w'=sortWorld (Value.int .i64) w b 0 n (ys++z).toArray #[]:=by rw[hw];unfold sortWorld;rw[Go.Sort.grow_empty]
     obtain⟨arr',hb',ha'⟩:=b1b (enc:=Value.int .i64) (m:=n) (dk:=(ys++z).toArray) (os:=#[]) hb harr (by simp;omega);rw[<-hw]at hb';have hrep:=b3Z (xs:=ys) (c:=c) (sp:=z.map (Value.int .i64)++sp) hb' (by rw[ha'];simp) (by
       have:=congrArg zn ha';have h2:=congrArg zn harr;simp only[zi,zu,zj,Ty.sz,z6,hzl]at this h2 hsz;omega) hcm (by omega)
     have hsame:∀ k,k<w.heap.size->k≠b->w'.heap[k]? = w.heap[k]? := fun k hk hne=>by rw[hw];exact b0B hblt k hk hne
     refine⟨[_],[b],[],[],[],rfl,⟨_,[],[b],[],[],[],rfl,rfl,rfl,⟨_,hrep,rfl⟩,rfl,rfl,rfl⟩,⟨_,_,rfl,rfl,rfl⟩,by simp,?_,by simp,fun k hk hkM=>hsame k hk (by rintro rfl;exact hkM (by simp)),by rw[hw];exact b1a⟩;intro k hk;exact .inr (by simpa using hk)
   . cases ho
 next=>cases hF
end Go.Vm
end
