/- What the functions answer. -/
import Derived.Test.YtpdlhcgmejadnaaGreatSplitSectionG2
open Int renaming toNat_natCast->za,eq_ofNat_of_zero_le->zl,ofNat_inj->yi,le_trans->yH,lt_trichotomy->yJ,le_refl->yM,toNat_zero->yS
open Option renaming bind_some->zb,toList_some->zJ,map_some->yr
open Nat renaming zero_le->zc,le_refl->zh,mul_le_mul->zA,mul_le_mul_right->zE,add_mul->zU,one_mul->zV,mul_comm->zX,div_eq_of_lt->z4,mul_add_div->z7,add_sub_cancel->z9,lt_trichotomy->yd,lt_of_succ_le->yk,le_trans->yn,le_add_right->yO
open List renaming getD_eq_getElem?_getD->zd,length_cons->zf,length_nil->zg,range->zj,getElem_of_mem->zk,map_append->zm,pairwise_cons->zn,take_of_length_le->zo,length_map->zp,mem_cons->zq,getElem?_eq_getElem->zr,range_succ->zt,length_range->zu,length_append->zv,mem_map->zw,take_add_one->zx,drop_eq_getElem_cons->zy,pairwise_iff_getElem->zz,drop_of_length_le->zB,replicate->zC,mem_of_mem_take->zD,ext_getElem->zG,length_take->zH,mem_range->zI,any_eq_false->zL,range'->zM,length_eq_zero_iff->zN,getElem?_append_right->zO,mem_flatMap->zP,getD_cons_zero->zQ,getElem?_append_left->zR,mem_append->zS,mem_filter->zT,mem_singleton->zW,append_assoc->zY,findIdx_lt_length_of_exists->zZ,any_eq_true->z3,findIdx_getElem->z5,getElem?_range->z8,getElem?_take->ya,getElem_range->yb,nodup_iff_pairwise_ne->yc,getElem?_map->ye,mem_take_iff_getElem->yf,mem_drop_iff_getElem->yg,foldl_append->yh,getElem?_set->yj,getElem_map->yl,pairwise_mergeSort->ym,getElem?_replicate->yo,foldl_cons->yp,append_nil->yq,getElem?_set_self->yt,length_filter_le->yv,getElem?_eq_none->yw,mem_of_mem_drop->yx,take_set_of_le->yy,mergeSort_perm->yz,getD_cons_succ->yA,map_congr_left->yC,flatMap_append->yD,filter_append->yE,map_map->yG,findIdx_cons->yI,drop_length->yK,getElem_mem->yL,length_drop->yN,cons_append->yP,nil_append->yR,map_cons->yU
open Bool renaming false_eq_true->ze,not_eq_true'->zF,not_true->zK,toNat_false->z0,toNat_true->z6,not_eq_eq_eq_not->yu,not_eq_false'->yF,or_eq_true->yQ,toNat_le->yT
open Go.IntKind renaming i64->zi
open Prod.mk renaming injEq->yB
namespace Go.Proofs.YtpdlhcgmejadnaaGreat
open Go Go.Vm
set_option linter.unusedVariables false
set_option linter.unusedSimpArgs false
abbrev A2z:=Int×Int×Int
theorem A0q {x:Int} (h1:-9223372036854775808≤x) (h2:x≤9223372036854775807):zi.wrap x=x:=by
 have e:(2:Int) ^ (zi).bits=18446744073709551616:=by decide
 have e2:(2:Int) ^ ((zi).bits-1)=9223372036854775808:=by decide
 unfold IntKind.wrap;simp only[e,e2,show zi.signed=true from rfl,Bool.true_and,decide_eq_true_eq];split<;>omega
theorem A0x {i:Nat} (h:i<4611686018427387904):zi.wrap ((i:Int)+1)=((i+1:Nat):Int):=by
 rw[A0q (by omega) (by omega)];omega
theorem idxI {α:Type} {xs:List α} {i:Nat}:(0≤(i:Int)/\(i:Int)<(xs.length:Int))↔i<xs.length:=by omega
theorem ltI {i n:Nat}:(decide ((i:Int)<(n:Int)))=true↔i<n:=by simp
theorem A0y {α:Type} {xs:List α} {i:Nat} {d:α} (h:i<xs.length):xs.getD i d=xs[i]:=by
 rw[zd,zr h];rfl
def Goes {R:Type} (A B:Nat->Option R):Prop:=∀ r,Ev B r->Ev A r
theorem Goes.refl {R:Type} (A:Nat->Option R):Goes A A:=fun _ h=>h
theorem Goes.trans {R:Type} {A B C:Nat->Option R} (h:Goes A B) (k:Goes B C):Goes A C:=fun r hr=>h r (k r hr)
theorem Goes.succ {R:Type} {A B:Nat->Option R} (e:∀ k,A (k+1)=B k):Goes A B:=fun _ h=>h.succ e
theorem Goes.of_eq {R:Type} {A B:Nat->Option R} (e:∀ k,A k=B k):Goes A B:=fun _ h=>h.of_eq e
theorem Ev.loop {σ R:Type} (L:Nat->Nat->σ->Option R) (n:Nat) (I:Nat->σ->Prop) (Q:R->Prop)
   (hstep:∀ i s,i<n->I i s->(∃ r,Ev (fun k=>L k i s) r/\Q r)∨(∃ s',I (i+1) s'/\Goes (fun k=>L k i s) (fun k=>L k (i+1) s')))
   (hend:∀ s,I n s->∃ r,Ev (fun k=>L k n s) r/\Q r):∀ i s,i≤n->I i s->∃ r,Ev (fun k=>L k i s) r/\Q r:=by
 have key:∀ j i s,i+j=n->I i s->∃ r,Ev (fun k=>L k i s) r/\Q r:=by
   intro j;induction j with
   | zero => intro i s hi h;obtain rfl:i=n:=by omega
             exact hend s h
   | succ j ih =>
     intro i s hi h;rcases hstep i s (by omega) h with h1|⟨s',h1,h2⟩
     . exact h1
     . obtain⟨r,hr,hq⟩:=ih (i+1) s' (by omega) h1;exact⟨r,h2 r hr,hq⟩
 exact fun i s hi h=>key (n-i) i s (by omega) h
theorem Goes.loop {σ R:Type} (L:Nat->Nat->σ->Option R) (n:Nat) (I:Nat->σ->Prop)
   (hstep:∀ i s,i<n->I i s->∃ s',I (i+1) s'/\Goes (fun k=>L k i s) (fun k=>L k (i+1) s')):∀ i s,i≤n->I i s->∃ s',I n s'/\Goes (fun k=>L k i s) (fun k=>L k n s'):=by
 have key:∀ j i s,i+j=n->I i s->∃ s',I n s'/\Goes (fun k=>L k i s) (fun k=>L k n s'):=by
   intro j;induction j with
   | zero => intro i s hi h;obtain rfl:i=n:=by omega
             exact⟨s,h,Goes.refl _⟩
   | succ j ih =>
     intro i s hi h;obtain⟨s',h1,h2⟩:=hstep i s (by omega) h;obtain⟨s2,h3,h4⟩:=ih (i+1) s' (by omega) h1;exact⟨s2,h3,h2.trans h4⟩
 exact fun i s hi h=>key (n-i) i s (by omega) h
theorem Ev.all {A B:Type} {L:Nat->Nat->Option ((Bool×A)×B)} {a:A} {b:B} {n:Nat} (p:Nat->Bool) (hstep:∀ k i,i<n->L (k+1) i=if p i=true then L k (i+1)else some ((false,a),b)) (hend:∀ k,L (k+1) n=some ((true,a),b)) (i:Nat) (hi:i≤n) :
   ∃ v,Ev (fun k=>L k i) ((v,a),b)/\(v=true↔∀ j,i≤j->j<n->p j=true):=by
 have key:∀ m i,i+m=n->∃ v,Ev (fun k=>L k i) ((v,a),b)/\(v=true↔∀ j,i≤j->j<n->p j=true):=by
   intro m;induction m with
   | zero => intro i hi;obtain rfl:i=n:=by omega
             exact⟨true,(Ev.const _).succ hend,by simp;intro j _ _;omega⟩
   | succ m ih =>
     intro i hi;obtain⟨v,hv,hv'⟩:=ih (i+1) (by omega);cases hp:p i with
     | false=>exact⟨false,(Ev.const _).succ fun k=>by rw[hstep k i (by omega),hp];rfl,by simp;exact⟨i,zh _,by omega,hp⟩⟩
     | true =>
       refine⟨v,hv.succ fun k=>by rw[hstep k i (by omega),hp];rfl,hv'.trans ⟨fun h j hj hn=>?_,fun h j hj hn=>h j (by omega) hn⟩⟩;by_cases hij:j=i
       . rw[hij];exact hp
       . exact h j (by omega) hn
 exact key (n-i) i (by omega)
theorem all_eq {α:Type} {xs ys:List α} (hl:xs.length=ys.length) (q:α->α->Bool) (hq:∀ x y,q x y=true↔x=y) (d:α):(∀ j,0≤j->j<xs.length->q (xs.getD j d) (ys.getD j d)=true)↔xs=ys:=by
 constructor
 . intro h;refine zG hl fun i h1 h2=>?_;have:=(hq _ _).1 (h i (zc _) h1)
   rwa [A0y h1,A0y h2]at this
 . rintro rfl j _ _;exact(hq _ _).2 rfl
theorem Goes.fill {α R:Type} {L:Nat->Nat->List α->Option R} (xs:List α) (d:α) (hstep:∀ k i ys,i<xs.length->ys.length=xs.length->L (k+1) i ys=L k (i+1) (ys.set i (xs.getD i d))) (ys:List α) (hy:ys.length=xs.length) :
   Goes (fun k=>L k 0 ys) (fun k=>L k xs.length xs):=by
 obtain⟨s,⟨hs1,hs2⟩,hs3⟩:=Goes.loop L xs.length (fun i s=>s.length=xs.length/\s.take i=xs.take i) (fun i s hi ⟨h1,h2⟩=>⟨s.set i (xs.getD i d),⟨by simp[h1],by
   rw[zx,zx,yy (zh _),h2];simp[hi,h1,A0y hi]⟩,Goes.succ fun k=>hstep k i s hi h1⟩) 0 ys (zc _) ⟨hy,by simp⟩
 have:s=xs:=by
   rw[zo (by omega),zo (zh _)]at hs2;exact hs2
 rw[this]at hs3;exact hs3
theorem ite_nb {α:Type} (b:Bool) (x y:α):(if (!b)=true then x else y)=if b=true then y else x:=by cases b<;>rfl
theorem Ev.allP {A B:Type} {L:Nat->Nat->Option ((Bool×A)×B)} {a:A} {b:B} {n:Nat} (P:Nat->Prop) (e:Bool) (hstep:∀ i,i<n->(P i/\∀ k,L (k+1) i=L k (i+1))∨(¬ P i/\∀ k,L (k+1) i=some ((false,a),b))) (hend:Ev (fun k=>L k n) ((e,a),b)) (i:Nat) (hi:i≤n) :
   ∃ v,Ev (fun k=>L k i) ((v,a),b)/\(v=true↔e=true/\∀ j,i≤j->j<n->P j):=by
 have key:∀ m i,i+m=n->∃ v,Ev (fun k=>L k i) ((v,a),b)/\(v=true↔e=true/\∀ j,i≤j->j<n->P j):=by
   intro m;induction m with
   | zero => intro i hi;obtain rfl:i=n:=by omega
             exact⟨e,hend,⟨fun h=>⟨h,fun j h1 h2=>by omega⟩,fun h=>h.1⟩⟩
   | succ m ih =>
     intro i hi;obtain⟨v,hv,hv'⟩:=ih (i+1) (by omega);rcases hstep i (by omega)with⟨hp,h⟩|⟨hp,h⟩
     . refine⟨v,hv.succ h,hv'.trans ⟨fun⟨h1,h2⟩=>⟨h1,fun j hj hn=>?_⟩,fun⟨h1,h2⟩=>⟨h1,fun j hj hn=>h2 j (by omega) hn⟩⟩⟩;by_cases hij:j=i
       . rw[hij];exact hp
       . exact h2 j (by omega) hn
     . exact⟨false,(Ev.const _).succ h,⟨fun h=>(by cases h),fun⟨_,h2⟩=>absurd (h2 i (zh _) (by omega)) hp⟩⟩
 exact key (n-i) i (by omega)
theorem A4h {i:Nat} (h:0<i) (h2:i<4611686018427387904):zi.wrap ((i:Int)-1)=((i-1:Nat):Int):=by
 rw[A0q (by omega) (by omega)];omega
theorem Goes.foldl {α σ R:Type} {L:Nat->Nat->σ->Option R} (xs:List α) (d:α) (f:σ->α->σ) (hstep:∀ k i s,i<xs.length->L (k+1) i s=L k (i+1) (f s (xs.getD i d))) (s:σ):Goes (fun k=>L k 0 s) (fun k=>L k xs.length (xs.foldl f s)):=by
 have key:∀ m i s,i+m=xs.length->Goes (fun k=>L k i s) (fun k=>L k xs.length ((xs.drop i).foldl f s)):=by
   intro m;induction m with
   | zero => intro i s hi;obtain rfl:i=xs.length:=by omega
             rw[yK];exact Goes.refl _
   | succ m ih =>
     intro i s hi;have h:i<xs.length:=by omega
     refine(Goes.succ fun k=>hstep k i s h).trans ?_;rw[zy h,yp,<-A0y (d:=d) h];exact ih (i+1) _ (by omega)
 have:=key xs.length 0 s (by omega);simpa using this
theorem A0z {α:Type} {xs:List α} {i:Nat} (d:α) (h:i<xs.length):xs.getD i d∈xs:=by rw[A0y h];exact yL h
theorem Ev.allF {A B:Type} {L:Nat->Nat->Option ((Bool×A)×B)} {a:A} {b:B} {n:Nat} (P:Nat->Prop) (e:Bool) (i0:Nat) (hstep:∀ i,i0≤i->i<n->(P i/\∀ k,L (k+1) i=L k (i+1))∨(¬ P i/\∀ k,L (k+1) i=some ((false,a),b))) (hend:Ev (fun k=>L k n) ((e,a),b)) (i:Nat) (h0:i0≤i) (hi:i≤n) :
   ∃ v,Ev (fun k=>L k i) ((v,a),b)/\(v=true↔e=true/\∀ j,i≤j->j<n->P j):=by
 have key:∀ m i,i0≤i->i+m=n->∃ v,Ev (fun k=>L k i) ((v,a),b)/\(v=true↔e=true/\∀ j,i≤j->j<n->P j):=by
   intro m;induction m with
   | zero => intro i h0 hi;obtain rfl:i=n:=by omega
             exact⟨e,hend,⟨fun h=>⟨h,fun j h1 h2=>by omega⟩,fun h=>h.1⟩⟩
   | succ m ih =>
     intro i h0 hi;obtain⟨v,hv,hv'⟩:=ih (i+1) (by omega) (by omega);rcases hstep i h0 (by omega)with⟨hp,h⟩|⟨hp,h⟩
     . refine⟨v,hv.succ h,hv'.trans ⟨fun⟨h1,h2⟩=>⟨h1,fun j hj hn=>?_⟩,fun⟨h1,h2⟩=>⟨h1,fun j hj hn=>h2 j (by omega) hn⟩⟩⟩;by_cases hij:j=i
       . rw[hij];exact hp
       . exact h2 j (by omega) hn
     . exact⟨false,(Ev.const _).succ h,⟨fun h=>(by cases h),fun⟨_,h2⟩=>absurd (h2 i (zh _) (by omega)) hp⟩⟩
 exact key (n-i) i h0 (by omega)
open Go.Lib (compact compactUpTo compactUpTo_succ keeps)
theorem A3r:∀ {xs ys:List Int},xs.Pairwise (·<·)->ys.Pairwise (·<·)->(∀ s,s∈xs↔s∈ys)->xs=ys
 | [],ys,_,_,h=>by
   cases ys with
   | nil=>rfl
   | cons y ys=>exact absurd ((h y).2 (by simp)) (by simp)
 | x::xs,[],_,_,h=>absurd ((h x).1 (by simp)) (by simp)
 | x :: xs,y::ys,hx,hy,h=>by
   rw[zn]at hx hy;have e:x=y:=by
     have h1:=(h x).1 (by simp);have h2:=(h y).2 (by simp);simp only[zq]at h1 h2;rcases h1 with rfl|h1
     . rfl
     . rcases h2 with rfl|h2
       . rfl
       . have:=hx.1 y h2;have:=hy.1 x h1;omega
   subst e;rw[A3r hx.2 hy.2 fun s=>?_];constructor
   . intro hs;have:=(h s).1 (by simp[hs]);simp only[zq]at this;rcases this with rfl|this
     . have:=hx.1 s hs;omega
     . exact this
   . intro hs;have:=(h s).2 (by simp[hs]);simp only[zq]at this;rcases this with rfl|this
     . have:=hy.1 s hs;omega
     . exact this
theorem A2W (d:Array Int) (hs:∀ i j,i<j->j<d.size->d[i]! ≤ d[j]!):∀ m,m≤d.size->(compactUpTo d m).Pairwise (·<·)/\(∀ x,x∈compactUpTo d m↔∃ j,j<m/\d[j]! = x)/\∀ x∈compactUpTo d m,x≤d[m-1]!
 | 0,_=>⟨by simp[compactUpTo],fun x=>by simp[compactUpTo],fun x hx=>by simp[compactUpTo]at hx⟩
 | m + 1,h=>by
   obtain⟨h1,h2,h3⟩:=A2W d hs m (by omega);have hm:∀ x∈compactUpTo d m,x≤d[m]! := fun x hx=>by
     obtain⟨j,hj,rfl⟩:=(h2 x).1 hx;exact hs j m hj (by omega)
   rw[compactUpTo_succ];by_cases hk:keeps d m=true
   . rw[if_pos hk];have hlt:∀ x∈compactUpTo d m,x<d[m]! := fun x hx=>by
       have hm0:m≠0:=by
         rintro rfl;simp[compactUpTo]at hx
       simp only[keeps,hm0,false_or,decide_eq_true_eq,ne_eq]at hk;have:=h3 x hx;have:=hs (m-1) m (by omega) (by omega);omega
     refine⟨?_,fun x=>?_,fun x hx=>?_⟩
     . rw[List.pairwise_append];exact⟨h1,by simp,fun a ha b hb=>by simp only[zW]at hb;rw[hb];exact hlt a ha⟩
     . rw[zS,h2,zW];constructor
       . rintro(⟨j,hj,rfl⟩|rfl)
         . exact⟨j,by omega,rfl⟩
         . exact⟨m,by omega,rfl⟩
       . rintro⟨j,hj,rfl⟩;by_cases e:j=m
         . subst e;exact .inr rfl
         . exact .inl ⟨j,by omega,rfl⟩
     . simp only[z9];rw[zS,zW]at hx;rcases hx with hx|rfl
       . exact hm x hx
       . exact yM _
   . rw[if_neg hk,yq];have hm0:m≠0/\d[m]! = d[m-1]! := by
       simp only[keeps,decide_eq_true_eq,ne_eq,not_or,Classical.not_not]at hk;exact hk
     refine⟨h1,fun x=>?_,fun x hx=>by simpa using hm x hx⟩;rw[h2];constructor
     . rintro⟨j,hj,rfl⟩;exact⟨j,by omega,rfl⟩
     . rintro⟨j,hj,rfl⟩;by_cases e:j=m
       . subst e;exact⟨j-1,by omega,hm0.2.symm⟩
       . exact⟨j,by omega,rfl⟩
def setI (xs:List Int):List Int:=compact (xs.mergeSort fun x y=>decide (x≤y))
theorem A1p (xs:List Int):(setI xs).Pairwise (·<·)/\∀ x,x∈setI xs↔x∈xs:=by
 obtain⟨ys,hys⟩:∃ ys,ys=xs.mergeSort fun x y=>decide (x≤y):=⟨_,rfl⟩;have hp:ys.Perm xs:=by rw[hys];exact yz _ _
 have hs:ys.Pairwise (fun a b=>decide (a≤b)=true):=by
   rw[hys];refine ym ?_ ?_ _
   . intro a b c h1 h2;simp only[decide_eq_true_eq]at *;omega
   . intro a b;simp only[yQ,decide_eq_true_eq];omega
 have hget:∀ j (hj:j<ys.length),ys.toArray[j]! = ys[j]:=fun j hj=>by rw[getElem!_pos ys.toArray j (by simpa using hj)];simp
 obtain⟨h1,h2,-⟩:=A2W ys.toArray (fun i j hij hj=>by
   have hj':j<ys.length:=by simpa using hj
   have:=zz.1 hs i j (by omega) hj' hij;rw[hget i (by omega),hget j hj'];simpa using this) ys.length (by simp)
 unfold setI;rw[<-hys];refine⟨h1,fun x=>?_⟩;show x∈compactUpTo ys.toArray ys.length↔_;rw[h2,<-hp.mem_iff];constructor
 . rintro⟨j,hj,rfl⟩;rw[hget j hj];exact yL hj
 . intro hx;obtain⟨j,hj,rfl⟩:=zk hx;exact⟨j,hj,hget j hj⟩
theorem Ar5.val (xs:List Int) (h:xs.length≤1048576):Ar5.F (xs,())=some ((),(xs.mergeSort fun x y=>decide (x≤y),())):=by
 unfold Ar5.F b5N;rw[if_pos (show xs.length<_ by omega)]
theorem Ar3.val (xs:List Int) (h:xs.length≤1048576):Ar3.F (xs,())=some ((compact xs,()),()):=by
 unfold Ar3.F b5B;rw[if_pos (show xs.length<_ by omega)]
def putL:List Int->Int->Bool->List Int
 | [],n,b=>if b=true then[]else[n]
 | x::l,n,b=>if b=true then x::putL l n true else if n≤x then(if n<x then n::x::putL l n true else x::putL l n true)else x::putL l n false
theorem A1N (n:Int):∀ l,putL l n true=l
 | []=>rfl
 | x::l=>by simp[putL,A1N n l]
theorem A3e (n:Int):∀ {l:List Int},l.Pairwise (·<·)->(putL l n false).Pairwise (·<·)/\∀ x,x∈putL l n false↔x=n∨x∈l
 | [],_=>⟨by simp[putL],fun x=>by simp[putL]⟩
 | y :: l,h=>by
   rw[zn]at h;obtain⟨h1,h2⟩:=A3e n h.2;simp only[putL,ze,if_false,A1N];by_cases c1:n≤y
   . rw[if_pos c1];by_cases c2:n<y
     . rw[if_pos c2];refine⟨?_,fun x=>by simp⟩;rw[zn,zn];refine⟨fun a ha=>?_,h.1,h.2⟩;simp only[zq]at ha;rcases ha with rfl|ha
       . exact c2
       . have:=h.1 a ha;omega
     . rw[if_neg c2];have:n=y:=by omega
       subst this;exact⟨zn.2 h,fun x=>by simp⟩
   . rw[if_neg c1];refine⟨zn.2 ⟨fun a ha=>?_,h1⟩,fun x=>?_⟩
     . rcases(h2 a).1 ha with rfl|ha
       . omega
       . exact h.1 a ha
     . rw[zq,h2,zq];constructor
       . rintro(h|h|h)
         . exact .inr (.inl h)
         . exact .inl h
         . exact .inr (.inr h)
       . rintro(h|h|h)
         . exact .inr (.inl h)
         . exact .inl h
         . exact .inr (.inr h)
theorem A5c (n:Int) (l:List Int) (b:Bool):(putL l n b).length≤l.length+1:=by
 induction l generalizing b with
 | nil=>simp only[putL];split<;>simp
 | cons x l ih =>
   have h1:=A1N n l;simp only[putL];split
   . rw[h1];simp
   . split
     . split<;>rw[h1]<;>simp
     . have:=ih false;simp only[zf];omega
theorem Am9.val (xs:List Int) (n:Int) (h:xs.length≤1000):Am9.F (xs,n,())=some ((putL xs n false,()),()):=by
 refine Am9.of _ _ ?_;have key:∀ (m i:Nat) (b:Bool) (out:List Int),i+m=xs.length->out.length≤i+b.toNat->Ev (fun k=>Am9.l4 k xs n b (i:Int) out) ((out++putL (xs.drop i) n b,()),()):=by
   intro m;induction m with
   | zero =>
     intro i b out hi ho;have ho1:out.length≤i+1:=by have:=yT b;omega
     have hi:i=xs.length:=by omega
     subst hi;refine(Ev.const _).succ fun k=>?_;rw[Am9.l4_eq,if_neg (by simp),yK];cases b with
     | false=>rw[if_pos (by simp),if_pos (by simp only[zf,zg,bigA];omega)];simp[putL]
     | true=>rw[if_neg (by simp)];simp[putL]
   | succ m ih =>
     intro i b out hi ho;have ho1:out.length≤i+1:=by have:=yT b;omega
     have hlt:i<xs.length:=by omega
     have hd:xs.drop i=xs.getD i 0::xs.drop (i+1):=by rw[zy hlt,A0y hlt]
     have hb1:out.length+([xs.getD i 0]:List Int).length≤bigA:=by simp only[zf,zg,bigA];omega
     have hb2:out.length+([n]:List Int).length≤bigA:=by simp only[zf,zg,bigA];omega
     have hb3:∀ z:Int,(out++[n]).length+([z]:List Int).length≤bigA:=fun z=>by simp only[zv,zf,zg,bigA];omega
     have E:=fun k=>Am9.l4_eq k xs n b (i:Int) out;simp only[if_pos (ltI.2 hlt),if_pos (idxI.2 hlt),za,A0x (show i<4611686018427387904 by omega),if_pos hb1]at E;obtain⟨y,hy⟩:∃ y,y=xs.getD i 0:=⟨_,rfl⟩;rw[<-hy]at hd hb1;simp only[←hy]at E;rw[hd];cases b with
     | true =>
       have:=ih (i+1) true (out++[y]) (by omega) (by simp only[zv,zf,zg,z6,z0]at *;omega);rw[zY]at this;refine Ev.succ this fun k=>?_;rw[E,if_neg (by simp)]
     | false =>
       simp only[Bool.not_false,if_true]at E;by_cases c1:n≤y
       . by_cases c2:n<y
         . have:=ih (i+1) true (out++[n]++[y]) (by omega) (by simp only[zv,zf,zg,z6,z0]at *;omega);have e:out++[n]++[y]++putL (xs.drop (i+1)) n true=out++putL (y::xs.drop (i+1)) n false:=by simp[putL,c1,c2,A1N]
           rw[e]at this;refine Ev.succ this fun k=>?_;rw[E,if_pos (by simpa using c1),if_pos (by simpa using c2),if_pos hb2,if_pos (hb3 _)]
         . have:=ih (i+1) true (out++[y]) (by omega) (by simp only[zv,zf,zg,z6,z0]at *;omega);have e:out++[y]++putL (xs.drop (i+1)) n true=out++putL (y::xs.drop (i+1)) n false:=by simp[putL,c1,c2,A1N]
           rw[e]at this;refine Ev.succ this fun k=>?_;rw[E,if_pos (by simpa using c1),if_neg (by simpa using c2)]
       . have:=ih (i+1) false (out++[y]) (by omega) (by simp only[zv,zf,zg,z6,z0]at *;omega);have e:out++[y]++putL (xs.drop (i+1)) n false=out++putL (y::xs.drop (i+1)) n false:=by simp[putL,c1]
         rw[e]at this;refine Ev.succ this fun k=>?_;rw[E,if_neg (by simpa using c1)]
 exact(key xs.length 0 false [] (by omega) (by simp)).of_eq fun k=>rfl
theorem A3f:∀ (l acc:List Int),acc.Pairwise (·<·)->(l.foldl (fun a n=>putL a n false) acc).Pairwise (·<·)/\∀ x,x∈l.foldl (fun a n=>putL a n false) acc↔x∈acc∨x∈l
 | [],acc,h=>⟨h,fun x=>by simp⟩
 | n :: l,acc,h=>by
   obtain⟨h1,h2⟩:=A3e n h;obtain⟨h3,h4⟩:=A3f l _ h1;refine⟨h3,fun x=>?_⟩;rw[yp,h4,h2,zq];constructor
   . rintro((h|h)|h)
     . exact .inr (.inl h)
     . exact .inl h
     . exact .inr (.inr h)
   . rintro(h|h|h)
     . exact .inl (.inr h)
     . exact .inl (.inl h)
     . exact .inr h
theorem A5A (l:List Int):l.foldl (fun a n=>putL a n false) []=setI l:=by
 obtain⟨h1,h2⟩:=A3f l [] (by simp);obtain⟨h3,h4⟩:=A1p l;exact A3r h1 h3 fun s=>by rw[h2,h4];simp
theorem Aa9.val (n lo hi:Int):Aa9.F (n,lo,hi,())=some ((decide (lo≤n/\n≤hi),()),()):=by
 rw[Aa9.eq,Aa9.T];by_cases h:lo≤n
 . rw[if_pos (by simp[h])];simp[h]
 . rw[if_neg (by simp[h])];simp[h]
theorem Ab9.val (n lo hi:Int):Ab9.F (n,lo,hi,())=some ((decide (lo≤n/\n≤hi),()),()):=by
 rw[Ab9.eq,Ab9.T];by_cases h:lo≤n
 . rw[if_pos (by simp[h])];simp[h]
 . rw[if_neg (by simp[h])];simp[h]
def cmpI (x y:Int):Int:=if x<y then -1 else if x>y then 1 else 0
theorem Ao2.val (x y:Int):Ao2.F (x,y,())=some ((cmpI x y,()),()):=by
 rw[Ao2.eq,Ao2.T,Ao4.eq,Ao4.T,Ao4.eq,Ao4.T];simp only[zb,bne_self_eq_false,ze,if_false,decide_eq_true_eq,cmpI]
 repeat' split
 all_goals rfl
theorem Aj5.val2 (x y:Int):Aj5.F ([x,y],())=some ((if x≠0 then x else y,()),()):=by
 refine Aj5.of _ ⟨3,fun k hk=>?_⟩;obtain⟨k,rfl⟩:∃ j,k=j+1+1+1:=⟨k-3,by omega⟩;show Aj5.T (k+1+1+1) [x,y]=_;rw[Aj5.T,Aj5.l3_eq];by_cases hx:x=0
 . subst hx;simp only[zf,zg];rw[if_pos (by simp),if_pos (by simp),if_neg (by simp),Aj5.l3_eq];simp only[zf,zg];rw[A0q (by omega) (by omega)];rw[if_pos (by simp),if_pos (by simp)];by_cases hy:y=0
   . subst hy;rw[if_neg (by simp),Aj5.l3_eq,A0q (by omega) (by omega),if_neg (by simp)];simp
   . rw[if_pos (by simp[hy])];simp
 . simp only[zf,zg];rw[if_pos (by simp),if_pos (by simp),if_pos (by simp[hx])];simp[hx]
abbrev MatV:=Int×Int×Int×List Int
abbrev ShfV:=List (List Int)×Int×List Int×List MatV
def Sm (xs:List Int):Prop:=xs.length≤1048576
def SmL (xs:List (List Int)):Prop:=xs.length≤1048576/\∀ x∈xs,Sm x
def SmM (m:MatV):Prop:=Sm m.2.2.2
def SmMs (ms:List MatV):Prop:=ms.length≤1048576/\∀ m∈ms,SmM m
def SmSh (s:ShfV):Prop:=SmL s.1/\Sm s.2.2.1/\SmMs s.2.2.2
theorem A5K {α:Type} (L:Nat->Nat->Int->Option ((Int×Unit)×Unit)) (xs:List α) (d:α) (P:α->Prop)
   (hstep:∀ i l,i<xs.length->0≤l->l≤1048576->(∃ r,0≤r/\r≤l/\P (xs.getD i d)/\∀ k,L (k+1) i l=L k (i+1) r)∨∀ k,L (k+1) i l=some ((-1,()),()))
   (hend:∀ k l,L (k+1) xs.length l=some ((l,()),())) (l:Int) (h0:0≤l) (h1:l≤1048576) :
   ∃ r,Ev (fun k=>L k 0 l) ((r,()),())/\(r=-1∨0≤r/\r≤l/\∀ x∈xs,P x):=by
 obtain⟨r,hr,q,rfl,hq⟩:=Ev.loop (σ:=Int) L xs.length (fun i s=>0≤s/\s≤l/\∀ j,j<i->P (xs.getD j d)) (fun r=>∃ q:Int,r=((q,()),())/\(q=-1∨0≤q/\q≤l/\∀ x∈xs,P x))
   (fun i s hi ⟨a,b,c⟩=>by
     rcases hstep i s hi a (by omega)with⟨r,r0,r1,hp,e⟩|e
     . refine .inr ⟨r,⟨r0,by omega,fun j hj=>?_⟩,Goes.succ e⟩;by_cases hji:j=i
       . rw[hji];exact hp
       . exact c j (by omega)
     . exact .inl ⟨_,(Ev.const _).succ e,-1,rfl,.inl rfl⟩)
   (fun s ⟨a,b,c⟩=>⟨_,(Ev.const _).succ fun k=>hend k s,s,rfl,.inr ⟨a,b,fun x hx=>by
     obtain⟨j,hj,rfl⟩:=zk hx;rw[<-A0y (d:=d) hj];exact c j hj⟩⟩) 0 l (zc _) ⟨h0,yM _,fun j hj=>by omega⟩
 exact⟨q,hr,hq⟩
theorem A1B {α:Type} (L:Nat->Nat->Option ((Bool×Unit)×Unit)) (xs ys:List α) (d:α) (hl:xs.length=ys.length)
   (hstep:∀ i,i<xs.length->∃ b:Bool,(b=true↔xs.getD i d=ys.getD i d)/\∀ k,L (k+1) i=if (!b)=true then some ((false,()),())else L k (i+1))
   (hend:∀ k,L (k+1) xs.length=some ((true,()),())):∃ v,Ev (fun k=>L k 0) ((v,()),())/\(v=true↔xs=ys):=by
 obtain⟨v,hv,hv'⟩:=Ev.allP (L:=L) (a:=()) (b:=()) (n:=xs.length) (fun i=>xs.getD i d=ys.getD i d) true (fun i hi=>by
   obtain⟨b,hb,e⟩:=hstep i hi;cases b with
   | true=>exact .inl ⟨hb.1 rfl,fun k=>by rw[e];rfl⟩
   | false=>exact .inr ⟨fun h=>absurd (hb.2 h) (by simp),fun k=>by rw[e];rfl⟩) ((Ev.const _).succ hend) 0 (zc _)
 refine⟨v,hv,hv'.trans ⟨fun⟨_,h⟩=>?_,fun h=>⟨rfl,fun j _ _=>by rw[h]⟩⟩⟩;refine zG hl fun i h1 h2=>?_;have:=h i (zc _) h1
 rwa [A0y h1,A0y h2]at this
theorem idx2 {i n:Nat} (h:i<n):0≤(i:Int)/\(i:Int)<(n:Int):=by omega
def lexc:List Int->List Int->Int
 | [],[]=>0
 | [],_::_=>-1
 | _::_,[]=>1
 | a::u,b::v=>if cmpI a b≠0 then cmpI a b else lexc u v
theorem A0G (x y:Int):(x<y/\cmpI x y=-1)∨(x=y/\cmpI x y=0)∨(y<x/\cmpI x y=1):=by
 unfold cmpI;by_cases h:x<y
 . exact .inl ⟨h,if_pos h⟩
 . by_cases h2:x>y
   . exact .inr (.inr ⟨h2,by rw[if_neg h,if_pos h2]⟩)
   . exact .inr (.inl ⟨by omega,by rw[if_neg h,if_neg h2]⟩)
theorem A3X:∀ (a b:List Int),lexc a b=0↔a=b
 | [],[]=>by simp[lexc]
 | [],_::_=>by simp[lexc]
 | _::_,[]=>by simp[lexc]
 | a::u,b::v=>by
   rcases A0G a b with⟨h,e⟩|⟨h,e⟩|⟨h,e⟩
   . simp[lexc,e];intro h';omega
   . subst h;simp[lexc,e,A3X u v]
   . simp[lexc,e];intro h';omega
theorem A2t:∀ (a b c:List Int),lexc a b<0->lexc b c<0->lexc a c<0
 | [],[],c,h1,_=>by simp[lexc]at h1
 | [],_::_,[],_,h2=>by simp[lexc]at h2
 | [],_::_,_::_,_,_=>by simp[lexc]
 | _::_,[],c,h1,_=>by simp[lexc]at h1
 | _::_,_::_,[],_,h2=>by simp[lexc]at h2
 | a::u,b::v,c::w,h1,h2=>by
   have ih:=A2t u v w;simp only[lexc]at h1 h2 ⊢;rcases A0G a b with⟨g1,e1⟩|⟨g1,e1⟩|⟨g1,e1⟩<;>rcases A0G b c with⟨g2,e2⟩|⟨g2,e2⟩|⟨g2,e2⟩<;>rcases A0G a c with⟨g3,e3⟩|⟨g3,e3⟩|⟨g3,e3⟩<;>simp[e1,e2,e3]at h1 h2 ⊢<;>first|omega|exact ih h1 h2
def cmpS (a b:List Int):Int:=if cmpI a.length b.length≠0 then cmpI a.length b.length else lexc a b
theorem A0a (a b:List Int):cmpS a b=0↔a=b:=by
 unfold cmpS;rcases A0G a.length b.length with⟨h,e⟩|⟨h,e⟩|⟨h,e⟩
 . simp[e];intro h';rw[h']at h;omega
 . simp[e,A3X]
 . simp[e];intro h';rw[h']at h;omega
theorem A1y (a b c:List Int) (h1:cmpS a b<0) (h2:cmpS b c<0):cmpS a c<0:=by
 unfold cmpS at *;rcases A0G a.length b.length with⟨g1,e1⟩|⟨g1,e1⟩|⟨g1,e1⟩<;>rcases A0G b.length c.length with⟨g2,e2⟩|⟨g2,e2⟩|⟨g2,e2⟩<;>rcases A0G a.length c.length with⟨g3,e3⟩|⟨g3,e3⟩|⟨g3,e3⟩<;>simp[e1,e2,e3]at h1 h2 ⊢<;>first|omega|exact A2t a b c h1 h2
theorem A2p {a b:List Int} (h:a.length<b.length):cmpS a b<0:=by
 unfold cmpS;rcases A0G a.length b.length with⟨g,e⟩|⟨g,e⟩|⟨g,e⟩
 . simp[e]
 . omega
 . omega
theorem Ao1.val (x y:Int):Ao1.F (x,y,())=some ((cmpI x y,()),()):=by
 rw[Ao1.eq,Ao1.T,Ao3.eq,Ao3.T,Ao3.eq,Ao3.T];simp only[zb,bne_self_eq_false,ze,if_false,decide_eq_true_eq,cmpI]
 repeat' split
 all_goals rfl
theorem A3W {a b:List Int} {i:Nat} (ha:i<a.length) (hb:i<b.length):lexc (a.drop i) (b.drop i)=if cmpI (a.getD i 0) (b.getD i 0)≠0 then cmpI (a.getD i 0) (b.getD i 0)else lexc (a.drop (i+1)) (b.drop (i+1)):=by
 rw[zy ha,zy hb,A0y ha,A0y hb];rfl
theorem Al0.val (a b:List Int) (ha:a.length≤1048576) (hb:b.length≤1048576):Al0.F (a,b,())=some ((lexc a b,()),()):=by
 obtain⟨r,hr,hq⟩:=Ev.loop (σ:=Unit) (R:=(Int×Unit)×Unit) (fun k i _=>Al0.l2 k a b a a.length (i:Int)) a.length (fun i _=>i≤b.length/\lexc a b=lexc (a.drop i) (b.drop i)) (fun r=>r=((lexc a b,()),()))
   (fun i s hi ⟨h1,h2⟩=>by
     have E:=fun k=>Al0.l2_eq k a b a a.length (i:Int);simp only[if_pos (ltI.2 hi),if_pos (idxI.2 hi),za,A0x (show i<4611686018427387904 by omega)]at E;by_cases hib:i<b.length
     . simp only[if_neg (show ¬ decide ((i:Int)≥(b.length:Int))=true by simp;omega),if_pos (idxI.2 hib),Ao2.val,zb]at E;have hd:=A3W hi hib;obtain⟨cc,hcc⟩:∃ cc,cmpI (a.getD i 0) (b.getD i 0)=cc:=⟨_,rfl⟩;rw[hcc]at hd;simp only[hcc]at E;by_cases hc:cc=0
       . refine .inr ⟨(),⟨by omega,by rw[h2,hd,if_neg (by simp[hc])]⟩,Goes.succ fun k=>by rw[E,if_neg (by simp[hc])]⟩
       . exact .inl ⟨_,(Ev.const _).succ fun k=>by rw[E,if_pos (by simp[hc])],by rw[h2,hd,if_pos hc]⟩
     . refine .inl ⟨_,(Ev.const _).succ fun k=>by rw[E,if_pos (by simp;omega)],?_⟩;rw[h2,zy hi,zB (show b.length≤i by omega)];rfl)
   (fun s ⟨h1,h2⟩=>by
     by_cases hl:a.length<b.length
     . refine⟨_,(Ev.const _).succ fun k=>by rw[Al0.l2_eq,if_neg (by simp),if_pos (by simp;omega)],?_⟩;rw[h2,zB (zh _),zy hl];rfl
     . refine⟨_,(Ev.const _).succ fun k=>by rw[Al0.l2_eq,if_neg (by simp),if_neg (by simp;omega)],?_⟩;rw[h2,zB (zh _),zB (by omega)];rfl) 0 () (zc _) ⟨zc _,rfl⟩
 subst hq;exact Al0.of _ _ (hr.of_eq fun k=>rfl)
theorem Ad3.val (a b:List Int) (ha:a.length≤1048576) (hb:b.length≤1048576):Ad3.F (a,b,())=some ((cmpS a b,()),()):=by
 rw[Ad3.eq,Ad3.T,Ao1.val,Al0.val a b ha hb];simp only[zb,Aj5.val2,cmpS]
theorem Aj3.val (a b:List Int) (ha:a.length≤1048576):Aj3.F (a,b,())=some ((decide (cmpS a b<0),()),()):=by
 by_cases hl:a.length=b.length
 . obtain⟨r,hr,hq⟩:=Ev.loop (σ:=Unit) (R:=(Bool×Unit)×Unit) (fun k i _=>Aj3.l4 k a b (i:Int)) a.length (fun i _=>lexc a b=lexc (a.drop i) (b.drop i)) (fun r=>r=((decide (lexc a b<0),()),()))
     (fun i s hi h2=>by
       have hib:i<b.length:=by omega
       have E:=fun k=>Aj3.l4_eq k a b (i:Int);simp only[if_pos (ltI.2 hi),if_pos (idxI.2 hi),if_pos (idxI.2 hib),za,A0x (show i<4611686018427387904 by omega)]at E;have hd:=A3W hi hib;obtain⟨ai,hai⟩:∃ ai,a.getD i 0=ai:=⟨_,rfl⟩;obtain⟨bi,hbi⟩:∃ bi,b.getD i 0=bi:=⟨_,rfl⟩;rw[hai,hbi]at hd;simp only[hai,hbi]at E;rcases A0G ai bi with⟨g,e⟩|⟨g,e⟩|⟨g,e⟩
       . refine .inl ⟨_,(Ev.const _).succ fun k=>by rw[E,if_pos (by simp;omega)],?_⟩;rw[h2,hd,if_pos (by rw[e];omega),e];simp[g]
       . exact .inr ⟨(),by rw[h2,hd,if_neg (by rw[e];simp)],Goes.succ fun k=>by rw[E,if_neg (by simp[g])]⟩
       . refine .inl ⟨_,(Ev.const _).succ fun k=>by rw[E,if_pos (by simp;omega)],?_⟩;rw[h2,hd,if_pos (by rw[e];omega),e];simp;omega)
     (fun s h2=>⟨_,(Ev.const _).succ fun k=>by rw[Aj3.l4_eq,if_neg (by simp)],by rw[h2,zB (zh _),zB (by omega)];rfl⟩) 0 () (zc _) rfl
   subst hq;refine Aj3.of _ _ (hr.of_eq fun k=>?_) |>.trans ?_
   . rw[Aj3.T,if_neg (by simp[hl])];rfl
   . have:cmpS a b=lexc a b:=by
       unfold cmpS;rcases A0G a.length b.length with⟨g,e⟩|⟨g,e⟩|⟨g,e⟩
       . omega
       . simp[e]
       . omega
     rw[this]
 . have:decide (cmpS a b<0)=decide ((a.length:Int)<(b.length:Int)):=by
     unfold cmpS;rcases A0G a.length b.length with⟨g,e⟩|⟨g,e⟩|⟨g,e⟩
     . simp[e];omega
     . omega
     . simp[e];omega
   rw[this];exact Aj3.of _ _ ((Ev.const _).of_eq fun k=>by rw[Aj3.T,if_pos (by simp;omega)])
def A0V (xs:List (List Int)):Prop:=∀ i j,i<j->j<xs.length->cmpS (xs.getD i []) (xs.getD j [])<0
theorem A3x {xs:List (List Int)} (h:∀ i,0<i->i<xs.length->cmpS (xs.getD (i-1) []) (xs.getD i [])<0):A0V xs:=by
 intro i j;induction j with
 | zero=>intro h1;omega
 | succ j ih =>
   intro h1 h2;have h3:=h (j+1) (by omega) h2;simp only[z9]at h3;by_cases hij:i=j
   . rw[hij];exact h3
   . exact A1y _ _ _ (ih (by omega) (by omega)) h3
theorem wrapU {x:Int} (h1:0≤x) (h2:x<18446744073709551616):IntKind.u64.wrap x=x:=by
 have e:(2:Int) ^ (IntKind.u64).bits=18446744073709551616:=by decide
 unfold IntKind.wrap;simp only[e,show IntKind.u64.signed=false from rfl,Bool.false_and,ze,if_false];omega
theorem midI {i j:Nat} (h:i+j<4611686018427387904):zi.wrap ((IntKind.u64.wrap (zi.wrap ((i:Int)+(j:Int)))).fdiv (2 ^ (min (1:Int).toNat IntKind.u64.bits)))=(((i+j)/2:Nat):Int):=by
 rw[A0q (x:=(i:Int)+(j:Int)) (by omega) (by omega),wrapU (by omega) (by omega)];have e:(2:Int) ^ (min (1:Int).toNat IntKind.u64.bits)=((2:Nat):Int):=by decide
 rw[e,show(i:Int)+(j:Int)=((i+j:Nat):Int)by omega,<-Int.ofNat_fdiv,A0q (by omega) (by omega)]
theorem binSearch.val (xs:List (List Int)) (t:List Int) (hs:A0V xs) (h1:SmL xs) (h2:t.length≤1048576) :
   ∃ r:Int,∃ b:Bool,Aq6.F (xs,t,Ad3.cloG (()),())=some ((r,(b,())),())/\0≤r/\(b=true↔t∈xs)/\(b=true->r.toNat<xs.length/\xs.getD r.toNat []=t):=by
 have hn:=h1.1;have hcmp:∀ i,i<xs.length->Ad3.cloG (()) (xs.getD i [],t,())=some (cmpS (xs.getD i []) t,()):=fun i hi=>by
   show(Ad3.F (xs.getD i [],t,())).map (·.1)=_;rw[Ad3.val _ _ (h1.2 _ (A0z _ hi)) h2];rfl
 have key:∀ d i j:Nat,j-i≤d->i≤j->j≤xs.length->(∀ m,m<i->cmpS (xs.getD m []) t<0)->(∀ m,j≤m->m<xs.length->¬ cmpS (xs.getD m []) t<0) →
     ∃ r:Int,∃ b:Bool,Ev (fun k=>Aq6.l3 k xs t (Ad3.cloG (())) xs.length (i:Int) (j:Int)) ((r,(b,())),())/\0≤r/\(b=true↔t∈xs)/\(b=true->r.toNat<xs.length/\xs.getD r.toNat []=t):=by
   intro d;induction d with
   | zero =>
     intro i j hd hij hj hlo hhi;obtain rfl:i=j:=by omega
     have E:=fun k=>Aq6.l3_eq k xs t (Ad3.cloG (())) xs.length (i:Int) (i:Int);simp only[if_neg (show ¬ decide ((i:Int)<(i:Int))=true by simp)]at E;by_cases hi:i<xs.length
     . simp only[if_pos (ltI.2 hi),if_pos (idxI.2 hi),za,hcmp i hi,zb]at E;refine⟨_,_,(Ev.const _).succ E,by omega,?_,fun hb=>?_⟩
       rotate_left
       . simp only[beq_iff_eq,A0a]at hb;rw[za];exact⟨hi,hb⟩
       simp only[beq_iff_eq,A0a];refine⟨fun h=>h▸A0z [] hi,fun h=>?_⟩;obtain⟨m,hm,e⟩:=zk h;have e':xs.getD m []=t:=by rw[A0y hm];exact e
       rcases yd m i with h3|h3|h3
       . have:=hlo m h3;rw[e',(A0a t t).2 rfl]at this;omega
       . rw[<-h3];exact e'
       . have:=hs i m h3 hm;rw[e']at this;exact absurd this (hhi i (zh _) hi)
     . simp only[if_neg (show ¬ decide ((i:Int)<(xs.length:Int))=true by simp;omega)]at E;refine⟨_,_,(Ev.const _).succ E,by omega,?_,fun hb=>by cases hb⟩;simp only[ze,false_iff];intro h;obtain⟨m,hm,e⟩:=zk h;have e':xs.getD m []=t:=by rw[A0y hm];exact e
       have:=hlo m (by omega);rw[e',(A0a t t).2 rfl]at this;omega
   | succ d ih =>
     intro i j hd hij hj hlo hhi;by_cases he:i=j
     . exact ih i j (by omega) hij hj hlo hhi
     have E:=fun k=>Aq6.l3_eq k xs t (Ad3.cloG (())) xs.length (i:Int) (j:Int);have hm:(i+j)/2<xs.length:=by omega
     simp only[if_pos (show decide ((i:Int)<(j:Int))=true by simp;omega),if_neg (show ¬ (1:Int)<0 by omega),midI (show i+j<4611686018427387904 by omega),if_pos (idxI.2 hm),za,hcmp _ hm,zb,A0x (show(i+j)/2<4611686018427387904 by omega)]at E;by_cases hc:cmpS (xs.getD ((i+j)/2) []) t<0
     . obtain⟨r,b,hr,h⟩:=ih ((i+j)/2+1) j (by omega) (by omega) hj (fun m hm2=>by
         by_cases h3:m=(i+j)/2
         . rw[h3];exact hc
         . exact A1y _ _ _ (hs m ((i+j)/2) (by omega) hm) hc) hhi
       exact⟨r,b,hr.succ fun k=>by rw[E,if_pos (by simpa using hc)],h⟩
     . obtain⟨r,b,hr,h⟩:=ih i ((i+j)/2) (by omega) (by omega) (by omega) hlo (fun m hm2 hm3 h4=>by
         by_cases h3:m=(i+j)/2
         . rw[h3]at h4;exact hc h4
         . exact hc (A1y _ _ _ (hs ((i+j)/2) m (by omega) hm3) h4))
       exact⟨r,b,hr.succ fun k=>by rw[E,if_neg (by simpa using hc)],h⟩
 obtain⟨r,b,hr,h⟩:=key xs.length 0 xs.length (by omega) (zc _) (zh _) (fun m hm=>by omega) (fun m h3 h4=>by omega);exact⟨r,b,Aq6.of _ _ _ (hr.of_eq fun k=>rfl),h⟩
theorem Ab3.val (xs:List (List Int)) (t:List Int) (hs:A0V xs) (h1:SmL xs) (h2:t.length≤1048576):∃ r:Int,Ab3.F (xs,t,())=some ((r,()),())/\(r<0↔t∉xs):=by
 obtain⟨r,b,hr,h3,h4,-⟩:=binSearch.val xs t hs h1 h2;rw[Ab3.eq,Ab3.T,hr];simp only[zb];cases b with
 | true=>exact⟨r,by rw[if_neg (by simp)],by simp[h4.1 rfl];omega⟩
 | false=>exact⟨-1,by rw[if_pos (by simp)],by simp;intro h;exact absurd (h4.2 h) (by simp)⟩
theorem A1W {xs:List (List Int)} (hs:A0V xs) {i j:Nat} (hi:i<xs.length) (hj:j<xs.length) (h:xs.getD i []=xs.getD j []):i=j:=by
 rcases yd i j with h1|h1|h1
 . have:=hs i j h1 hj;rw[h,(A0a _ _).2 rfl]at this;omega
 . exact h1
 . have:=hs j i h1 hi;rw[h,(A0a _ _).2 rfl]at this;omega
theorem Ab3.val2 (xs:List (List Int)) (j:Nat) (hj:j<xs.length) (hs:A0V xs) (h1:SmL xs):Ab3.F (xs,xs.getD j [],())=some (((j:Int),()),()):=by
 obtain⟨r,b,hr,h3,h4,h5⟩:=binSearch.val xs (xs.getD j []) hs h1 (h1.2 _ (A0z _ hj));have hb:b=true:=h4.2 (A0z _ hj);obtain⟨h6,h7⟩:=h5 hb;have:=A1W hs h6 hj h7;rw[Ab3.eq,Ab3.T,hr,hb];simp only[zb,zK,ze,if_false];rw[show r=(j:Int)by omega]
theorem Ah2.val (xs:List (List Int)) (f:List Int×Unit->Option (Bool×Unit)) (p:List Int->Bool) (hf:∀ x∈xs,f (x,())=some (p x,())) (hn:xs.length<4611686018427387904) :
   ∃ r:Int,Ah2.F (xs,f,())=some ((r,()),())/\((r=-1/\∀ x∈xs,p x=false)∨∃ j:Nat,j<xs.length/\r=j/\p (xs.getD j [])=true/\∀ i,i<j->p (xs.getD i [])=false):=by
 obtain⟨r,hr,hq⟩:=Ev.loop (σ:=Unit) (R:=(Int×Unit)×Unit) (fun k i _=>Ah2.l2 k xs f xs.length (i:Int)) xs.length (fun i _=>∀ j,j<i->p (xs.getD j [])=false)
   (fun r=>∃ v:Int,r=((v,()),())/\((v=-1/\∀ x∈xs,p x=false)∨∃ j:Nat,j<xs.length/\v=j/\p (xs.getD j [])=true/\∀ i,i<j->p (xs.getD i [])=false))
   (fun i s hi hI=>by
     have E:=fun k=>Ah2.l2_eq k xs f xs.length (i:Int);simp only[if_pos (ltI.2 hi),if_pos (idxI.2 hi),za,hf _ (A0z [] hi),zb,A0x (show i<4611686018427387904 by omega)]at E;cases hp:p (xs.getD i [])with
     | true=>exact .inl ⟨_,(Ev.const _).succ fun k=>by rw[E,if_pos hp],i,rfl,.inr ⟨i,hi,rfl,hp,hI⟩⟩
     | false =>
       refine .inr ⟨(),fun j hj=>?_,Goes.succ fun k=>by rw[E,if_neg (by rw[hp];simp)]⟩;by_cases hji:j=i
       . rw[hji];exact hp
       . exact hI j (by omega))
   (fun s hI=>⟨_,(Ev.const _).succ fun k=>by rw[Ah2.l2_eq,if_neg (by simp)],-1,rfl,.inl ⟨rfl,fun x hx=>by
     obtain⟨j,hj,rfl⟩:=zk hx;rw[<-A0y (d:=[]) hj];exact hI j hj⟩⟩) 0 () (zc _) (by intro j hj;omega)
 obtain⟨v,rfl,hv⟩:=hq;exact⟨v,Ah2.of _ _ (hr.of_eq fun k=>rfl),hv⟩
theorem Ao0.val (xs:List (List Int)) (f:List Int×Unit->Option (Bool×Unit)) (p:List Int->Bool) (hf:∀ x∈xs,f (x,())=some (p x,())) (hn:xs.length<4611686018427387904) :
   Ao0.F (xs,f,())=some ((xs.any p,()),()):=by
 obtain⟨r,hr,h⟩:=Ah2.val xs f p hf hn;rw[Ao0.eq,Ao0.T,hr];simp only[zb];rcases h with⟨rfl,h⟩|⟨j,hj,rfl,hp,-⟩
 . have:xs.any p=false:=by simp only[zL];intro x hx;simp[h x hx]
   rw[this];rfl
 . have:xs.any p=true:=z3.2 ⟨_,A0z [] hj,hp⟩;rw[this];simp
theorem Ah3.val (xs:List Int) (f:Int×Unit->Option (Bool×Unit)) (p:Int->Bool) (hf:∀ x∈xs,f (x,())=some (p x,())) (hn:xs.length<4611686018427387904) :
   ∃ r:Int,Ah3.F (xs,f,())=some ((r,()),())/\((r=-1/\∀ x∈xs,p x=false)∨∃ j:Nat,j<xs.length/\r=j/\p (xs.getD j 0)=true/\∀ i,i<j->p (xs.getD i 0)=false):=by
 obtain⟨r,hr,hq⟩:=Ev.loop (σ:=Unit) (R:=(Int×Unit)×Unit) (fun k i _=>Ah3.l2 k xs f xs.length (i:Int)) xs.length (fun i _=>∀ j,j<i->p (xs.getD j 0)=false)
   (fun r=>∃ v:Int,r=((v,()),())/\((v=-1/\∀ x∈xs,p x=false)∨∃ j:Nat,j<xs.length/\v=j/\p (xs.getD j 0)=true/\∀ i,i<j->p (xs.getD i 0)=false))
   (fun i s hi hI=>by
     have E:=fun k=>Ah3.l2_eq k xs f xs.length (i:Int);simp only[if_pos (ltI.2 hi),if_pos (idxI.2 hi),za,hf _ (A0z 0 hi),zb,A0x (show i<4611686018427387904 by omega)]at E;cases hp:p (xs.getD i 0)with
     | true=>exact .inl ⟨_,(Ev.const _).succ fun k=>by rw[E,if_pos hp],i,rfl,.inr ⟨i,hi,rfl,hp,hI⟩⟩
     | false =>
       refine .inr ⟨(),fun j hj=>?_,Goes.succ fun k=>by rw[E,if_neg (by rw[hp];simp)]⟩;by_cases hji:j=i
       . rw[hji];exact hp
       . exact hI j (by omega))
   (fun s hI=>⟨_,(Ev.const _).succ fun k=>by rw[Ah3.l2_eq,if_neg (by simp)],-1,rfl,.inl ⟨rfl,fun x hx=>by
     obtain⟨j,hj,rfl⟩:=zk hx;rw[<-A0y (d:=0) hj];exact hI j hj⟩⟩) 0 () (zc _) (by intro j hj;omega)
 obtain⟨v,rfl,hv⟩:=hq;exact⟨v,Ah3.of _ _ (hr.of_eq fun k=>rfl),hv⟩
theorem Ad6.val (xs:List Int) (f:Int×Unit->Option (Bool×Unit)) (p:Int->Bool) (hf:∀ x∈xs,f (x,())=some (p x,())) (hn:xs.length<4611686018427387904) :
   Ad6.F (xs,f,())=some ((xs.any p,()),()):=by
 obtain⟨r,hr,h⟩:=Ah3.val xs f p hf hn;rw[Ad6.eq,Ad6.T,hr];simp only[zb];rcases h with⟨rfl,h⟩|⟨j,hj,rfl,hp,-⟩
 . have:xs.any p=false:=by simp only[zL];intro x hx;simp[h x hx]
   rw[this];rfl
 . have:xs.any p=true:=z3.2 ⟨_,A0z 0 hj,hp⟩;rw[this];simp
def A1b (xs:List Int):Prop:=∀ i,0<i->i<xs.length->xs.getD (i-1) 0<xs.getD i 0
def A0I (lo hi:Int) (xs:List Int):Prop:=∀ a∈xs,lo≤a/\a≤hi
theorem allIn_iff {lo hi:Int} {xs:List Int}:A0I lo hi xs↔∀ i,i<xs.length->lo≤xs.getD i 0/\xs.getD i 0≤hi:=by
 refine⟨fun h i hi=>h _ (A0z 0 hi),fun h a ha=>?_⟩;obtain⟨j,hj,rfl⟩:=zk ha;have:=h j hj
 rwa [A0y hj]at this
theorem An0.val (xs:List Int) (lo hi:Int) (hn:xs.length<4611686018427387904):∃ v,An0.F (xs,lo,hi,())=some ((v,()),())/\(v=true↔A0I lo hi xs/\A1b xs):=by
 obtain⟨v,hv,hv'⟩:=Ev.allP (L:=fun k i=>An0.l2 k xs lo hi (i:Int)) (a:=()) (b:=()) (n:=xs.length) (fun i=>(lo≤xs.getD i 0/\xs.getD i 0≤hi)/\(0<i->xs.getD (i-1) 0<xs.getD i 0)) true (fun i hi2=>by
   have E:=fun k=>An0.l2_eq k xs lo hi (i:Int);simp only[if_pos (ltI.2 hi2),if_pos (idxI.2 hi2),za,Aa9.val,zb,A0x (show i<4611686018427387904 by omega)]at E;by_cases h:lo≤xs.getD i 0/\xs.getD i 0≤hi
   . simp only[decide_eq_true h,zK,ze,if_false]at E;by_cases h0:0<i
     . have h1:i-1<xs.length:=by omega
       simp only[if_pos (show decide ((i:Int)>0)=true by simp;omega),A4h h0 (show i<4611686018427387904 by omega),if_pos (idxI.2 h1),za]at E;by_cases h2:xs.getD (i-1) 0<xs.getD i 0
       . exact .inl ⟨⟨h,fun _=>h2⟩,fun k=>by rw[E,if_neg (by simp only[decide_eq_true_eq];omega)]⟩
       . exact .inr ⟨fun hh=>h2 (hh.2 h0),fun k=>by rw[E,if_pos (by simp only[decide_eq_true_eq];omega)]⟩
     . exact .inl ⟨⟨h,fun h1=>absurd h1 h0⟩,fun k=>by rw[E,if_neg (by simp only[decide_eq_true_eq];omega)]⟩
   . exact .inr ⟨fun hh=>h hh.1,fun k=>by rw[E,if_pos (by rw[decide_eq_false h];rfl)]⟩) ((Ev.const _).succ fun k=>by rw[An0.l2_eq,if_neg (by simp)]) 0 (zc _)
 refine⟨v,An0.of _ _ _ (hv.of_eq fun k=>rfl),hv'.trans ?_⟩;rw[allIn_iff];exact⟨fun⟨_,h⟩=>⟨fun i hi=>(h i (zc _) hi).1,fun i h0 hi=>(h i (zc _) hi).2 h0⟩,fun⟨h1,h2⟩=>⟨rfl,fun i _ hi=>⟨h1 i hi,fun h0=>h2 i h0 hi⟩⟩⟩
theorem Ai6.val (xs:List Int) (hn:xs.length<4611686018427387904):∃ v,Ai6.F (xs,())=some ((v,()),())/\(v=true↔A1b xs):=by
 by_cases hz:xs.length=0
 . exact⟨true,Ai6.of _ (((Ev.const _).succ fun k=>by rw[Ai6.T,Ai6.l2_eq,if_neg (by simp[hz])]).of_eq fun k=>rfl),by simp;intro i h1 h2;omega⟩
 obtain⟨v,hv,hv'⟩:=Ev.allF (L:=fun k i=>Ai6.l2 k xs (i:Int)) (a:=()) (b:=()) (n:=xs.length) (fun i=>0<i->xs.getD (i-1) 0<xs.getD i 0) true 1 (fun i h0 hi2=>by
   have E:=fun k=>Ai6.l2_eq k xs (i:Int);have h0:0<i:=h0
   . have h1:i-1<xs.length:=by omega
     simp only[if_pos (ltI.2 hi2),if_pos (idxI.2 hi2),za,A0x (show i<4611686018427387904 by omega),A4h h0 (show i<4611686018427387904 by omega),if_pos (idxI.2 h1)]at E;by_cases h2:xs.getD (i-1) 0<xs.getD i 0
     . exact .inl ⟨fun _=>h2,fun k=>by rw[E,if_neg (by simp only[decide_eq_true_eq];omega)]⟩
     . exact .inr ⟨fun hh=>h2 (hh h0),fun k=>by rw[E,if_pos (by simp only[decide_eq_true_eq];omega)]⟩) ((Ev.const _).succ fun k=>by rw[Ai6.l2_eq,if_neg (by simp)]) 1 (zh _) (by omega)
 refine⟨v,Ai6.of _ (hv.of_eq fun k=>rfl),hv'.trans ?_⟩;exact⟨fun⟨_,h⟩ i h0 hi=>h i h0 hi h0,fun h=>⟨rfl,fun i _ hi h0=>h i h0 hi⟩⟩
theorem Ah9.same (xs ys:List Int) (h:Sm xs):∃ b,Ah9.F (xs,ys,())=some ((b,()),())/\(b=true↔xs=ys):=by
 have hn:xs.length≤1048576:=h;by_cases hl:xs.length=ys.length
 . obtain⟨b,hb,hb'⟩:=A1B (fun k i=>Ah9.l4 k xs ys (i:Int)) xs ys 0 hl (fun i hi=>⟨xs.getD i 0==ys.getD i 0,by simp,fun k=>by
     rw[Ah9.l4_eq,if_pos (ltI.2 hi),if_pos (idxI.2 hi),if_pos (idx2 (hl▸hi))];simp only[za];rw[A0x (by omega)];rfl⟩) (fun k=>by rw[Ah9.l4_eq,if_neg (by simp)])
   exact⟨b,Ah9.of _ _ (hb.of_eq fun k=>by rw[Ah9.T,if_neg (by simp[hl])];rfl),hb'⟩
 . exact⟨false,Ah9.of _ _ ((Ev.const _).of_eq fun k=>by rw[Ah9.T,if_pos (by simp;omega)]),by simp;intro e;exact hl (by rw[e])⟩
def A0E (s:List Int) (k:Nat):List Int:=s.take k++s.drop (k+1)
theorem A0O {s:List Int} {k:Nat} (h:k<s.length):(A0E s k).length=s.length-1:=by simp[A0E];omega
def A2C (s:List Int):Prop:=(1≤s.length/\s.length≤4)/\A0I 0 9 s/\A1b s
def CplxOk (c:List (List Int)):Prop:=c.length≤48/\∀ i,i<c.length->A2C (c.getD i [])/\(0<i->cmpS (c.getD (i-1) []) (c.getD i [])<0)/\(1<(c.getD i []).length->∀ k,k<(c.getD i []).length->A0E (c.getD i []) k∈c)
theorem CplxOk.sorted {c:List (List Int)} (h:CplxOk c):A0V c:=A3x fun i h0 hi=>(h.2 i hi).2.1 h0
theorem CplxOk.small {c:List (List Int)} (h:CplxOk c):SmL c:=⟨by have:=h.1;omega,fun x hx=>by
 obtain⟨j,hj,rfl⟩:=zk hx;have:=(h.2 j hj).1.1.2;rw[A0y hj]at this;unfold Sm;omega⟩
theorem Aa0.val (c:List (List Int)) (s:List Int) (h:SmL c):∃ r:Int,Aa0.F (c,s,())=some ((r,()),())/\(r<0↔s∉c):=by
 have hn:=h.1;obtain⟨v,hv,r,hv',hr⟩:=Ev.loop (σ:=Unit) (R:=(Int×Unit)×Unit) (fun k i _=>Aa0.l2 k c s (i:Int)) c.length (fun i _=>∀ j,j<i->c.getD j []≠s) (fun v=>∃ r:Int,v=((r,()),())/\(r<0↔s∉c))
   (fun i _ hi hI=>by
     have E:=fun k=>Aa0.l2_eq k c s (i:Int);obtain⟨b,hb,hb'⟩:=Ah9.same (c.getD i []) s (h.2 _ (A0z _ hi));simp only[if_pos (ltI.2 hi),if_pos (idxI.2 hi),za,hb,zb,A0x (show i<4611686018427387904 by omega)]at E;cases b with
     | true =>
       have hm:s∈c:=hb'.1 rfl▸A0z [] hi;exact .inl ⟨_,(Ev.const _).succ fun k=>by rw[E,if_pos rfl],_,rfl,by simp[hm]⟩
     | false =>
       refine .inr ⟨(),fun j hj=>?_,Goes.succ fun k=>by rw[E,if_neg (by simp)]⟩;by_cases hji:j=i
       . rw[hji];exact fun e=>absurd (hb'.2 e) (by simp)
       . exact hI j (by omega))
   (fun _ hI=>⟨_,(Ev.const _).succ fun k=>by rw[Aa0.l2_eq,if_neg (by simp)],_,rfl,by
     have:s∉c:=fun hm=>by
       obtain⟨j,hj,e⟩:=zk hm;exact hI j hj (by rw[A0y hj];exact e)
     simp[this]⟩) 0 () (zc _) (by intro j hj;omega)
 subst hv';exact⟨r,Aa0.of _ _ (hv.of_eq fun k=>rfl),hr⟩
theorem Aa0.val2 (c:List (List Int)) (n:Nat) (hn:n<c.length) (hs:A0V c) (h:SmL c):Aa0.F (c,c.getD n [],())=some (((n:Int),()),()):=by
 have hl:=h.1;obtain⟨v,hv,hv'⟩:=Ev.loop (σ:=Unit) (R:=(Int×Unit)×Unit) (fun k i _=>Aa0.l2 k c (c.getD n []) (i:Int)) c.length (fun i _=>i≤n) (fun v=>v=(((n:Int),()),()))
   (fun i _ hi hI=>by
     have E:=fun k=>Aa0.l2_eq k c (c.getD n []) (i:Int);obtain⟨b,hb,hb'⟩:=Ah9.same (c.getD i []) (c.getD n []) (h.2 _ (A0z _ hi));simp only[if_pos (ltI.2 hi),if_pos (idxI.2 hi),za,hb,zb,A0x (show i<4611686018427387904 by omega)]at E;cases b with
     | true =>
       have:=A1W hs hi hn (hb'.1 rfl);exact .inl ⟨_,(Ev.const _).succ fun k=>by rw[E,if_pos rfl],by rw[this]⟩
     | false =>
       refine .inr ⟨(),?_,Goes.succ fun k=>by rw[E,if_neg (by simp)]⟩;have:i≠n:=fun e=>absurd (hb'.2 (by rw[e])) (by simp);omega)
   (fun _ hI=>by omega) 0 () (zc _) (zc _)
 subst hv';exact Aa0.of _ _ (hv.of_eq fun k=>rfl)
theorem cutA (s:List Int) (k:Nat):cutL s (0:Int) (k:Int)=s.take k:=by simp[cutL]
theorem cutB (s:List Int) (k:Nat):cutL s ((k:Nat):Int) (s.length:Int)=s.drop k:=by simp[cutL]
theorem Ai1.val (s:List Int) (k:Nat) (hk:k<s.length) (hs:s.length≤1048576):Ai1.F (s,(k:Int),())=some ((A0E s k,()),()):=by
 rw[Ai1.eq,Ai1.T,if_pos (by omega),cutA,Aa3.eq,Aa3.T,if_pos (by simp only[zg,zH,bigA];omega)];simp only[zb];rw[A0x (by omega),if_pos (by omega),cutB,if_pos (by simp only[yR,zH,yN,bigA];omega)];rfl
theorem Aa8.val2 (a b:List Int) (ha:a.length≤1048576) (hb:b.length≤1048576):Aa8.F ([a,b],())=some ((a++b,()),()):=by
 have w1:zi.wrap (0+(a.length:Int))=(a.length:Int):=by rw[A0q (by omega) (by omega)];omega
 have w2:zi.wrap ((a.length:Int)+(b.length:Int))=(a.length:Int)+(b.length:Int):=A0q (by omega) (by omega);have w3:zi.wrap ((0:Int)+1)=1:=A0q (by omega) (by omega);have w4:zi.wrap ((1:Int)+1)=2:=A0q (by omega) (by omega);refine Aa8.of _ ⟨6,fun k hk=>?_⟩;obtain⟨k,rfl⟩:∃ j,k=j+1+1+1+1+1+1:=⟨k-6,by omega⟩;show Aa8.T (k+1+1+1+1+1+1) [a,b]=_;have e0:((([a,b]:List (List Int)).length:Nat):Int)=2:=rfl;rw[Aa8.T,e0,Aa8.l3_eq,if_pos (by decide),if_pos (by rw[e0];decide)];simp only[yS,zQ,w1,w3];rw[if_neg (by simp only[decide_eq_true_eq];omega),Aa8.l3_eq,if_pos (by decide),if_pos (by rw[e0];decide)];simp only[show(1:Int).toNat=1 from rfl,yA,zQ,w2,w4];rw[if_neg (by simp only[decide_eq_true_eq];omega),Aa8.l3_eq,if_neg (by decide),if_pos (by simp only[bigN];omega),e0,Aa8.l11_eq,if_pos (by decide),if_pos (by rw[e0];decide)];simp only[yS,zQ,w3];rw[if_pos (by simp only[zg,bigA];omega),Aa8.l11_eq,if_pos (by decide),if_pos (by rw[e0];decide)];simp only[show(1:Int).toNat=1 from rfl,yA,zQ,w4,yR];rw[if_pos (by simp only[bigA];omega),Aa8.l11_eq,if_neg (by decide)]
def A0U (s:List Int):List (List Int):=if 1<s.length then(zj s.length).map (A0E s)else[]
theorem Ae4.val (s:List Int) (hs:s.length≤1048576):Ae4.F (s,())=some ((A0U s,()),()):=by
 by_cases h1:1<s.length
 . obtain⟨r,hr,hg⟩:=Goes.loop (R:=(List (List Int)×Unit)×Unit) (fun k i (x:List (List Int))=>Ae4.l3 k s s.length (i:Int) x) s.length (fun i x=>x=(zj i).map (A0E s)) (fun i x hi hx=>⟨_,rfl,Goes.succ fun k=>by
     rw[Ae4.l3_eq,if_pos (ltI.2 hi),if_pos (by simp;omega),if_pos (by omega),A0x (by omega),if_pos (by omega),cutA,cutB,Aa8.val2 _ _ (by simp;omega) (by simp;omega)];simp only[zb];rw[if_pos (by rw[hx];simp only[zp,zu,zf,zg,bigA];omega),hx,zt,zm];rfl⟩) 0 [] (zc _) rfl
   have:A0U s=r:=by rw[A0U,if_pos h1,hr]
   rw[this];exact Ae4.of _ ((hg _ ((Ev.const _).succ fun k=>by rw[Ae4.l3_eq,if_neg (by simp)])).of_eq fun k=>rfl)
 . obtain⟨r,hr,hg⟩:=Goes.loop (R:=(List (List Int)×Unit)×Unit) (fun k i (x:List (List Int))=>Ae4.l3 k s s.length (i:Int) x) s.length (fun i x=>x=[]) (fun i x hi hx=>⟨_,hx,Goes.succ fun k=>by
     rw[Ae4.l3_eq,if_pos (ltI.2 hi),if_neg (by simp;omega),A0x (by omega)]⟩) 0 [] (zc _) rfl
   have:A0U s=r:=by rw[A0U,if_neg h1,hr]
   rw[this];exact Ae4.of _ ((hg _ ((Ev.const _).succ fun k=>by rw[Ae4.l3_eq,if_neg (by simp)])).of_eq fun k=>rfl)
theorem Ao9.val (s:List Int) (hs:s.length≤1048576):∃ v,Ao9.F (s,())=some ((v,()),())/\(v=true↔A2C s):=by
 obtain⟨v1,h1,h1'⟩:=Ai6.val s (by omega);have h2:=Ad6.val s (Ar7.cloG (())) (fun a=>!decide (0≤a/\a≤9)) (fun a _=>by
   show(Ar7.F (a,())).map (·.1)=_;rw[Ar7.eq,Ar7.T,As7.eq,As7.T,Ab9.val];rfl) (by omega)
 rw[Ao9.eq,Ao9.T,h1,h2];simp only[zb];unfold A2C;by_cases g1:1≤s.length
 . by_cases g2:s.length≤4
   . rw[if_pos (by simp;omega),if_pos (by simp;omega)];cases v1 with
     | true =>
       refine⟨_,by rw[if_pos rfl],?_⟩;have hr:=h1'.1 rfl;simp only[zF,zL,yu,zK,A0I,g1,g2,hr,and_self,and_true,true_and];simp
     | false=>exact⟨false,by rw[if_neg (by simp)],by simp;intro _ _ _ hr;exact absurd (h1'.2 hr) (by simp)⟩
   . exact⟨false,by rw[if_pos (by simp;omega),if_neg (by simp;omega)],by simp;intro _ h;omega⟩
 . exact⟨false,by rw[if_neg (by simp;omega)],by simp;intro h;omega⟩
theorem Ar0.val (s:List Int) (hs:s.length≤1048576):∃ v,Ar0.F (s,())=some ((v,()),())/\(v=true↔A2C s):=by
 obtain⟨v1,h1,h1'⟩:=An0.val s 0 9 (by omega);rw[Ar0.eq,Ar0.T,h1,Aa9.val];simp only[zb];unfold A2C;by_cases g:1≤(s.length:Int)/\(s.length:Int)≤4
 . rw[if_pos (by simp only[decide_eq_true_eq];exact g)];exact⟨v1,rfl,h1'.trans ⟨fun h=>⟨by omega,h⟩,fun h=>h.2⟩⟩
 . exact⟨false,by rw[if_neg (by simp only[decide_eq_true_eq];exact g)],by simp;intro a b;omega⟩
theorem Aa7.val (c : List (List Int)) (h:SmL c):∃ v,Aa7.F (c,())=some ((v,()),())/\(v=true↔CplxOk c):=by
 by_cases hn:c.length≤48
 . obtain⟨v,hv,hv'⟩:=Ev.loop (σ:=Unit) (R:=(Bool×Unit)×Unit) (fun k i _=>Aa7.l4 k c (i:Int)) c.length (fun i _=>∀ j,j<i->A2C (c.getD j [])/\(0<j->cmpS (c.getD (j-1) []) (c.getD j [])<0)/\(1<(c.getD j []).length->∀ k,k<(c.getD j []).length->A0E (c.getD j []) k∈c)) (fun r=>∃ v,r=((v,()),())/\(v=true↔CplxOk c))
     (fun i _ hi hI=>by
       have hsm:(c.getD i []).length≤1048576:=h.2 _ (A0z _ hi);obtain⟨s,hs⟩:∃ s,c.getD i []=s:=⟨_,rfl⟩;have E:=fun k=>Aa7.l4_eq k c (i:Int);obtain⟨b,hb,hb'⟩:=Ar0.val s (hs▸hsm);rw[hs]at hsm;simp only[if_pos (ltI.2 hi),if_pos (idxI.2 hi),za,hs,hb,zb]at E;have bad:(¬ (A2C s/\(0<i->cmpS (c.getD (i-1) []) s<0)/\(1<s.length->∀ k,k<s.length->A0E s k∈c)))->∃ v,(((false,()),()):(Bool×Unit)×Unit)=((v,()),())/\(v=true↔CplxOk c):=fun hno=>⟨false,rfl,by simp;intro hc;exact hno (by have:=hc.2 i hi;rw[hs]at this;exact this)⟩;cases b with
       | false=>exact .inl ⟨_,(Ev.const _).succ fun k=>by rw[E];rfl,bad fun hc=>absurd (hb'.2 hc.1) (by simp)⟩
       | true =>
         have hsimp:=hb'.1 rfl;simp only[zK,ze,if_false]at E;have inner:(∃ r,Ev (fun k=>Aa7.l10 k c (i:Int) s ((0:Nat):Int)) r/\r=((false,()),())/\¬ (1<s.length->∀ k,k<s.length->A0E s k∈c))∨((1<s.length->∀ k,k<s.length->A0E s k∈c)/\Goes (fun k=>Aa7.l10 k c (i:Int) s ((0:Nat):Int)) (fun k=>Aa7.l4 k c ((i+1:Nat):Int))):=by
           by_cases h1:1<s.length
           . by_cases hall:∀ k,k<s.length->A0E s k∈c
             . refine .inr ⟨fun _=>hall,?_⟩;obtain⟨_,_,hg⟩:=Goes.loop (σ:=Unit) (R:=(Bool×Unit)×Unit) (fun k j _=>Aa7.l10 k c (i:Int) s (j:Int)) s.length (fun _ _=>True) (fun j _ hj _=>⟨(),trivial,Goes.succ fun k=>by
                 obtain⟨r,hr,hr'⟩:=Aa0.val c (A0E s j) h;rw[Aa7.l10_eq,if_pos (ltI.2 hj),if_pos (by simp;omega),Ai1.val s j hj hsm];simp only[zb,hr];rw[if_neg (by simp only[decide_eq_true_eq,hr'];exact fun hh=>hh (hall j hj)),A0x (by omega)]⟩) 0 () (zc _) trivial
               exact hg.trans (Goes.succ fun k=>by rw[Aa7.l10_eq,if_neg (by simp),A0x (by omega)])
             . left;obtain⟨v,hv,hv'⟩:=Ev.loop (σ:=Unit) (R:=(Bool×Unit)×Unit) (fun k j _=>Aa7.l10 k c (i:Int) s (j:Int)) s.length (fun j _=>∀ k,k<j->A0E s k∈c) (fun r=>r=((false,()),())) (fun j _ hj hJ=>by
                 obtain⟨r,hr,hr'⟩:=Aa0.val c (A0E s j) h;have E2:=fun k=>Aa7.l10_eq k c (i:Int) s (j:Int);simp only[if_pos (ltI.2 hj),if_pos (show decide ((s.length:Int)>1)=true by simp;omega),Ai1.val s j hj hsm,zb,hr,A0x (show j<4611686018427387904 by omega)]at E2;by_cases hd:A0E s j∈c
                 . refine .inr ⟨(),fun k hk=>?_,Goes.succ fun k=>by rw[E2,if_neg (by simp only[decide_eq_true_eq,hr'];exact fun hh=>hh hd)]⟩;by_cases hkj:k=j
                   . rw[hkj];exact hd
                   . exact hJ k (by omega)
                 . exact .inl ⟨_,(Ev.const _).succ fun k=>by rw[E2,if_pos (by simp only[decide_eq_true_eq,hr'];exact hd)],rfl⟩) (fun _ hJ=>absurd hJ hall) 0 () (zc _) (by intro k hk;omega)
               exact⟨v,hv,hv',fun hh=>hall (hh h1)⟩
           . refine .inr ⟨fun hh=>absurd hh h1,Goes.succ fun k=>?_⟩;rw[Aa7.l10_eq];by_cases h0:(0:Nat)<s.length
             . rw[if_pos (ltI.2 h0),if_neg (by simp;omega),A0x (by omega)]
             . rw[if_neg (by simp only[decide_eq_true_eq];omega),A0x (by omega)]
         have pre:((0<i->cmpS (c.getD (i-1) []) s<0)/\∀ k,Aa7.l4 (k+1) c (i:Int)=Aa7.l10 k c (i:Int) s ((0:Nat):Int))∨((∀ k,Aa7.l4 (k+1) c (i:Int)=some ((false,()),()))/\¬ (0<i->cmpS (c.getD (i-1) []) s<0)):=by
           by_cases h0:0<i
           . have h1:i-1<c.length:=by omega
             simp only[if_pos (show decide ((i:Int)>0)=true by simp;omega),A4h h0 (show i<4611686018427387904 by omega),if_pos (idxI.2 h1),za,Aj3.val _ s (h.2 _ (A0z _ h1)),zb]at E;by_cases hlt:cmpS (c.getD (i-1) []) s<0
             . exact .inl ⟨fun _=>hlt,fun k=>by rw[E,if_neg (by simp only[decide_eq_true hlt];simp)];rfl⟩
             . exact .inr ⟨fun k=>by rw[E,if_pos (by simp only[decide_eq_false hlt];rfl)],fun hh=>hlt (hh h0)⟩
           . simp only[if_neg (show ¬ decide ((i:Int)>0)=true by simp;omega)]at E;exact .inl ⟨fun h=>absurd h h0,fun k=>by rw[E];rfl⟩
         rcases pre with⟨hlt,E3⟩|⟨E4,hno⟩
         . rcases inner with⟨r,hr,rfl,hno⟩|⟨hyes,hg⟩
           . exact .inl ⟨_,hr.succ E3,bad fun hc=>hno hc.2.2⟩
           . refine .inr ⟨(),fun j hj=>?_,(Goes.succ E3).trans hg⟩;by_cases hji:j=i
             . rw[hji,hs];exact⟨hsimp,hlt,hyes⟩
             . exact hI j (by omega)
         . exact .inl ⟨_,(Ev.const _).succ E4,bad fun hc=>hno hc.2.1⟩)
     (fun _ hI=>⟨_,(Ev.const _).succ fun k=>by rw[Aa7.l4_eq,if_neg (by simp)],true,rfl,by simp;exact⟨hn,hI⟩⟩) 0 () (zc _) (by intro j hj;omega)
   obtain⟨b,rfl,hb⟩:=hv';exact⟨b,Aa7.of _ (hv.of_eq fun k=>by rw[Aa7.T,if_neg (by simp;omega)];rfl),hb⟩
 . exact⟨false,Aa7.of _ ((Ev.const _).of_eq fun k=>by rw[Aa7.T,if_pos (by simp;omega)]),by simp;intro hc;exact hn hc.1⟩
theorem mem_faces {s f:List Int}:f∈A0U s↔1<s.length/\∃ k,k<s.length/\A0E s k=f:=by
 unfold A0U;by_cases h:1<s.length
 . rw[if_pos h];simp[h]
 . rw[if_neg h];simp[h]
theorem A2l {c:List (List Int)} {i m:Nat} (h:m<i):(c.take i).getD m []=c.getD m []:=by
 simp only[zd,ya,h,if_true]
theorem A4w {c:List (List Int)} {i m:Nat} (h:m<i) (hm:m<c.length):c.getD m []∈c.take i:=by
 rw[<-A2l h];exact A0z [] (by simp;omega)
def OkAt (c:List (List Int)) (j:Nat):Prop:=A2C (c.getD j [])/\(0<j->cmpS (c.getD (j-1) []) (c.getD j [])<0)/\∀ f∈A0U (c.getD j []),f∈c.take j
theorem A3H (c:List (List Int)):(c.length≤48/\∀ j,j<c.length->OkAt c j)↔CplxOk c:=by
 constructor
 . rintro⟨h1,h2⟩;refine⟨h1,fun i hi=>⟨(h2 i hi).1,(h2 i hi).2.1,fun hl k hk=>zD ((h2 i hi).2.2 _ (mem_faces.2 ⟨hl,k,hk,rfl⟩))⟩⟩
 . intro h;refine⟨h.1,fun j hj=>⟨(h.2 j hj).1,(h.2 j hj).2.1,fun f hf=>?_⟩⟩;obtain⟨hl,k,hk,rfl⟩:=mem_faces.1 hf;have hm:=(h.2 j hj).2.2 hl k hk;obtain⟨m,hm1,e⟩:=zk hm;have e':c.getD m []=A0E (c.getD j []) k:=by rw[A0y hm1];exact e
   have hlen:=A0O hk;have hshort:cmpS (A0E (c.getD j []) k) (c.getD j [])<0:=A2p (by omega);by_cases hmj:m<j
   . rw[<-e'];exact A4w hmj hm1
   . exfalso;by_cases hmj2:m=j
     . rw[hmj2]at e';rw[<-e',(A0a _ _).2 rfl]at hshort;omega
     . have h3:=h.sorted j m (by omega) hm1;rw[e']at h3;have:=A1y _ _ _ hshort h3;rw[(A0a _ _).2 rfl]at this;omega
theorem Ab6.val (c:List (List Int)) (h:SmL c):∃ v,Ab6.F (c,())=some ((v,()),())/\(v=true↔CplxOk c):=by
 have hn := h.1;obtain⟨v,hv,hv'⟩:=Ev.loop (σ:=Unit) (R:=(Bool×Unit)×Unit) (fun k i _=>Ab6.l2 k c c.length (i:Int) c) c.length (fun i _=>∀ j,j<i->OkAt c j) (fun r=>∃ v,r=((v,()),())/\(v=true↔c.length≤48/\∀ j,j<c.length->OkAt c j))
   (fun i _ hi hI=>by
     have hsm:(c.getD i []).length≤1048576:=h.2 _ (A0z _ hi);have hsorted:A0V (c.take i):=A3x fun m h0 hm=>by
       have hm':m<i:=by simp at hm;omega
       rw[A2l (by omega),A2l hm'];exact(hI m hm').2.1 h0
     have hsmall:SmL (c.take i):=⟨by simp;omega,fun x hx=>h.2 x (zD hx)⟩;have hclo:∀ f:List Int,f.length≤1048576->Ao7.cloG (c,(i:Int),()) (f,())=some (decide (f∉c.take i),()):=fun f hf=>by
       show(Ao7.F (f,c,(i:Int),())).map (·.1)=_;obtain⟨r,hr,hr'⟩:=Ab3.val (c.take i) f hsorted hsmall hf;rw[Ao7.eq,Ao7.T,if_pos (by omega)];have:cutL c (0:Int) (i:Int)=c.take i:=by simp[cutL]
       rw[this,hr];simp only[zb,yr,hr']
     obtain⟨s,hs⟩:∃ s,c.getD i []=s:=⟨_,rfl⟩;have E:=fun k=>Ab6.l2_eq k c c.length (i:Int) c;obtain⟨b,hb,hb'⟩:=Ao9.val s (hs▸hsm);rw[hs]at hsm;have hfl:∀ f∈A0U s,f.length≤1048576:=fun f hf=>by
       obtain⟨_,k,hk,rfl⟩:=mem_faces.1 hf;have:=A0O hk;omega
     have hcf:=Ao0.val (A0U s) (Ao7.cloG (c,(i:Int),())) (fun f=>decide (f∉c.take i)) (fun f hf=>hclo f (hfl f hf)) (by
       unfold A0U;split
       . simp;omega
       . simp)
     simp only[if_pos (ltI.2 hi),if_pos (idxI.2 hi),za,hs,hb,zb,Ae4.val s hsm,hcf,A0x (show i<4611686018427387904 by omega)]at E;have bad:¬ OkAt c i->∃ v,(((false,()),()):(Bool×Unit)×Unit)=((v,()),())/\(v=true↔c.length≤48/\∀ j,j<c.length->OkAt c j):=fun hno=>⟨false,rfl,by simp only[ze,false_iff];exact fun hc=>hno (hc.2 i hi)⟩;cases b with
     | false=>exact .inl ⟨_,(Ev.const _).succ fun k=>by rw[E];rfl,bad fun hc=>absurd (hb'.2 (hs▸hc.1)) (by simp)⟩
     | true =>
       have hsimp:=hb'.1 rfl;simp only[zK,ze,if_false]at E;have pre:((0<i->cmpS (c.getD (i-1) []) s<0)/\∀ k,Ab6.l2 (k+1) c c.length (i:Int) c=if ((A0U s).any fun f=>decide (f∉c.take i))=true then some ((false,()),())else Ab6.l2 k c c.length ((i+1:Nat):Int) c)∨((∀ k,Ab6.l2 (k+1) c c.length (i:Int) c=some ((false,()),()))/\¬ (0<i->cmpS (c.getD (i-1) []) s<0)):=by
         by_cases h0:0<i
         . have h1:i-1<c.length:=by omega
           simp only[if_pos (show decide ((i:Int)>0)=true by simp;omega),A4h h0 (show i<4611686018427387904 by omega),if_pos (idxI.2 h1),za,Ad3.val _ s (h.2 _ (A0z _ h1)) hsm,zb]at E;by_cases hlt:cmpS (c.getD (i-1) []) s<0
           . exact .inl ⟨fun _=>hlt,fun k=>by rw[E,if_neg (by simp only[decide_eq_true_eq];omega)]⟩
           . exact .inr ⟨fun k=>by rw[E,if_pos (by simp only[decide_eq_true_eq];omega)],fun hh=>hlt (hh h0)⟩
         . simp only[if_neg (show ¬ decide ((i:Int)>0)=true by simp;omega)]at E;exact .inl ⟨fun h=>absurd h h0,fun k=>by rw[E]⟩
       rcases pre with⟨hlt,E3⟩|⟨E4,hno⟩
       . by_cases hf:∀ f∈A0U s,f∈c.take i
         . refine .inr ⟨(),fun j hj=>?_,Goes.succ fun k=>by rw[E3,if_neg (by simp only[z3,decide_eq_true_eq,not_exists,not_and,Classical.not_not];exact hf)]⟩;by_cases hji:j=i
           . rw[hji];exact⟨hs▸hsimp,fun h0=>by rw[hs];exact hlt h0,fun f hff=>hf f (hs▸hff)⟩
           . exact hI j (by omega)
         . refine .inl ⟨_,(Ev.const _).succ fun k=>by rw[E3,if_pos (by simp only[z3,decide_eq_true_eq];simpa using hf)],bad fun hc=>hf fun f hff=>hc.2.2 f (hs▸hff)⟩
       . exact .inl ⟨_,(Ev.const _).succ E4,bad fun hc=>hno (by have:=hc.2.1;rw[hs]at this;exact this)⟩)
   (fun _ hI=>⟨_,(Ev.const _).succ fun k=>by rw[Ab6.l2_eq,if_neg (by simp)],_,rfl,by simp only[decide_eq_true_eq];exact⟨fun h1=>⟨by omega,hI⟩,fun h1=>by omega⟩⟩) 0 () (zc _) (by intro j hj;omega)
 obtain⟨b,rfl,hb⟩:=hv';exact⟨b,Ab6.of _ (hv.of_eq fun k=>rfl),hb.trans (A3H c)⟩
def A0C (c:List (List Int)) (f:List Int):Nat:=c.findIdx fun x=>decide (x=f)
theorem A0D {c:List (List Int)} {f:List Int} (h:f∈c):A0C c f<c.length/\c.getD (A0C c f) []=f:=by
 have h1:A0C c f<c.length:=zZ ⟨f,h,by simp⟩;refine⟨h1,?_⟩;rw[A0y h1];have:=z5 (p:=fun x=>decide (x=f)) (xs:=c) (w:=h1);exact of_decide_eq_true this
def fcs (c:List (List Int)) (i:Nat):List Int:=(A0U (c.getD i [])).map fun f=>((A0C c f:Nat):Int)
theorem A0R (c:List (List Int)) (i:Nat):(fcs c i).length=if 1<(c.getD i []).length then(c.getD i []).length else 0:=by
 unfold fcs A0U;split<;>simp
theorem A4y {c:List (List Int)} (h:CplxOk c) {i:Nat} (hi:i<c.length) {x:Int} (hx:x∈fcs c i):∃ j:Nat,x=j/\j<c.length:=by
 simp only[fcs,zw]at hx;obtain⟨f,hf,rfl⟩:=hx;have:=((A3H c).2 h).2 i hi;exact⟨_,rfl,(A0D (zD (this.2.2 f hf))).1⟩
theorem A1Q {c:List (List Int)} (h:CplxOk c) {i:Nat} (hi:i<c.length) {f:List Int} (hf:f∈A0U (c.getD i [])):f∈c :=
 zD ((((A3H c).2 h).2 i hi).2.2 f hf)
theorem A2P {c:List (List Int)} (h:CplxOk c) {f:List Int} (hf:f∈c):Aa0.F (c,f,())=some ((((A0C c f:Nat):Int),()),()):=by
 obtain⟨h1,h2⟩:=A0D hf;have:=Aa0.val2 c (A0C c f) h1 h.sorted h.small
 rwa [h2]at this
theorem A1V {c:List (List Int)} (h:CplxOk c) {f:List Int} (hf:f∈c):Ab3.F (c,f,())=some ((((A0C c f:Nat):Int),()),()):=by
 obtain⟨h1,h2⟩:=A0D hf;have:=Ab3.val2 c (A0C c f) h1 h.sorted h.small
 rwa [h2]at this
theorem Aa6.val (c:List (List Int)) (h:CplxOk c) (i:Nat) (hi:i<c.length):Aa6.F (c,(i:Int),())=some ((fcs c i,()),()):=by
 have h4:=(h.2 i hi).1.1.2;obtain⟨s,hs⟩:∃ s,c.getD i []=s:=⟨_,rfl⟩;rw[hs]at h4;have hmem:∀ f∈A0U s,f∈c:=fun f hf=>A1Q h hi (hs▸hf);have hfc:fcs c i=(A0U s).map fun f=>((A0C c f:Nat):Int):=by rw[fcs,hs]
 refine Aa6.of _ _ (Ev.of_eq (N:=fun k=>Aa6.l4 k c s ((0:Nat):Int) []) ?_ fun k=>by rw[Aa6.T,if_pos (by omega)];simp only[za,hs];rfl);by_cases h1:1<s.length
 . have hf:A0U s=(zj s.length).map (A0E s):=by rw[A0U,if_pos h1]
   obtain⟨x,hx,hg⟩:=Goes.loop (R:=((List Int×Unit)×Unit)) (fun k j (x:List Int)=>Aa6.l4 k c s (j:Int) x) s.length (fun j x=>x=((zj j).map (A0E s)).map fun f=>((A0C c f:Nat):Int)) (fun j x hj h2=>⟨_,rfl,Goes.succ fun k=>by
     have hm:A0E s j∈c:=hmem _ (by rw[hf];exact zw.2 ⟨j,zI.2 hj,rfl⟩);rw[Aa6.l4_eq,if_pos (ltI.2 hj),if_pos (by simp only[decide_eq_true_eq];omega),Ai1.val s j hj (by omega)];simp only[zb,A2P h hm];rw[if_pos (by rw[h2];simp only[zp,zu,zf,zg,bigA];omega),A0x (by omega),h2,zt,zm,zm];rfl⟩) 0 [] (zc _) rfl
   rw[hfc,hf];refine hg _ ((Ev.const _).succ fun k=>?_);rw[Aa6.l4_eq,if_neg (by simp),hx]
 . have hf:A0U s=[]:=by rw[A0U,if_neg h1]
   rw[hfc,hf];refine(Ev.const _).succ fun k=>?_;rw[Aa6.l4_eq];by_cases h0:(0:Nat)<s.length
   . rw[if_pos (ltI.2 h0),if_neg (by simp only[decide_eq_true_eq];omega)];rfl
   . rw[if_neg (by simp only[decide_eq_true_eq];omega)];rfl
theorem A1R {c:List (List Int)} (h:CplxOk c) {i:Nat} (hi:i<c.length):(A0U (c.getD i [])).length≤4:=by
 have h4:=(h.2 i hi).1.1.2;unfold A0U;split
 . simpa using h4
 . simp
theorem Ab7.val (c:List (List Int)) (h:CplxOk c) (i:Nat) (hi:i<c.length):Ab7.F (c,(i:Int),())=some ((fcs c i,()),()):=by
 have h4:=(h.2 i hi).1.1.2;have h5:=A1R h hi;obtain⟨fs,hfs⟩:∃ fs,A0U (c.getD i [])=fs:=⟨_,rfl⟩;have hmem:∀ f∈fs,f∈c:=fun f hf=>A1Q h hi (hfs▸hf);have hfc:fcs c i=fs.map fun f=>((A0C c f:Nat):Int):=by rw[fcs,hfs]
 rw[hfs]at h5;refine Ab7.of _ _ (Ev.of_eq (N:=fun k=>Ab7.l3 k (fs.length:Int) ((0:Nat):Int) c [] fs) ?_ fun k=>by rw[Ab7.T,if_pos (by omega)];simp only[za];rw[Ae4.val _ (by omega),hfs];rfl);obtain⟨x,hx,hg⟩:=Goes.loop (R:=((List Int×Unit)×Unit)) (fun k j (x:List Int)=>Ab7.l3 k (fs.length:Int) (j:Int) c x fs) fs.length (fun j x=>x=(fs.take j).map fun f=>((A0C c f:Nat):Int)) (fun j x hj h2=>⟨_,rfl,Goes.succ fun k=>by
   rw[Ab7.l3_eq,if_pos (ltI.2 hj),if_pos (idxI.2 hj)];simp only[za,A1V h (hmem _ (A0z [] hj)),zb];rw[if_pos (by rw[h2];simp only[zp,zH,zf,zg,bigA];omega),A0x (by omega),h2,zx,zr hj,zJ,zm,A0y hj];rfl⟩) 0 [] (zc _) rfl
 rw[zo (zh _)]at hx;rw[hfc];refine hg _ ((Ev.const _).succ fun k=>?_);rw[Ab7.l3_eq,if_neg (by simp),hx]
def off (c:List (List Int)):Nat->Nat
 | 0=>0
 | s+1=>off c s+(fcs c s).length
def A4U (c:List (List Int)) (s:Nat):List A2z:=(zj (fcs c s).length).map fun(j:Nat)=>((s:Int),(j:Int),(fcs c s).getD j 0)
def arr (c:List (List Int)) (n:Nat):List A2z:=(zj n).flatMap (A4U c)
theorem A2M (c:List (List Int)) (n:Nat):arr c (n+1)=arr c n++A4U c n:=by simp[arr,zt]
theorem A0N (c:List (List Int)) (n:Nat):(arr c n).length=off c n:=by
 induction n with
 | zero=>rfl
 | succ n ih=>rw[A2M,zv,ih,A4U,zp,zu,off]
theorem A1F {c:List (List Int)} (h:CplxOk c) {n:Nat} (hn:n≤c.length):off c n≤4*n:=by
 induction n with
 | zero=>exact zh _
 | succ n ih =>
   have h5:=A1R h (show n<c.length by omega);have:=ih (by omega);have e:(fcs c n).length=(A0U (c.getD n [])).length:=by simp[fcs]
   rw[off,e];omega
theorem A2L (c:List (List Int)) {n s j:Nat} (hs:s<n) (hj:j<(fcs c s).length):(arr c n).getD (off c s+j) (0,0,0)=((s:Int),(j:Int),(fcs c s).getD j 0):=by
 induction n with
 | zero=>omega
 | succ n ih =>
   rw[A2M,zd];by_cases h:s<n
   . have hmono:∀ a b,a≤b->off c a≤off c b:=fun a b hab=>by
       induction hab with
       | refl=>exact zh _
       | step _ ih=>exact yn ih (yO _ _)
     have h1:=hmono (s+1) n (by omega);rw[off]at h1;rw[zR (by rw[A0N];omega),<-zd];exact ih h
   . obtain rfl:s=n:=by omega
     rw[zO (by rw[A0N];omega),A0N,show off c s+j-off c s=j by omega,A4U,ye,z8 hj];rfl
theorem Ae3.val (c:List (List Int)) (h:CplxOk c):Ae3.F (c,())=some ((arr c c.length,()),()):=by
 have hn:=h.1;refine Ae3.of _ (Ev.of_eq (N:=fun k=>Ae3.l3 k (c.length:Int) ((0:Nat):Int) c []) ?_ fun k=>by rw[Ae3.T,Ak7.eq,Ak7.T];rfl);obtain⟨x,hx,hg⟩:=Goes.loop (R:=((List A2z×Unit)×Unit)) (fun k i (x:List A2z)=>Ae3.l3 k (c.length:Int) (i:Int) c x) c.length (fun i x=>x=arr c i) (fun i x hi h2=>by
   have hoff:=A1F h (show i≤c.length by omega);have h5:=A1R h hi;have e5:(fcs c i).length=(A0U (c.getD i [])).length:=by simp[fcs]
   refine⟨_,rfl,(Goes.succ fun k=>by rw[Ae3.l3_eq,if_pos (ltI.2 hi),Ab7.val c h i hi]).trans ?_⟩;obtain⟨y,hy,hg2⟩:=Goes.loop (R:=((List A2z×Unit)×Unit)) (fun k j (y:List A2z)=>Ae3.l6 k (i:Int) (c.length:Int) (i:Int) ((fcs c i).length:Int) (j:Int) c y (fcs c i)) (fcs c i).length (fun j y=>y=arr c i++(zj j).map fun(j:Nat)=>((i:Int),(j:Int),(fcs c i).getD j 0)) (fun j y hj h3=>⟨_,rfl,Goes.succ fun k=>by
     rw[Ae3.l6_eq,if_pos (ltI.2 hj),if_pos (idxI.2 hj),if_pos (by rw[h3];simp only[zv,zp,zu,zf,zg,A0N,bigA];omega),A0x (by omega),h3,zt,zm,zY];simp only[za];rfl⟩) 0 x (zc _) (by simp[h2])
   refine hg2.trans (Goes.succ fun k=>?_);rw[Ae3.l6_eq,if_neg (by simp),A0x (by omega),hy,A2M];rfl) 0 [] (zc _) rfl
 refine hg _ ((Ev.const _).succ fun k=>?_);rw[Ae3.l3_eq,if_neg (by simp),hx]
theorem Ac8.val (c:List (List Int)) (h:CplxOk c) (s:Nat) (hs:s≤c.length) (j:Nat) (hj:j≤1000):Ac8.F (c,(s:Int),(j:Int),())=some ((((off c s+j:Nat):Int),()),()):=by
 have hn:=h.1;have hos:=A1F h hs;refine Ac8.of _ _ _ (Ev.of_eq (N:=fun k=>Ac8.l3 k c (s:Int) (j:Int) 0 ((0:Nat):Int)) ?_ fun k=>rfl);obtain⟨x,hx,hg⟩:=Goes.loop (R:=((Int×Unit)×Unit)) (fun k i (x:Int)=>Ac8.l3 k c (s:Int) (j:Int) x (i:Int)) s (fun i x=>x=(off c i:Int)) (fun i x hi h2=>⟨_,rfl,Goes.succ fun k=>by
   have hic:i<c.length:=by omega
   have hoff:=A1F h (show i≤c.length by omega);have h4:=(h.2 i hic).1.1.2;rw[Ac8.l3_eq,if_pos (ltI.2 hi),if_pos (idxI.2 hic)];simp only[za];rw[off,A0R];by_cases h1:1<(c.getD i []).length
   . rw[if_pos (by simp only[decide_eq_true_eq];omega),if_pos (idxI.2 hic),if_pos h1,A0q (by omega) (by omega),A0x (by omega),h2];congr 1
   . rw[if_neg (by simp only[decide_eq_true_eq];omega),if_neg h1,A0x (by omega),h2];rfl⟩) 0 0 (zc _) rfl
 refine hg _ ((Ev.const _).succ fun k=>?_);rw[Ac8.l3_eq,if_neg (by simp),hx,A0q (by omega) (by omega)];congr 3
def A0w (c:List (List Int)) (d:Int) (i:Nat):List Int:=((zj i).filter fun j=>((c.getD j []).length:Int)==d+1).map fun(j:Nat)=>(j:Int)
theorem A0X (c:List (List Int)) (d:Int) (i:Nat):A0w c d (i+1)=if ((c.getD i []).length:Int)==d+1 then A0w c d i++[(i:Int)]else A0w c d i:=by
 simp only[A0w,zt,yE,zm];split
 . rename_i h;rw[List.filter_cons_of_pos (by exact h)];simp
 . rename_i h;rw[List.filter_cons_of_neg (by exact h)];simp
theorem A0M (c:List (List Int)) (d:Int) (i:Nat):(A0w c d i).length≤i:=by
 simp only[A0w,zp];exact yn (yv _ _) (by simp)
theorem A2b {c:List (List Int)} {d:Int} {i:Nat} {x:Int} (h:x∈A0w c d i):∃ j:Nat,x=j/\j<i:=by
 simp only[A0w,zw,zT,zI]at h;obtain⟨j,⟨h1,-⟩,rfl⟩:=h;exact⟨j,rfl,h1⟩
theorem Ad2.val (c:List (List Int)) (d:Int) (hd:-1≤d/\d≤1000) (hn:c.length≤1048576):Ad2.F (c,d,())=some ((A0w c d c.length,()),()):=by
 refine Ad2.of _ _ ?_;obtain⟨s,hs,hg⟩:=Goes.loop (R:=((List Int×Unit)×Unit)) (fun k i (x:List Int)=>Ad2.l3 k c d (i:Int) x) c.length (fun i x=>x=A0w c d i) (fun i x hi h2=>⟨_,rfl,Goes.succ fun k=>by
   have hl:=A0M c d i;rw[Ad2.l3_eq,if_pos (ltI.2 hi),if_pos (idxI.2 hi),A0q (x:=d+1) (by omega) (by omega),A0X];simp only[za];by_cases h:(((c.getD i []).length:Int)==d+1)=true
   . rw[if_pos h,if_pos h,if_pos (by rw[h2];simp only[zf,zg,bigA];omega),A0x (by omega),h2]
   . rw[if_neg h,if_neg h,A0x (by omega),h2]⟩) 0 [] (zc _) rfl
 refine Ev.of_eq (hg _ ((Ev.const _).succ fun k=>?_)) fun k=>rfl;rw[Ad2.l3_eq,if_neg (by simp),hs]
theorem Ae5.val (c:List (List Int)) (d:Int) (hd:-1≤d/\d≤1000) (hn:c.length≤1048576):Ae5.F (c,d,())=some ((A0w c d c.length,()),()):=by
 refine Ae5.of _ _ ?_;obtain⟨s,hs,hg⟩:=Goes.loop (R:=((List Int×Unit)×Unit)) (fun k i (x:List Int)=>Ae5.l3 k d c (c.length:Int) (i:Int) x) c.length (fun i x=>x=A0w c d i) (fun i x hi h2=>⟨_,rfl,Goes.succ fun k=>by
   have hl:=A0M c d i;rw[Ae5.l3_eq,if_pos (ltI.2 hi),if_pos (idxI.2 hi),A0q (x:=d+1) (by omega) (by omega),A0X,Ab8.eq,Ab8.T];simp only[za,zb];by_cases h:(((c.getD i []).length:Int)==d+1)=true
   . rw[if_pos h,if_pos h,if_pos (by rw[h2];simp only[zf,zg,bigA];omega),A0x (by omega),h2]
   . rw[if_neg h,if_neg h,A0x (by omega),h2]⟩) 0 [] (zc _) rfl
 refine Ev.of_eq (hg _ ((Ev.const _).succ fun k=>?_)) fun k=>rfl;rw[Ae5.l3_eq,if_neg (by simp),hs]
def sumL (st:List Int) (js:List Int):Int:=js.foldl (fun acc j=>zi.wrap (acc+st.getD j.toNat 0)) 0
theorem Ad7.val (c:List (List Int)) (st:List Int) (d:Int) (hd:-1≤d/\d≤1000) (hn:c.length≤1048576) (hs:st.length=c.length):Ad7.F (c,st,d,())=some ((sumL st (A0w c d c.length),()),()):=by
 have hl:=A0M c d c.length;refine Ad7.of _ _ _ (Ev.of_eq (N:=fun k=>Ad7.l4 k st 0 ((0:Nat):Int) (A0w c d c.length)) ?_ fun k=>by rw[Ad7.T,Ad2.val c d hd hn];rfl);refine Goes.foldl (L:=fun k i s=>Ad7.l4 k st s (i:Int) (A0w c d c.length)) (A0w c d c.length) 0 (fun acc j=>zi.wrap (acc+st.getD j.toNat 0)) (fun k i s hi=>?_) 0 _ ((Ev.const _).succ fun k=>by rw[Ad7.l4_eq,if_neg (by simp)];rfl);obtain⟨j,hj,hjc⟩:=A2b (A0z (0:Int) hi);rw[Ad7.l4_eq,if_pos (ltI.2 hi),if_pos (idxI.2 hi)];simp only[za];rw[if_pos (by rw[hj];omega),A0x (by omega)]
theorem Aa4.val (c:List (List Int)) (p:Int) (st:List Int) (ms:List MatV) (d:Int) (hd:-1≤d/\d≤1000) (hn:c.length≤1048576) (hs:st.length=c.length):Aa4.F ((c,(p,(st,ms))),d,())=some ((sumL st (A0w c d c.length),()),()):=by
 have hl:=A0M c d c.length;refine Aa4.of _ _ _ _ _ (Ev.of_eq (N:=fun k=>Aa4.l3 k 0 (A0w c d c.length).length ((0:Nat):Int) c p st ms (A0w c d c.length)) ?_ fun k=>by rw[Aa4.T,Ae5.val c d hd hn];rfl);refine Goes.foldl (L:=fun k i s=>Aa4.l3 k s (A0w c d c.length).length (i:Int) c p st ms (A0w c d c.length)) (A0w c d c.length) 0 (fun acc j=>zi.wrap (acc+st.getD j.toNat 0)) (fun k i s hi=>?_) 0 _ ((Ev.const _).succ fun k=>by rw[Aa4.l3_eq,if_neg (by simp)];rfl);obtain⟨j,hj,hjc⟩:=A2b (A0z (0:Int) hi);rw[Aa4.l3_eq,if_pos (ltI.2 hi),if_pos (idxI.2 hi)];simp only[za];rw[if_pos (by rw[hj];omega),A0x (by omega)]
def vts (c:List (List Int)):List Int:=(c.filter fun s=>s.length==1).map fun s=>s.getD 0 0
theorem A4R (c:List (List Int)) {i:Nat} (hi:i<c.length):vts (c.take (i+1))=vts (c.take i)++(if (c.getD i []).length=1 then[(c.getD i []).getD 0 0]else[]):=by
 unfold vts;rw[zx,zr hi,zJ,yE,zm,A0y hi];congr 1;by_cases h:c[i].length=1<;>simp[h]
theorem A5N (c:List (List Int)) (i:Nat):(vts (c.take i)).length≤i:=by
 unfold vts;rw[zp];exact yn (yv _ _) (by simp;omega)
theorem Ag8.val (c:List (List Int)) (hn:c.length≤1048576):Ag8.F (c,())=some ((vts c,()),()):=by
 refine Ag8.of _ ?_;obtain⟨s,hs,hg⟩:=Goes.loop (R:=((List Int×Unit)×Unit)) (fun k i (x:List Int)=>Ag8.l3 k c (c.length:Int) (i:Int) x) c.length (fun i x=>x=vts (c.take i)) (fun i x hi h2=>⟨_,rfl,Goes.succ fun k=>by
   have hl:=A5N c i;rw[Ag8.l3_eq,if_pos (ltI.2 hi),if_pos (idxI.2 hi)];simp only[za];rw[A4R c hi,A0x (by omega),<-h2];by_cases h1:(c.getD i []).length=1
   . rw[if_pos (by simp only[beq_iff_eq];omega),if_pos (by omega),if_pos (by rw[h2];simp only[zf,zg,bigA];omega),if_pos h1];rfl
   . rw[if_neg (by simp only[beq_iff_eq];omega),if_neg h1,yq]⟩) 0 [] (zc _) rfl
 rw[zo (zh _)]at hs;refine Ev.of_eq (hg _ ((Ev.const _).succ fun k=>?_)) fun k=>rfl;rw[Ag8.l3_eq,if_neg (by simp),hs]
theorem A3Q {c:List (List Int)} (h:CplxOk c):∀ (n:Nat) (s:List Int),s∈c->s.length≤n->∀ v∈s,[v]∈c:=by
 intro n;induction n with
 | zero=>intro s hs hl v hv;have:s=[]:=zN.1 (by omega);subst this;simp at hv
 | succ n ih =>
   intro s hs hl v hv;by_cases h1:1<s.length
   . obtain⟨i,hi,hic⟩:∃ i,i<c.length/\c.getD i []=s:=by
       obtain⟨i,hi,rfl⟩:=zk hs;exact⟨i,hi,A0y hi⟩
     obtain⟨j,hj,hjv⟩:=zk hv;obtain⟨k,hk,hkj⟩:∃ k,k<s.length/\k≠j:=by
       by_cases e:j=0
       . exact⟨1,h1,by omega⟩
       . exact⟨0,by omega,by omega⟩
     have hmem:A0E s k∈c:=A1Q h hi (by rw[hic];exact mem_faces.2 ⟨h1,k,hk,rfl⟩);refine ih (A0E s k) hmem (by rw[A0O hk];omega) v ?_;unfold A0E;rw[zS];by_cases h2:j<k
     . left;rw[yf];exact⟨j,by omega,hjv⟩
     . right;rw[yg];refine⟨j-(k+1),by omega,?_⟩;rw[<-hjv];congr 1;omega
   . cases s with
     | nil=>simp at hv
     | cons a t =>
       have:t=[]:=zN.1 (by simp only[zf]at h1;omega);subst this;simp only[zW]at hv;subst hv;exact hs
theorem A3z:∀ {c:List (List Int)},(∀ s∈c,1≤s.length)->c.Pairwise (fun x y=>x.length≤y.length)->∃ B,c=(c.filter fun s=>s.length==1)++B/\∀ s∈B,s.length≠1
 | [],_,_=>⟨[],rfl,by simp⟩
 | x :: c,h1,h2=>by
   rw[zn]at h2;obtain⟨B,hB,hB'⟩:=A3z (fun s hs=>h1 s (by simp[hs])) h2.2;by_cases hx:x.length=1
   . exact⟨B,by rw[List.filter_cons,if_pos (by simpa using hx),yP,<-hB],hB'⟩
   . have hall:∀ s∈x::c,s.length≠1:=fun s hs=>by
       have hx1:=h1 x (by simp);simp only[zq]at hs;rcases hs with rfl|hs
       . exact hx
       . have:=h2.1 s hs;omega
     have hf:(x::c).filter (fun s=>s.length==1)=[]:=by
       rw[List.filter_eq_nil_iff];intro s hs;simpa using hall s hs
     exact⟨x::c,by rw[hf];rfl,hall⟩
def idxV (xs:List Int) (v:Int):Nat:=xs.findIdx fun x=>decide (x=v)
theorem A3F {xs:List Int} {v:Int} (h:v∈xs):idxV xs v<xs.length:=zZ ⟨v,h,by simp⟩
theorem A2D (v:Int):∀ {A:List (List Int)} (B:List (List Int)),(∀ s∈A,s.length=1)->[v]∈A->A0C (A++B) [v]=idxV (A.map fun s=>s.getD 0 0) v
 | [],_,_,h=>by simp at h
 | s :: A,B,h1,h2=>by
   have hs:=h1 s (by simp);obtain⟨a,rfl⟩:∃ a,s=[a]:=by
     cases s with
     | nil=>simp at hs
     | cons a t=>exact⟨a,by rw[zN.1 (show t.length=0 by simpa using hs)]⟩
   unfold A0C idxV;rw[yP,yU,yI,yI];by_cases e:a=v
   . subst e;simp
   . have h3:[v]∈A:=by
       simp only[zq,List.cons.injEq,and_true]at h2;exact h2.resolve_left fun hh=>e hh.symm
     have ih:=A2D v B (fun s hs=>h1 s (by simp[hs])) h3;unfold A0C idxV at ih;have d1:decide ([a]=[v])=false:=by simp[e]
     have d2:decide (([a]:List Int).getD 0 0=v)=false:=by simp[e]
     rw[d1,d2,cond_false,cond_false,ih]
theorem A4x {c:List (List Int)} (h:CplxOk c) {v:Int} (hv:[v]∈c):A0C c [v]=idxV (vts c) v/\v∈vts c:=by
 have hpw:c.Pairwise (fun x y=>x.length≤y.length):=by
   rw[zz];intro i j hi hj hij;have:=h.sorted i j hij hj;rw[A0y hi,A0y hj]at this;refine Classical.byContradiction fun hc=>?_;have h2:=A2p (a:=c[j]) (b:=c[i]) (by omega);have h3:=A1y _ _ _ this h2;have h4:=(A0a c[i] c[i]).2 rfl;omega
 obtain⟨B,hB,hB'⟩:=A3z (fun s hs=>by
   obtain⟨i,hi,rfl⟩:=zk hs;have:=(h.2 i hi).1.1.1
   rwa [A0y hi]at this) hpw
 have hA:[v]∈c.filter fun s=>s.length==1:=zT.2 ⟨hv,rfl⟩;refine⟨?_,?_⟩
 . unfold vts
   conv=>lhs;rw[hB]
   exact A2D v B (fun s hs=>by simpa using(zT.1 hs).2) hA
 . unfold vts;rw[zw];exact⟨[v],hA,rfl⟩
theorem Af4.val (xs:List Int) (v:Int) (hn:xs.length≤1048576) (hv:v∈xs):Af4.F (xs,v,())=some ((((idxV xs v:Nat):Int),()),()):=by
 refine Af4.of _ _ ?_;have hlt:=A3F hv;obtain⟨x,-,hg⟩:=Goes.loop (σ:=Unit) (R:=((Int×Unit)×Unit)) (fun k i _=>Af4.l2 k xs v (xs.length:Int) (i:Int)) (idxV xs v) (fun _ _=>True) (fun i _ hi _=>⟨(),trivial,Goes.succ fun k=>by
   have hne:xs[i]'(by omega)≠v:=by simpa using List.not_of_lt_findIdx hi
   rw[Af4.l2_eq,if_pos (ltI.2 (by omega)),if_pos (idxI.2 (by omega))];simp only[za];rw[if_neg (by
     rw[A0y (by omega)];simp only[beq_iff_eq];exact fun e=>hne e.symm),A0x (by omega)]⟩) 0 () (zc _) trivial
 refine Ev.of_eq (hg _ ((Ev.const _).succ fun k=>?_)) fun k=>rfl;have heq:xs[idxV xs v]=v:=of_decide_eq_true (z5 (xs:=xs) (p:=fun x=>decide (x=v)) (w:=hlt));rw[Af4.l2_eq,if_pos (ltI.2 hlt),if_pos (idxI.2 hlt)];simp only[za];rw[if_pos (by
   rw[A0y hlt];simp only[beq_iff_eq];exact heq.symm)]
def imgL (c:List (List Int)) (im s:List Int):List Int:=s.map fun v=>im.getD (idxV (vts c) v) 0
def imgS (c:List (List Int)) (im s:List Int):List Int:=setI (imgL c im s)
theorem Ak5.val (c:List (List Int)) (im s:List Int) (h:CplxOk c) (hs:s∈c) (hs4:s.length≤4) (hl:im.length=(vts c).length):Ak5.F (c,im,s,())=some ((imgS c im s,()),()):=by
 have hn:=h.1;have hvl:=A5N c c.length;rw[zo (zh _)]at hvl;refine Ak5.of _ _ _ ?_;obtain⟨x,hx,hg⟩:=Goes.loop (R:=((List Int×Unit)×Unit)) (fun k i (x:List Int)=>Ak5.l4 k im s (s.length:Int) (i:Int) (vts c) x) s.length (fun i x=>x=imgL c im (s.take i)) (fun i x hi h2=>⟨_,rfl,Goes.succ fun k=>by
   obtain⟨-,hm⟩:=A4x h (A3Q h 4 s hs hs4 _ (A0z 0 hi));have hlt:=A3F hm;rw[Ak5.l4_eq,if_pos (ltI.2 hi),if_pos (idxI.2 hi)];simp only[za,Af4.val _ _ (show(vts c).length≤1048576 by omega) hm,zb];rw[if_pos (idxI.2 (by omega)),if_pos (by rw[h2];simp only[imgL,zp,zH,zf,zg,bigA];omega),A0x (by omega),h2,imgL,imgL,zx,zr hi,zJ,zm,A0y hi];rfl⟩) 0 [] (zc _) rfl
 rw[zo (zh _)]at hx;have hxl:x.length=s.length:=by rw[hx];simp[imgL]
 refine Ev.of_eq (hg _ ((Ev.const _).succ fun k=>?_)) fun k=>?_
 . rw[Ak5.l4_eq,if_neg (by simp),Ar5.val _ (by omega)];simp only[zb];rw[Ar3.val _ (by rw[List.length_mergeSort];omega),hx];rfl
 . rw[Ak5.T,Ag8.val c (by omega)];rfl
theorem cut_one (s:List Int) {i:Nat} (hi:i<s.length):cutL s (i:Int) ((i+1:Nat):Int)=[s.getD i 0]:=by
 unfold cutL;simp only[za];rw[A0y hi];apply zG
 . simp;omega
 . intro j h1 h2;have:j=0:=by simpa using h2
   subst this;simp
theorem An6.val (c:List (List Int)) (im s:List Int) (h:CplxOk c) (hs:s∈c) (hs4:s.length≤4) (hl:im.length=(vts c).length):An6.F (c,im,s,())=some ((imgS c im s,()),()):=by
 have hn:=h.1;refine An6.of _ _ _ ?_;obtain⟨x,⟨hx,hxl⟩,hg⟩:=Goes.loop (R:=((List Int×Unit)×Unit)) (fun k i (x:List Int)=>An6.l3 k c im s (i:Int) x) s.length (fun i x=>x=(imgL c im (s.take i)).foldl (fun a n=>putL a n false) []/\x.length≤i) (fun i x hi ⟨h2,h3⟩=>by
   have hv:=A3Q h 4 s hs hs4 _ (A0z 0 hi);obtain⟨hidx,hm⟩:=A4x h hv;have hlt:=A3F hm;refine⟨putL x (im.getD (idxV (vts c) (s.getD i 0)) 0) false,⟨?_,by have:=A5c (im.getD (idxV (vts c) (s.getD i 0)) 0) x false;omega⟩,Goes.succ fun k=>?_⟩
   . rw[imgL,zx,zr hi,zJ,zm,yh,<-imgL,<-h2,A0y hi];rfl
   . rw[An6.l3_eq,if_pos (ltI.2 hi),A0x (by omega),if_pos (by omega),cut_one s hi];simp only[A2P h hv,zb,hidx];rw[if_pos (idxI.2 (by omega))];simp only[za,Am9.val x _ (by omega),zb]) 0 [] (zc _) ⟨rfl,by simp⟩
 rw[zo (zh _)]at hx;refine Ev.of_eq (hg _ ((Ev.const _).succ fun k=>?_)) fun k=>rfl;rw[An6.l3_eq,if_neg (by simp),hx,A5A];rfl
def A4T (c b:List (List Int)) (im:List Int):Prop:=im.length=(vts c).length/\∀ s∈c,imgS c im s∈b
theorem cplx4 {c:List (List Int)} (h:CplxOk c) {s:List Int} (hs:s∈c):s.length≤4:=by
 obtain⟨i,hi,rfl⟩:=zk hs;have:=(h.2 i hi).1.1.2
 rwa [A0y hi]at this
theorem Ab2.val (xs:List Int) (h:xs.length≤1048576):Ab2.F (xs,())=some ((xs,()),()):=by
 rw[Ab2.eq,Ab2.T];have hb:([]:List Int).length+xs.length≤bigA:=by simp only[zg,bigA];omega
 by_cases h0:0<xs.length
 . rw[if_pos h0,if_pos hb];rfl
 . have:xs=[]:=List.eq_nil_of_length_eq_zero (by omega);subst this;rw[if_neg h0];exact b2t rfl (by rw[if_pos hb];rfl)
theorem Am3.val (xs:List (List Int)) (h:SmL xs):Am3.F (xs,())=some ((xs,()),()):=by
 have hn:=h.1;refine Am3.of _ ?_;obtain⟨s,hs,hg⟩:=Goes.loop (R:=((List (List Int)×Unit)×Unit)) (fun k i (x:List (List Int))=>Am3.l3 k xs (xs.length:Int) (i:Int) x) xs.length (fun i x=>x=xs.take i) (fun i x hi h2=>⟨_,rfl,Goes.succ fun k=>by
   rw[Am3.l3_eq,if_pos (ltI.2 hi),if_pos (idxI.2 hi)];simp only[za,Ab2.val _ (h.2 _ (A0z [] hi)),zb];rw[if_pos (by rw[h2];simp only[zH,zf,zg,bigA];omega),A0x (by omega),h2,zx,zr hi,zJ,A0y hi]⟩) 0 [] (zc _) rfl
 rw[zo (zh _)]at hs;refine Ev.of_eq (hg _ ((Ev.const _).succ fun k=>?_)) fun k=>rfl;rw[Am3.l3_eq,if_neg (by simp),hs]
theorem Ac7.same (xs ys:List Int) (h:Sm xs):∃ b,Ac7.F (xs,ys,())=some ((b,()),())/\(b=true↔xs=ys):=by
 have hn:xs.length≤1048576:=h;by_cases hl:xs.length=ys.length
 . obtain⟨b,hb,hb'⟩:=A1B (fun k i=>Ac7.l4 k xs ys xs.length (i:Int)) xs ys 0 hl (fun i hi=>⟨xs.getD i 0==ys.getD i 0,by simp,fun k=>by
     rw[Ac7.l4_eq,if_pos (ltI.2 hi),if_pos (idxI.2 hi),if_pos (idx2 (hl▸hi))];simp only[za];rw[A0x (by omega)];rfl⟩) (fun k=>by rw[Ac7.l4_eq,if_neg (by simp)])
   exact⟨b,Ac7.of _ _ (hb.of_eq fun k=>by rw[Ac7.T,if_neg (by simp[hl])];rfl),hb'⟩
 . exact⟨false,Ac7.of _ _ ((Ev.const _).of_eq fun k=>by rw[Ac7.T,if_pos (by simp;omega)]),by simp;intro e;exact hl (by rw[e])⟩
theorem A5j:∀ a b:List Int,ordL a b=lexc a b
 | [],[]=>rfl
 | [],_::_=>rfl
 | _::_,[]=>rfl
 | a::x,b::y=>by
   simp only[ordL,lexc,A5j x y];rcases A0G a b with⟨h,e⟩|⟨h,e⟩|⟨h,e⟩<;>rw[e]
   . rw[if_pos h];rfl
   . rw[if_neg (by omega),if_neg (by omega)];rfl
   . rw[if_neg (by omega),if_pos h];rfl
theorem A2d (a b:List Int):ordS a b=cmpS a b:=by
 unfold ordS cmpS;rw[A5j];rcases A0G a.length b.length with⟨h,e⟩|⟨h,e⟩|⟨h,e⟩<;>rw[e]
 . rw[if_pos (by omega)];rfl
 . rw[if_neg (by omega),if_neg (by omega)];rfl
 . rw[if_neg (by omega),if_pos (by omega)];rfl
abbrev LtS (x y:List Int):Prop:=ordS x y<0
theorem LtS.irrefl (x:List Int):¬ LtS x x:=fun h=>by have:=a5t x x;simp only[LtS]at h;omega
theorem LtS.of_le {x y:List Int} (h:¬ LtS y x) (hne:x≠y):LtS x y:=by
 have h1:=a5t x y;have h2:=a9S y x;simp only[LtS]at *;rcases yJ (ordS y x) 0 with h3|h3|h3
 . exact absurd h3 h
 . exact absurd (h2 h3).symm hne
 . exact h1.2 h3
theorem sortedS_pw {xs:List (List Int)}:A0V xs↔xs.Pairwise LtS:=by
 rw[zz];constructor
 . intro h i j hi hj hij;have:=h i j hij hj;rw[A0y hi,A0y hj,<-A2d]at this;exact this
 . intro h i j hij hj;have:=h i j (by omega) hj hij;rw[A0y (by omega),A0y hj,<-A2d];exact this
theorem A2A:∀ {xs ys:List (List Int)},xs.Pairwise LtS->ys.Pairwise LtS->(∀ s,s∈xs↔s∈ys)->xs=ys
 | [],ys,_,_,h=>by
   cases ys with
   | nil=>rfl
   | cons y ys=>exact absurd ((h y).2 (by simp)) (by simp)
 | x::xs,[],_,_,h=>absurd ((h x).1 (by simp)) (by simp)
 | x :: xs,y::ys,hx,hy,h=>by
   rw[zn]at hx hy;have e:x=y:=by
     have h1:=(h x).1 (by simp);have h2:=(h y).2 (by simp);simp only[zq]at h1 h2;rcases h1 with rfl|h1
     . rfl
     . rcases h2 with rfl|h2
       . rfl
       . exact absurd (a7f x y x (hx.1 y h2) (hy.1 x h1)) (LtS.irrefl x)
   subst e;rw[A2A hx.2 hy.2 fun s=>?_];constructor
   . intro hs;have:=(h s).1 (by simp[hs]);simp only[zq]at this;rcases this with rfl|this
     . exact absurd (hx.1 s hs) (LtS.irrefl s)
     . exact this
   . intro hs;have:=(h s).2 (by simp[hs]);simp only[zq]at this;rcases this with rfl|this
     . exact absurd (hy.1 s hs) (LtS.irrefl s)
     . exact this
theorem A1J (s:List Int):∀ (l:List (List Int)) (p:List Int),s∈p::a2R p l↔s∈p::l
 | [],p=>by simp[a2R]
 | x::l,p=>by
   have h1:=A1J s l p;have h2:=A1J s l x;simp only[zq]at *;simp only[a2R];split
   . rename_i e;subst e;rw[h1];simp
   . rw[zq,h2]
theorem A4o (s:List Int) (l:List (List Int)):s∈a8E l↔s∈l:=by
 cases l with
 | nil=>simp[a8E]
 | cons x l=>exact A1J s l x
theorem A1Z:∀ (l:List (List Int)) (p:List Int),(p::l).Pairwise (fun a b=>¬ LtS b a)->(p::a2R p l).Pairwise LtS
 | [],p,_=>by simp[a2R]
 | x :: l,p,h=>by
   rw[zn,zn]at h;simp only[a2R];split
   . rename_i e;subst e;exact A1Z l x (zn.2 ⟨h.2.1,h.2.2⟩)
   . rename_i hne;have ih:=A1Z l x (zn.2 ⟨h.2.1,h.2.2⟩);have hpx:LtS p x:=LtS.of_le (h.1 x (by simp)) (Ne.symm hne);refine zn.2 ⟨fun y hy=>?_,ih⟩;simp only[zq]at hy;rcases hy with rfl|hy
     . exact hpx
     . exact a7f p x y hpx ((zn.1 ih).1 y hy)
theorem A5Q {l:List (List Int)} (h:l.Pairwise (fun a b=>¬ LtS b a)):(a8E l).Pairwise LtS:=by
 cases l with
 | nil=>simp[a8E]
 | cons x l=>exact A1Z l x h
def A2Z (xs:List (List Int)):List (List Int):=a8E (b4r ordS xs)
theorem A2k (xs:List (List Int)):(b4r ordS xs).Perm xs:=yz _ _
theorem A1q (s:List Int) (xs:List (List Int)):s∈A2Z xs↔s∈xs:=by rw[A2Z,A4o,(A2k xs).mem_iff]
theorem A4M (xs:List (List Int)):(A2Z xs).Pairwise LtS:=by
 refine A5Q ?_;have h:=ym (le:=fun x y=>!Go.Proofs.ltOf ordS y x) (fun x y z h1 h2=>?_) (fun x y=>?_) xs
 . refine List.Pairwise.imp ?_ h;intro a b hab;simpa[Go.Proofs.ltOf]using hab
 . simp only[Go.Proofs.ltOf,zF,decide_eq_false_iff_not]at *;intro h3;rcases yJ (ordS y x) 0 with h|h|h
   . exact h1 h
   . have:=a9S y x h;subst this;exact h2 h3
   . exact h2 (a7f z x y h3 ((a5t x y).2 h))
 . simp only[Go.Proofs.ltOf,yQ,zF,decide_eq_false_iff_not];have:=a5t x y;omega
theorem A3V {xs:List (List Int)} (h:A0V xs):A2Z xs=xs:=A2A (A4M xs) (sortedS_pw.1 h) fun s=>A1q s xs
theorem Ar4.val (xs:List (List Int)) (h:SmL xs):Ar4.F (xs,Ad3.cloG (()),())=some ((),(b4r ordS xs,())):=by
 unfold Ar4.F sortF;rw[if_pos];refine⟨fun x hx y hy=>?_,by have:=h.1;show xs.length<_;omega⟩;show(Ad3.F (x,y,())).map (·.1)=_;rw[Ad3.val x y (h.2 x hx) (h.2 y hy),A2d];rfl
theorem Ar2.val (xs:List (List Int)) (h:SmL xs):Ar2.F (xs,Ac7.cloG (()),())=some ((a8E xs,()),()):=by
 unfold Ar2.F compF;rw[if_pos];refine⟨fun x hx y _=>?_,by have:=h.1;show xs.length<_;omega⟩;have hxs:Sm x:=by
   simp only[zq]at hx;rcases hx with rfl|hx
   . simp[Sm]
   . exact h.2 x hx
 obtain⟨b,hb,hb'⟩:=Ac7.same x y hxs;show(Ac7.F (x,y,())).map (·.1)=_;rw[hb];have:b=decide (x=y):=Bool.eq_iff_iff.2 (hb'.trans (by simp));rw[this];rfl
theorem SmL.perm {xs ys:List (List Int)} (h:SmL xs) (hp:ys.Perm xs):SmL ys:=⟨by rw[hp.length_eq];exact h.1,fun x hx=>h.2 x (hp.mem_iff.1 hx)⟩
theorem Ae1.val (xs:List (List Int)) (h:SmL xs):Ae1.F (xs,())=some ((A2Z xs,()),()):=by
 rw[Ae1.eq,Ae1.T,Am3.val xs h];simp only[zb,Ar4.val xs h,Ar2.val _ (h.perm (A2k xs))];rfl
theorem Ae1.same (xs:List (List Int)) (h:SmL xs) (hs:A0V xs):Ae1.F (xs,())=some ((xs,()),()):=by rw[Ae1.val xs h,A3V hs]
theorem Al3.val (xs:List Int) (n:Int) (hn:xs.length<4611686018427387904):Al3.F (xs,n,())=some ((decide (n∈xs),()),()):=by
 obtain⟨v,hv,hv'⟩:=Ev.loop (σ:=Unit) (R:=(Bool×Unit)×Unit) (fun k i _=>Al3.l2 k xs n (i:Int)) xs.length (fun i _=>∀ j,j<i->xs.getD j 0≠n) (fun r=>r=((decide (n∈xs),()),()))
   (fun i s hi hI=>by
     have E:=fun k=>Al3.l2_eq k xs n (i:Int);simp only[if_pos (ltI.2 hi),if_pos (idxI.2 hi),za,A0x (show i<4611686018427387904 by omega)]at E;by_cases h:xs.getD i 0=n
     . exact .inl ⟨_,(Ev.const _).succ fun k=>by rw[E,if_pos (by simp only[h,beq_self_eq_true])],by
         have:n∈xs:=h▸A0z 0 hi;simp[this]⟩
     . refine .inr ⟨(),fun j hj=>?_,Goes.succ fun k=>by rw[E,if_neg (by simp only[beq_iff_eq];exact h)]⟩;by_cases hji:j=i
       . rw[hji];exact h
       . exact hI j (by omega))
   (fun s hI=>⟨_,(Ev.const _).succ fun k=>by rw[Al3.l2_eq,if_neg (by simp)],by
     have:n∉xs:=fun hm=>by
       obtain⟨j,hj,e⟩:=zk hm;exact hI j hj (by rw[A0y hj];exact e)
     simp[this]⟩) 0 () (zc _) (by intro j hj;omega)
 subst hv';exact Al3.of _ _ (hv.of_eq fun k=>rfl)
theorem Aq7.val (xs:List Int) (n:Int) (hn:xs.length<4611686018427387904):Aq7.F (xs,n,())=some ((decide (n∈xs),()),()):=by
 obtain⟨v,hv,hv'⟩:=Ev.loop (σ:=Unit) (R:=(Int×Unit)×Unit) (fun k i _=>Af4.l2 k xs n xs.length (i:Int)) xs.length (fun i _=>∀ j,j<i->xs.getD j 0≠n) (fun r=>∃ q:Int,r=((q,()),())/\decide (q≥0)=decide (n∈xs))
   (fun i s hi hI=>by
     have E:=fun k=>Af4.l2_eq k xs n xs.length (i:Int);simp only[if_pos (ltI.2 hi),if_pos (idxI.2 hi),za,A0x (show i<4611686018427387904 by omega)]at E;by_cases h:n=xs.getD i 0
     . exact .inl ⟨_,(Ev.const _).succ fun k=>by rw[E,if_pos (by simp only[←h,beq_self_eq_true])],_,rfl,by
         have:n∈xs:=h▸A0z 0 hi;simp[this]⟩
     . refine .inr ⟨(),fun j hj=>?_,Goes.succ fun k=>by rw[E,if_neg (by simp only[beq_iff_eq];exact h)]⟩;by_cases hji:j=i
       . rw[hji];exact fun e=>h e.symm
       . exact hI j (by omega))
   (fun s hI=>⟨_,(Ev.const _).succ fun k=>by rw[Af4.l2_eq,if_neg (by simp)],_,rfl,by
     have:n∉xs:=fun hm=>by
       obtain⟨j,hj,e⟩:=zk hm;exact hI j hj (by rw[A0y hj];exact e)
     simp[this]⟩) 0 () (zc _) (by intro j hj;omega)
 obtain⟨q,rfl,hq⟩:=hv';rw[Aq7.eq,Aq7.T,Af4.of _ _ (hv.of_eq fun k=>rfl)];simp only[zb,hq]
def A1Y (p:Int):Prop:=(2≤p/\p≤251)/\∀ i:Nat,2≤i->(i:Int)*i≤p->p.tmod i≠0
theorem A4S {i:Nat} (h:i≤1000):zi.wrap ((i:Int)*(i:Int))=(i:Int)*(i:Int):=by
 have:i*i≤1000*1000:=zA h h;have e:(i:Int)*(i:Int)=((i*i:Nat):Int):=by simp
 rw[e];exact A0q (by omega) (by omega)
theorem A3y (L:Nat->Int->Option ((Bool×Unit)×Unit)) (p:Int) (hp:2≤p/\p≤251) (hL:∀ k i,L (k+1) i=if (decide ((zi.wrap (i*i))≤p))=true then(if i=0 then none else if ((p.tmod i)==(0:Int))=true then some ((false,()),())else L k (zi.wrap (i+(1:Int))))else some ((true,()),())) :
   ∃ v,Ev (fun k=>L k 2) ((v,()),())/\(v=true↔A1Y p):=by
 have big:∀ i:Nat,16≤i->p<(i:Int)*i:=fun i hi=>by
   have:16*16≤i*i:=zA hi hi;have e:(i:Int)*(i:Int)=((i*i:Nat):Int):=by simp
   omega
 have key:∀ d i:Nat,16-i≤d->2≤i->i≤1000->(∀ j:Nat,2≤j->j<i->p.tmod j≠0)->∃ v,Ev (fun k=>L k (i:Int)) ((v,()),())/\(v=true↔A1Y p):=by
   intro d;induction d with
   | zero =>
     intro i hd h2 hi hlow;refine⟨true,(Ev.const _).succ fun k=>by rw[hL,A4S hi,if_neg (by simp only[decide_eq_true_eq];have:=big i (by omega);omega)],by simp;exact⟨hp,fun j hj hjp=>hlow j hj (by
       by_cases h:j<i
       . exact h
       . have:=big j (by omega);omega)⟩⟩
   | succ d ih =>
     intro i hd h2 hi hlow;by_cases hsq:(i:Int)*i≤p
     . by_cases hm:p.tmod (i:Int)=0
       . exact⟨false,(Ev.const _).succ fun k=>by rw[hL,A4S hi,if_pos (by simp only[decide_eq_true_eq];exact hsq),if_neg (by omega),if_pos (by simp only[beq_iff_eq];exact hm)],by simp;intro hc;exact hc.2 i h2 hsq hm⟩
       . have hi16:i<16:=by
           by_cases h:i<16
           . exact h
           . have:=big i (by omega);omega
         obtain⟨v,hv,hv'⟩:=ih (i+1) (by omega) (by omega) (by omega) (fun j hj hji=>by
           by_cases h:j=i
           . rw[h];exact hm
           . exact hlow j hj (by omega))
         exact⟨v,hv.succ fun k=>by rw[hL,A4S hi,if_pos (by simp only[decide_eq_true_eq];exact hsq),if_neg (by omega),if_neg (by simp only[beq_iff_eq];exact hm),A0x (by omega)],hv'⟩
     . refine⟨true,(Ev.const _).succ fun k=>by rw[hL,A4S hi,if_neg (by simp only[decide_eq_true_eq];exact hsq)],by simp;exact⟨hp,fun j hj hjp=>hlow j hj (by
         by_cases h:j<i
         . exact h
         . exfalso;have:i*i≤j*j:=zA (by omega) (by omega);have e1:(i:Int)*(i:Int)=((i*i:Nat):Int):=by simp
           have e2:(j:Int)*(j:Int)=((j*j:Nat):Int):=by simp
           omega)⟩⟩
 exact key 16 2 (by omega) (by omega) (by omega) fun j hj hj2=>by omega
theorem Aj2.val (p:Int):∃ v,Aj2.F (p,())=some ((v,()),())/\(v=true↔A1Y p):=by
 by_cases hp:2≤p/\p≤251
 . obtain⟨v,hv,hv'⟩:=A3y (fun k i=>Aj2.l4 k p i) p hp (fun k i=>Aj2.l4_eq k p i);exact⟨v,Aj2.of _ (hv.of_eq fun k=>by rw[Aj2.T,Aa9.val];simp only[zb];rw[if_neg (by rw[decide_eq_true hp];simp)]),hv'⟩
 . exact⟨false,Aj2.of _ ((Ev.const _).of_eq fun k=>by rw[Aj2.T,Aa9.val];simp only[zb];rw[if_pos (by rw[decide_eq_false hp];rfl)]),by simp;intro h;exact hp h.1⟩
theorem Af7.val (p:Int):∃ v,Af7.F (p,())=some ((v,()),())/\(v=true↔A1Y p):=by
 by_cases hp:2≤p/\p≤251
 . obtain⟨v,hv,hv'⟩:=A3y (fun k i=>Af7.l4 k p i) p hp (fun k i=>Af7.l4_eq k p i);exact⟨v,Af7.of _ (hv.of_eq fun k=>by rw[Af7.T,Ab9.val];simp only[zb];rw[if_neg (by rw[decide_eq_true hp];simp)]),hv'⟩
 . exact⟨false,Af7.of _ ((Ev.const _).of_eq fun k=>by rw[Af7.T,Ab9.val];simp only[zb];rw[if_pos (by rw[decide_eq_false hp];rfl)]),by simp;intro h;exact hp h.1⟩
theorem Ai4.val (xs:List Int) (p:Int) (hn:xs.length<4611686018427387904):∃ v,Ai4.F (xs,p,())=some ((v,()),())/\(v=true↔A0I 0 (zi.wrap (p-1)) xs):=by
 rw[Ai4.eq,Ai4.T,Ad6.val xs _ (fun a=>!decide (0≤a/\a≤zi.wrap (p-1))) (fun a _=>by
   show(As5.F (a,p,())).map (·.1)=_;rw[As5.eq,As5.T,As6.eq,As6.T,Ab9.val];rfl) hn]
 refine⟨_,rfl,?_⟩;simp only[zF,zL,yu,zK,A0I];simp
def MatOk (m:MatV):Prop:=A1Y m.1/\(0≤m.2.1/\m.2.1≤32)/\(0≤m.2.2.1/\m.2.2.1≤32)/\(m.2.2.2.length:Int)=m.2.1*m.2.2.1/\A0I 0 (m.1-1) m.2.2.2
theorem A5Y {a b:Int} (ha:0≤a/\a≤32) (hb:0≤b/\b≤32):0≤a*b/\a*b≤1024:=by
 obtain⟨a,rfl⟩:=zl ha.1;obtain⟨b,rfl⟩:=zl hb.1;have:a*b≤32*32:=zA (by omega) (by omega);have e:(a:Int)*(b:Int)=((a*b:Nat):Int):=by simp
 omega
theorem Ah4.val (xs:List Int) (n p:Int) (hn:xs.length<4611686018427387904):∃ v,Ah4.F (xs,n,p,())=some ((v,()),())/\(v=true↔(xs.length:Int)=n/\A0I 0 (zi.wrap (p-1)) xs):=by
 obtain⟨v,hv,hv'⟩:=Ev.allP (L:=fun k i=>Ah4.l2 k xs n p (i:Int)) (a:=()) (b:=()) (n:=xs.length) (fun i=>0≤xs.getD i 0/\xs.getD i 0≤zi.wrap (p-1)) ((xs.length:Int)==n) (fun i hi=>by
   have E:=fun k=>Ah4.l2_eq k xs n p (i:Int);simp only[if_pos (ltI.2 hi),if_pos (idxI.2 hi),za,Aa9.val,zb,A0x (show i<4611686018427387904 by omega)]at E;by_cases h:0≤xs.getD i 0/\xs.getD i 0≤zi.wrap (p-1)
   . exact .inl ⟨h,fun k=>by rw[E,if_neg (by rw[decide_eq_true h];simp)]⟩
   . exact .inr ⟨h,fun k=>by rw[E,if_pos (by rw[decide_eq_false h];rfl)]⟩) ((Ev.const _).succ fun k=>by rw[Ah4.l2_eq,if_neg (by simp)]) 0 (zc _)
 refine⟨v,Ah4.of _ _ _ (hv.of_eq fun k=>rfl),hv'.trans ?_⟩;rw[allIn_iff];simp only[beq_iff_eq];exact⟨fun⟨h1,h2⟩=>⟨h1,fun i hi=>h2 i (zc _) hi⟩,fun⟨h1,h2⟩=>⟨h1,fun i _ hi=>h2 i hi⟩⟩
theorem Aq8.val (m:MatV) (hn:m.2.2.2.length<4611686018427387904):∃ v,Aq8.F (m,())=some ((v,()),())/\(v=true↔MatOk m):=by
 obtain⟨p,r,c,xs⟩:=m;obtain⟨v1,h1,h1'⟩:=Aj2.val p;rw[Aq8.eq,Aq8.T,Ak1.eq,Ak1.T,h1];simp only[zb,Aa9.val];unfold MatOk;cases v1 with
 | false=>exact⟨false,by rw[if_neg (by simp)],by simp;intro h;exact absurd (h1'.2 h) (by simp)⟩
 | true =>
   have hp:=h1'.1 rfl;have hpr:=hp.1;by_cases hr:0≤r/\r≤32
   . by_cases hc:0≤c/\c≤32
     . have hm:=A5Y hr hc;obtain⟨v2,h2,h2'⟩:=Ah4.val xs (zi.wrap (r*c)) p hn;rw[A0q (x:=r*c) (by omega) (by omega),A0q (x:=p-1) (by omega) (by omega)]at h2';refine⟨v2,by rw[if_pos rfl,if_pos (by simp only[decide_eq_true_eq];exact hr),if_pos (by simp only[decide_eq_true_eq];exact hc),h2];rfl,h2'.trans ?_⟩;exact⟨fun h=>⟨hp,hr,hc,h.1,h.2⟩,fun h=>⟨h.2.2.2.1,h.2.2.2.2⟩⟩
     . exact⟨false,by rw[if_pos rfl,if_pos (by simp only[decide_eq_true_eq];exact hr),if_neg (by simp only[decide_eq_true_eq];exact hc)],by simp only[ze,false_iff];exact fun h=>hc h.2.2.1⟩
   . exact⟨false,by rw[if_pos rfl,if_neg (by simp only[decide_eq_true_eq];exact hr)],by simp only[ze,false_iff];exact fun h=>hr h.2.1⟩
theorem Ao8.val (m:MatV) (hn:m.2.2.2.length<4611686018427387904):∃ v,Ao8.F (m,())=some ((v,()),())/\(v=true↔MatOk m):=by
 obtain⟨p,r,c,xs⟩:=m;obtain⟨v1,h1,h1'⟩:=Af7.val p;rw[Ao8.eq,Ao8.T,h1,Ap4.eq,Ap4.T,Ap4.eq,Ap4.T,Ab8.eq,Ab8.T];simp only[zb,Ab9.val];unfold MatOk;cases v1 with
 | false=>exact⟨false,by rw[if_neg (by simp)],by simp;intro h;exact absurd (h1'.2 h) (by simp)⟩
 | true =>
   have hp:=h1'.1 rfl;have hpr:=hp.1;by_cases hr:0≤r/\r≤32
   . by_cases hc:0≤c/\c≤32
     . have hm:=A5Y hr hc;obtain⟨v2,h2,h2'⟩:=Ai4.val xs p hn;rw[A0q (x:=p-1) (by omega) (by omega)]at h2';rw[if_pos rfl,if_pos (by simp only[decide_eq_true_eq];exact hr),if_pos (by simp only[decide_eq_true_eq];exact hc),A0q (x:=r*c) (by omega) (by omega)];by_cases hl:(xs.length:Int)=r*c
       . exact⟨v2,by rw[if_pos (by simp only[beq_iff_eq];exact hl),h2];rfl,h2'.trans ⟨fun h=>⟨hp,hr,hc,hl,h⟩,fun h=>h.2.2.2.2⟩⟩
       . exact⟨false,by rw[if_neg (by simp only[beq_iff_eq];exact hl)],by simp only[ze,false_iff];exact fun h=>hl h.2.2.2.1⟩
     . exact⟨false,by rw[if_pos rfl,if_pos (by simp only[decide_eq_true_eq];exact hr),if_neg (by simp only[decide_eq_true_eq];exact hc)],by simp only[ze,false_iff];exact fun h=>hc h.2.2.1⟩
   . exact⟨false,by rw[if_pos rfl,if_neg (by simp only[decide_eq_true_eq];exact hr)],by simp only[ze,false_iff];exact fun h=>hr h.2.1⟩
def A0u (R C:Nat) (g:Nat->Nat->Int):List Int:=(zj R).flatMap fun i=>(zj C).map (g i)
theorem A2y (R C:Nat) (g:Nat->Nat->Int):A0u (R+1) C g=A0u R C g++(zj C).map (g R):=by simp[A0u,zt]
theorem A0L (R C:Nat) (g:Nat->Nat->Int):(A0u R C g).length=R*C:=by
 induction R with
 | zero=>simp[A0u]
 | succ R ih=>rw[A2y,zv,ih,zp,zu,zU,zV]
theorem A2s (R C:Nat) (g:Nat->Nat->Int) {i j:Nat} (hi:i<R) (hj:j<C):(A0u R C g).getD (i*C+j) 0=g i j:=by
 induction R with
 | zero=>omega
 | succ R ih =>
   rw[A2y];by_cases h:i<R
   . have hlt:i*C+j<(A0u R C g).length:=by
       rw[A0L];have:=zE C (show i+1≤R by omega);rw[zU,zV]at this;omega
     rw[zd,zR hlt,<-zd];exact ih h
   . obtain rfl:i=R:=by omega
     rw[zd,zO (by rw[A0L];omega),A0L,show i*C+j-i*C=j by omega,ye,z8 hj];rfl
theorem A5T (R C:Nat) (g:Nat->Nat->Int) (hR:R≤32) (hC:C≤32):(A0u R C g).length≤1024:=by
 rw[A0L];exact zA hR hC
theorem Ac3.val (p:Int) (R C:Nat) (f:Int×Int×Unit->Option (Int×Unit)) (g:Nat->Nat->Int) (hR:R≤32) (hC:C≤32) (hf:∀ i j,i<R->j<C->f ((i:Int),(j:Int),())=some (g i j,())) :
   Ac3.F (p,(R:Int),(C:Int),f,())=some (((p,(R:Int),(C:Int),A0u R C g),()),()):=by
 refine Ac3.of _ _ _ _ ?_;obtain⟨s,hs,hg⟩:=Goes.loop (R:=((MatV×Unit)×Unit)) (fun k i (s:List Int)=>Ac3.l3 k (C:Int) f (R:Int) (i:Int) 0 0 0 [] p (R:Int) (C:Int) s) R (fun i s=>s=A0u i C g) (fun i s hi h2=>by
   refine⟨_,rfl,(Goes.succ fun k=>by rw[Ac3.l3_eq,if_pos (ltI.2 hi)]).trans ?_⟩;obtain⟨s2,hs2,hg2⟩:=Goes.loop (R:=((MatV×Unit)×Unit)) (fun k j (x:List Int)=>Ac3.l6 k (C:Int) f (i:Int) (R:Int) (i:Int) (C:Int) (j:Int) 0 0 0 [] p (R:Int) (C:Int) x) C (fun j x=>x=A0u i C g++(zj j).map (g i)) (fun j x hj h3=>⟨_,rfl,Goes.succ fun k=>by
     rw[Ac3.l6_eq,if_pos (ltI.2 hj),hf i j hi hj];simp only[zb];have:=A5T i C g (by omega) hC;rw[if_pos (by rw[h3];simp only[zv,zp,zu,zf,zg,bigA];omega),A0x (by omega),h3,zt,zm,zY];rfl⟩) 0 s (zc _) (by simp[h2])
   refine hg2.trans (Goes.succ fun k=>?_);rw[Ac3.l6_eq,if_neg (by simp),A0x (by omega),hs2,A2y]) 0 [] (zc _) rfl
 refine Ev.of_eq (hg _ ((Ev.const _).succ fun k=>?_)) fun k=>rfl;rw[Ac3.l3_eq,if_neg (by simp),hs]
def A1s (m:MatV):MatV:=(m.1,m.2.2.1,m.2.1,A0u m.2.2.1.toNat m.2.1.toNat fun i j=>m.2.2.2.getD (j*m.2.2.1.toNat+i) 0)
theorem A1I {r c i j:Nat} (hr:r≤32) (hc:c≤32) (hi:i<r) (hj:j<c):zi.wrap (zi.wrap ((i:Int)*(c:Int))+(j:Int))=((i*c+j:Nat):Int)/\i*c+j<r*c:=by
 have h1:i*c≤32*32:=zA (by omega) hc;have e:(i:Int)*(c:Int)=((i*c:Nat):Int):=by simp
 have h2:=zE c (show i+1≤r by omega);rw[zU,zV]at h2;refine⟨?_,by omega⟩;rw[e,A0q (x:=((i*c:Nat):Int)) (by omega) (by omega),A0q (by omega) (by omega)];omega
theorem Ap7.val (m:MatV) (h:MatOk m):Ap7.F (m,())=some ((A1s m,()),()):=by
 obtain⟨p,r,c,xs⟩:=m;obtain⟨-,hr,hc,hl,-⟩:=h;obtain⟨r,rfl⟩:=zl hr.1;obtain⟨c,rfl⟩:=zl hc.1;have hl':xs.length=r*c:=by
   have e:(r:Int)*(c:Int)=((r*c:Nat):Int):=by simp
   have hl2:(xs.length:Int)=(r:Int)*(c:Int):=hl;omega
 have hr':r≤32:=by have:=hr.2;simp only[]at this;omega
 have hc':c≤32:=by have:=hc.2;simp only[]at this;omega
 rw[Ap7.eq,Ap7.T,Ac3.val p c r _ (fun i j=>xs.getD (j*c+i) 0) hc' hr' (fun i j hi hj=>by
   show(At1.F ((i:Int),(j:Int),(p,(r:Int),(c:Int),xs),())).map (·.1)=_;obtain⟨e1,e2⟩:=A1I hr' hc' hj hi;rw[At1.eq,At1.T,Aj6.eq,Aj6.T,e1,if_pos (by omega)];simp only[zb,za];rfl)]
 rfl
theorem A5i {m:MatV} (h:MatOk m):MatOk (A1s m):=by
 obtain⟨p,r,c,xs⟩:=m;obtain⟨hp,hr,hc,hl,ha⟩:=h;obtain⟨r,rfl⟩:=zl hr.1;obtain⟨c,rfl⟩:=zl hc.1;refine⟨hp,hc,hr,?_,?_⟩
 . show((A0u c r _).length:Int)=(c:Int)*(r:Int);rw[A0L];simp
 . intro a ham;simp only[A1s,A0u,zP,zw,zI,za]at ham;obtain⟨i,hi,j,hj,rfl⟩:=ham;have hr':r≤32:=by have:=hr.2;simp only[]at this;omega
   have hc':c≤32:=by have:=hc.2;simp only[]at this;omega
   obtain⟨-,e2⟩:=A1I hr' hc' hj hi;have hl2:(xs.length:Int)=(r:Int)*(c:Int):=hl;have e:(r:Int)*(c:Int)=((r*c:Nat):Int):=by simp
   have hl3:xs.length=r*c:=by rw[e]at hl2;exact yi.1 hl2
   exact ha _ (A0z 0 (by rw[hl3];exact e2))
theorem A3D {R C:Nat} {g:Nat->Nat->Int} {ys:List Int} (hl:ys.length=R*C) (h:∀ i j,i<R->j<C->ys.getD (i*C+j) 0=g i j):ys=A0u R C g:=by
 refine zG (by rw[hl,A0L]) fun n h1 h2=>?_;rw[<-A0y (d:=0) h1,<-A0y (d:=0) h2];by_cases hC:C=0
 . subst hC;rw[hl]at h1;omega
 have hn:n<R*C:=by omega
 have hi:n/C<R:=Nat.div_lt_of_lt_mul (by rw[zX];exact hn);have hj:n%C<C:=Nat.mod_lt _ (by omega);have e:n/C*C+n%C=n:=by rw[zX];exact Nat.div_add_mod n C
 rw[<-e,h _ _ hi hj,A2s _ _ _ hi hj]
def sumN (f:Nat->Int):Nat->Int
 | 0=>0
 | n+1=>sumN f n+f n
theorem sumN_bd {f:Nat->Int} {n:Nat} {B:Nat} (h:∀ k,k<n->0≤f k/\f k≤(B:Int)):0≤sumN f n/\sumN f n≤((n*B:Nat):Int):=by
 induction n with
 | zero=>simp[sumN]
 | succ n ih =>
   have h1:=ih fun k hk=>h k (by omega);have h2:=h n (by omega);rw[zU,zV];simp only[sumN];omega
theorem A2B {f g:Nat->Int} {n:Nat} (h:∀ k,k<n->f k=g k):sumN f n=sumN g n:=by
 induction n with
 | zero=>rfl
 | succ n ih=>simp only[sumN];rw[ih fun k hk=>h k (by omega),h n (by omega)]
theorem A1f {p a b:Int} (hp:2≤p/\p≤251) (ha:0≤a/\a≤p-1) (hb:0≤b/\b≤p-1):0≤a*b/\a*b≤((62500:Nat):Int):=by
 obtain⟨a,rfl⟩:=zl ha.1;obtain⟨b,rfl⟩:=zl hb.1;have:a*b≤250*250:=zA (by omega) (by omega);have e:(a:Int)*(b:Int)=((a*b:Nat):Int):=by simp
 omega
theorem A2J {a p:Int} (h:0≤a):a.tmod p=a%p:=Int.tmod_eq_emod_of_nonneg h
theorem A1a {a p:Int} (hp:2≤p):0≤a%p/\a%p≤p-1:=by
 have h1:=Int.emod_nonneg a (show p≠0 by omega);have h2:=Int.emod_lt_of_pos a (show 0<p by omega);omega
theorem A0B {lo hi:Int} {xs:List Int} (h:A0I lo hi xs) {i:Nat} (hi':i<xs.length):lo≤xs.getD i 0/\xs.getD i 0≤hi:=allIn_iff.1 h i hi'
def dotE (xs ys:List Int) (k:Nat):Int:=xs.getD k 0*ys.getD k 0
theorem Ag5.val (xs ys:List Int) (p:Int) (hp:2≤p/\p≤251) (hx:A0I 0 (p-1) xs) (hy:A0I 0 (p-1) ys) (hl:xs.length≤ys.length) (hn:xs.length≤1048576) :
   Ag5.F (xs,ys,p,())=some ((sumN (dotE xs ys) xs.length%p,()),()):=by
 refine Ag5.of _ _ _ ?_;obtain⟨s,hs,hg⟩:=Goes.loop (R:=((Int×Unit)×Unit)) (fun k i (s:Int)=>Ag5.l3 k xs ys p s (xs.length:Int) (i:Int)) xs.length (fun i s=>s=sumN (dotE xs ys) i%p) (fun i s hi h2=>⟨_,rfl,Goes.succ fun k=>by
   have hm:=A1f hp (A0B hx hi) (A0B hy (show i<ys.length by omega));have hme:=A1a (a:=sumN (dotE xs ys) i) hp.1;rw[Ag5.l3_eq,if_pos (ltI.2 hi),if_pos (idxI.2 hi),if_pos (idxI.2 (show i<ys.length by omega)),if_neg (by omega),A0x (by omega),h2];simp only[za];rw[A0q (x:=xs.getD i 0*ys.getD i 0) (by omega) (by omega),A0q (by omega) (by omega),A2J (by omega),Int.emod_add_emod];rfl⟩) 0 0 (zc _) (by simp[sumN])
 refine Ev.of_eq (hg _ ((Ev.const _).succ fun k=>?_)) fun k=>rfl;rw[Ag5.l3_eq,if_neg (by simp),hs]
theorem Goes.fillSet {R:Type} (L3:Nat->Nat->List Int->Option R) (L6:Nat->Nat->Nat->List Int->Option R) (M N Z:Nat) (g:Nat->Nat->Int) (pos:Nat->Nat->Nat)
   (hpos:∀ i j,i<M->j<N->pos i j<Z) (inj:∀ i j i' j',i<M->j<N->i'<M->j'<N->pos i j=pos i' j'->i=i'/\j=j')
   (hin:∀ i x,i<M->x.length=Z->Goes (fun k=>L3 k i x) (fun k=>L6 k i 0 x))
   (hstep:∀ i j x,i<M->j<N->x.length=Z->Goes (fun k=>L6 k i j x) (fun k=>L6 k i (j+1) (x.set (pos i j) (g i j))))
   (hout:∀ i x,i<M->x.length=Z->Goes (fun k=>L6 k i N x) (fun k=>L3 k (i+1) x)) (x0:List Int) (h0:x0.length=Z) :
   ∃ y,y.length=Z/\(∀ i j,i<M->j<N->y.getD (pos i j) 0=g i j)/\(∀ q,(∀ i j,i<M->j<N->pos i j≠q)->y.getD q 0=x0.getD q 0)/\Goes (fun k=>L3 k 0 x0) (fun k=>L3 k M y):=by
 have gs:∀ (l:List Int) (q:Nat) (v:Int) (s:Nat),q<l.length->(l.set q v).getD s 0=if s=q then v else l.getD s 0:=fun l q v s hq=>by
   simp only[zd,yj];by_cases hqs:q=s
   . subst hqs;simp[hq]
   . simp[hqs,Ne.symm hqs]
 obtain⟨y,⟨h1,h2,h3⟩,hg⟩:=Goes.loop (R:=R) (fun k i x=>L3 k i x) M (fun i x=>x.length=Z/\(∀ a b,a<i->b<N->x.getD (pos a b) 0=g a b)/\∀ q,(∀ a b,a<M->b<N->pos a b≠q)->x.getD q 0=x0.getD q 0) (fun i x hi ⟨h1,h2,h3⟩=>by
   obtain⟨x',⟨h4,h5,h6,h7⟩,hg2⟩:=Goes.loop (R:=R) (fun k j x=>L6 k i j x) N (fun j x=>x.length=Z/\(∀ a b,a<i->b<N->x.getD (pos a b) 0=g a b)/\(∀ b,b<j->x.getD (pos i b) 0=g i b)/\∀ q,(∀ a b,a<M->b<N->pos a b≠q)->x.getD q 0=x0.getD q 0) (fun j x hj ⟨k1,k2,k3,k4⟩=>by
     have hp:=hpos i j hi hj;refine⟨_,⟨by simp[k1],fun a b ha hb=>?_,fun b hb=>?_,fun q hq=>?_⟩,hstep i j x hi hj k1⟩
     . rw[gs _ _ _ _ (by omega),if_neg (fun he=>by have:=(inj _ _ _ _ (by omega) hb hi hj he).1;omega)];exact k2 a b ha hb
     . rw[gs _ _ _ _ (by omega)];by_cases hbj:b=j
       . rw[if_pos (by rw[hbj]),hbj]
       . rw[if_neg (fun he=>hbj (inj _ _ _ _ hi (by omega) hi hj he).2)];exact k3 b (by omega)
     . rw[gs _ _ _ _ (by omega),if_neg (fun he=>hq i j hi hj he.symm)];exact k4 q hq) 0 x (zc _) ⟨h1,h2,fun b hb=>by omega,h3⟩
   refine⟨x',⟨h4,fun a b ha hb=>?_,h7⟩,((hin i x hi h1).trans hg2).trans (hout i x' hi h4)⟩;by_cases hai:a=i
   . rw[hai];exact h6 b hb
   . exact h5 a b (by omega) hb) 0 x0 (zc _) ⟨h0,fun a b ha=>by omega,fun _ _=>rfl⟩
 exact⟨y,h1,h2,h3,hg⟩
theorem rowInj {C:Nat} (a b a' b':Nat) (hb:b<C) (hb':b'<C) (he:a*C+b=a'*C+b'):a=a'/\b=b':=by
 have h1:(a*C+b)/C=a:=by rw[zX,z7 (by omega),z4 hb];omega
 have h2:(a'*C+b')/C=a':=by rw[zX,z7 (by omega),z4 hb'];omega
 have h3:a=a':=by rw[<-h1,<-h2,he]
 subst h3;exact⟨rfl,by omega⟩
theorem A4B {R C i j:Nat} (hi:i<R) (hj:j<C):i*C+j<R*C:=by
 have h2:=zE C (show i+1≤R by omega);rw[zU,zV]at h2;omega
theorem MatOk.nat {m:MatV} (h:MatOk m):∃ R C:Nat,m.2.1=(R:Int)/\m.2.2.1=(C:Int)/\R≤32/\C≤32/\m.2.2.2.length=R*C/\(2≤m.1/\m.1≤251)/\A0I 0 (m.1-1) m.2.2.2:=by
 obtain⟨p,r,c,xs⟩:=m;obtain⟨hp,hr,hc,hl,ha⟩:=h;obtain⟨r,rfl⟩:=zl hr.1;obtain⟨c,rfl⟩:=zl hc.1;have hl2:(xs.length:Int)=(r:Int)*(c:Int):=hl;have e:(r:Int)*(c:Int)=((r*c:Nat):Int):=by simp
 have hr2:(r:Int)≤32:=hr.2;have hc2:(c:Int)≤32:=hc.2;exact⟨r,c,rfl,rfl,by omega,by omega,by rw[e]at hl2;exact yi.1 hl2,hp.1,ha⟩
def rowL (xs:List Int) (C i:Nat):List Int:=(xs.take ((i+1)*C)).drop (i*C)
theorem A0P {xs:List Int} {R C i:Nat} (hl:xs.length=R*C) (hi:i<R):(rowL xs C i).length=C:=by
 have h2:=zE C (show i+1≤R by omega);have e:(i+1)*C=i*C+C:=by rw[zU,zV]
 simp only[rowL,yN,zH];omega
theorem A1A {xs:List Int} {C i k:Nat} (hk:k<C):(rowL xs C i).getD k 0=xs.getD (i*C+k) 0:=by
 have e:(i+1)*C=i*C+C:=by rw[zU,zV]
 simp only[rowL,zd,List.getElem?_drop,ya];rw[if_pos (by omega)]
theorem A1o {xs:List Int} {C i:Nat} {x:Int} (h:x∈rowL xs C i):x∈xs:=zD (yx h)
theorem A4C {R C i:Nat} (hR:R≤4096) (hC:C≤1024) (hi:i<R):zi.wrap ((i:Int)*(C:Int))=((i*C:Nat):Int)/\zi.wrap ((zi.wrap ((i:Int)+1))*(C:Int))=(((i+1)*C:Nat):Int)/\i*C≤(i+1)*C/\(i+1)*C≤R*C:=by
 have h1:(i+1)*C≤4096*1024:=zA (by omega) hC;have h0:i*C≤(i+1)*C:=zE C (by omega);have e:(i:Int)*(C:Int)=((i*C:Nat):Int):=by simp
 have e2:((i+1:Nat):Int)*(C:Int)=(((i+1)*C:Nat):Int):=by simp
 refine⟨?_,?_,h0,zE C (by omega)⟩
 . rw[e,A0q (by omega) (by omega)]
 . rw[A0x (by omega),e2,A0q (by omega) (by omega)]
theorem Af1.val (p:Int) (R C:Nat) (xs:List Int) (hR:R≤4096) (hC:C≤1024) (hl:xs.length=R*C) (i:Nat) (hi:i<R) (r:Int):Af1.F ((p,r,(C:Int),xs),(i:Int),())=some ((rowL xs C i,()),()):=by
 obtain⟨e1,e2,e3,e4⟩:=A4C hR hC hi;rw[Af1.eq,Af1.T,e1,e2,if_pos (by omega)];simp only[cutL,za,rowL]
def A0m (xs:List Int) (R C:Nat):List (List Int):=(zj R).map (rowL xs C)
theorem Ad8.val (p:Int) (R C:Nat) (xs:List Int) (hR:R≤4096) (hC:C≤1024) (hl:xs.length=R*C):Ad8.F ((p,(R:Int),(C:Int),xs),())=some ((A0m xs R C,()),()):=by
 refine Ad8.of _ _ _ _ ?_;obtain⟨s,hs,hg⟩:=Goes.loop (R:=((List (List Int)×Unit)×Unit)) (fun k i (s:List (List Int))=>Ad8.l3 k (R:Int) (i:Int) p (R:Int) (C:Int) xs s) R (fun i s=>s=(zj i).map (rowL xs C)) (fun i s hi h2=>⟨_,rfl,Goes.succ fun k=>by
   have hrl:=A0P hl hi;rw[Ad8.l3_eq,if_pos (ltI.2 hi),Af1.val p R C xs hR hC hl i hi];simp only[zb];rw[Ab2.val _ (by omega)];simp only[zb];rw[if_pos (by rw[h2];simp only[zp,zu,zf,zg,bigA];omega),A0x (by omega),h2,zt,zm];rfl⟩) 0 [] (zc _) rfl
 refine Ev.of_eq (hg _ ((Ev.const _).succ fun k=>?_)) fun k=>rfl;rw[Ad8.l3_eq,if_neg (by simp),hs];rfl
theorem A2w (xs:List Int) {R C i:Nat} (hi:i<R):(A0m xs R C).getD i []=rowL xs C i:=by
 simp[A0m,zd,hi]
theorem A0h (xs:List Int) (R C:Nat):(A0m xs R C).length=R:=by simp[A0m]
def mulM (a b:MatV):MatV:=(a.1,a.2.1,b.2.2.1,A0u a.2.1.toNat b.2.2.1.toNat fun i j=>sumN (fun k=>a.2.2.2.getD (i*a.2.2.1.toNat+k) 0*b.2.2.2.getD (k*b.2.2.1.toNat+j) 0) a.2.2.1.toNat%a.1)
theorem A4u {a b:MatV} (ha:MatOk a) (hb:MatOk b):MatOk (mulM a b):=by
 obtain⟨R,C,h1,h2,h3,h4,h5,h6,h7⟩:=ha.nat;obtain⟨R',C',k1,k2,k3,k4,k5,k6,k7⟩:=hb.nat;refine⟨ha.1,ha.2.1,hb.2.2.1,?_,fun x hx=>?_⟩
 . simp only[mulM,A0L,h1,k2,za];simp
 . simp only[mulM,A0u,zP,zw]at hx;obtain⟨i,_,j,_,rfl⟩:=hx;exact A1a h6.1
theorem Ap2.val (p:Int) (R C:Nat) (xs:List Int) (hm:MatOk (p,(R:Int),(C:Int),xs)):Ap2.F ((p,(R:Int),(C:Int),xs),())=some ((A0m (A1s (p,(R:Int),(C:Int),xs)).2.2.2 C R,()),()):=by
 have hR:(R:Int)≤32:=hm.2.1.2;have hC:(C:Int)≤32:=hm.2.2.1.2;have ht:=Ap7.val _ hm;rw[Ap2.eq,Ap2.T,ht];simp only[zb];have:=Ad8.val p C R (A1s (p,(R:Int),(C:Int),xs)).2.2.2 (by omega) (by omega) (by simp only[A1s,A0L,za]);rw[show A1s (p,(R:Int),(C:Int),xs)=(p,(C:Int),(R:Int),(A1s (p,(R:Int),(C:Int),xs)).2.2.2)from rfl,this];rfl
theorem A5M (p:Int) (R C:Nat) (xs:List Int) {i j:Nat} (hi:i<C) (hj:j<R):(A1s (p,(R:Int),(C:Int),xs)).2.2.2.getD (i*R+j) 0=xs.getD (j*C+i) 0:=by
 simp only[A1s,za];rw[A2s _ _ _ hi hj]
theorem Ag6.val (a b:MatV) (ha:MatOk a) (hb:MatOk b) (hp:a.1=b.1) (hs:a.2.2.1=b.2.1):Ag6.F (a,b,())=some ((mulM a b,()),()):=by
 obtain⟨R,C,h1,h2,h3,h4,h5,h6,h7⟩:=ha.nat;obtain⟨R',C',k1,k2,k3,k4,k5,k6,k7⟩:=hb.nat;obtain⟨p,r,c,xs⟩:=a;obtain⟨q,r',c',ys⟩:=b;simp only[]at h1 h2 h5 h6 h7 k1 k2 k5 k6 k7 hp hs;subst h1 h2 k1 k2 hp;obtain rfl:C=R':=by omega
 have htk:=A5i hb;have hal:A0I 0 (p-1) (A1s (p,(C:Int),(C':Int),ys)).2.2.2:=htk.2.2.2.2;rw[Ag6.eq,Ag6.T,Ap2.val p C C' ys hb];simp only[zb];rw[Ac3.val p R C' _ (fun i j=>sumN (fun k=>xs.getD (i*C+k) 0*ys.getD (k*C'+j) 0) C%p) h3 k4 (fun i j hi hj=>by
   show(As9.F ((i:Int),(j:Int),(p,(R:Int),(C:Int),xs),A0m (A1s (p,(C:Int),(C':Int),ys)).2.2.2 C' C,())).map (·.1)=_;have l1:=A0P h5 hi;have l2:(rowL (A1s (p,(C:Int),(C':Int),ys)).2.2.2 C j).length=C:=A0P (R:=C') (by simp only[A1s,A0L,za]) hj;rw[As9.eq,As9.T,Af1.val p R C xs (by omega) (by omega) h5 i hi];simp only[zb,za];rw[if_pos (by rw[A0h];omega),A2w _ hj,Ag5.val _ _ p h6 (fun x hx=>h7 x (A1o hx)) (fun x hx=>hal x (A1o hx)) (by omega) (by omega)];simp only[zb,yr,l1];congr 3;refine A2B fun k hk=>?_;rw[dotE,A1A hk,A1A hk,A5M p C C' ys hj hk])]
 simp only[zb,mulM,za]
theorem Af5.val (p:Int) (R C:Nat) (hR:R≤1024) (hC:C≤1024):Af5.F (p,(R:Int),(C:Int),())=some (((p,(R:Int),(C:Int),zC (R*C) 0),()),()):=by
 have h1:R*C≤1024*1024:=zA hR hC;have e:(R:Int)*(C:Int)=((R*C:Nat):Int):=by simp
 rw[Af5.eq,Af5.T,e,A0q (by omega) (by omega),if_pos (by simp only[bigN];omega)];simp only[za]
theorem Ad4.val (a b:MatV) (ha:MatOk a) (hb:MatOk b) (hp:a.1=b.1) (hs:a.2.2.1=b.2.1):Ad4.F (a,b,())=some ((mulM a b,()),()):=by
 obtain⟨R,C,h1,h2,h3,h4,h5,h6,h7⟩:=ha.nat;obtain⟨R',C',k1,k2,k3,k4,k5,k6,k7⟩:=hb.nat;obtain⟨p,r,c,xs⟩:=a;obtain⟨q,r',c',ys⟩:=b;simp only[]at h1 h2 h5 h6 h7 k1 k2 k5 k6 k7 hp hs;subst h1 h2 k1 k2 hp;obtain rfl:C=R':=by omega
 obtain⟨f,hf⟩:∃ f:Nat->Nat->Nat->Int,f=fun i j k=>xs.getD (i*C+k) 0*ys.getD (k*C'+j) 0:=⟨_,rfl⟩;have hfb:∀ i j k,i<R->j<C'->k<C->0≤f i j k/\f i j k≤((62500:Nat):Int):=fun i j k hi hj hk=>by
   rw[hf];have e1:=A4B hi hk;have e2:=A4B hk hj;exact A1f h6 (A0B h7 (by omega)) (A0B k7 (by omega))
 have hsb:∀ i j n,i<R->j<C'->n≤C->0≤sumN (f i j) n/\sumN (f i j) n≤2000000:=fun i j n hi hj hn=>by
   have:=sumN_bd (f:=f i j) (n:=n) fun k hk=>hfb i j k hi hj (by omega);omega
 obtain⟨y,hy1,hy2,-,hg⟩:=Goes.fillSet (R:=((MatV×Unit)×Unit)) (fun k i x=>Ad4.l3 k p (R:Int) (C:Int) xs p (C:Int) (C':Int) ys (i:Int) 0 0 0 [] p (R:Int) (C':Int) x)
   (fun k i j x=>Ad4.l6 k p (R:Int) (C:Int) xs p (C:Int) (C':Int) ys (i:Int) (j:Int) 0 0 0 [] p (R:Int) (C':Int) x) R C' (R*C') (fun i j=>sumN (f i j) C%p) (fun i j=>i*C'+j)
   (fun i j hi hj=>A4B hi hj) (fun i j i' j' _ hj _ hj' he=>rowInj _ _ _ _ hj hj' he)
   (fun i x hi hx=>Goes.succ fun k=>by rw[Ad4.l3_eq,if_pos (ltI.2 hi)];rfl)
   (fun i j x hi hj hx=>by
     refine(Goes.succ fun k=>by rw[Ad4.l6_eq,if_pos (ltI.2 hj)]).trans ?_;obtain⟨s,hs,hg⟩:=Goes.loop (R:=((MatV×Unit)×Unit)) (fun n k (s:Int)=>Ad4.l10 n p (R:Int) (C:Int) xs p (C:Int) (C':Int) ys (i:Int) (j:Int) s (k:Int) 0 0 0 [] p (R:Int) (C':Int) x) C (fun k s=>s=sumN (f i j) k) (fun k s hk h8=>⟨_,rfl,Goes.succ fun n=>by
       obtain⟨e1,e2⟩:=A1I h3 h4 hi hk;obtain⟨e3,e4⟩:=A1I h4 k4 hk hj;have b1:=hfb i j k hi hj hk;have b2:=hsb i j k hi hj (by omega);rw[Ad4.l10_eq,if_pos (ltI.2 hk),e1,if_pos (by omega),e3,if_pos (by omega),A0x (by omega),h8];simp only[za];have ef:xs.getD (i*C+k) 0*ys.getD (k*C'+j) 0=f i j k:=by rw[hf]
       rw[ef,A0q (x:=f i j k) (by omega) (by omega),A0q (by omega) (by omega)];rfl⟩) 0 0 (zc _) rfl
     refine hg.trans (Goes.succ fun n=>?_);obtain⟨e5,e6⟩:=A1I h3 k4 hi hj;have b2:=hsb i j C hi hj (zh _);rw[Ad4.l10_eq,if_neg (by simp),if_neg (by omega),e5,if_pos (by omega),A0x (by omega),hs,A2J b2.1];simp only[za])
   (fun i x hi hx=>Goes.succ fun k=>by rw[Ad4.l6_eq,if_neg (by simp),A0x (by omega)]) (zC (R*C') 0) (by simp)
 have hy:y=A0u R C' fun i j=>sumN (fun k=>xs.getD (i*C+k) 0*ys.getD (k*C'+j) 0) C%p:=A3D hy1 fun i j hi hj=>by rw[hy2 i j hi hj,hf]
 refine Ad4.of _ _ _ _ _ _ _ _ (Ev.of_eq (hg _ ((Ev.const _).succ fun k=>?_)) fun k=>?_)
 . rw[Ad4.l3_eq,if_neg (by simp),hy];simp only[mulM,za]
 . rw[Ad4.T,Af5.val p R C' (by omega) (by omega)];rfl
def A2K (p:Int) (n:Nat):MatV:=(p,(n:Int),(n:Int),A0u n n fun i j=>if i=j then 1 else 0)
theorem Ap9.val (p:Int) (n:Nat) (hn:n≤3):Ap9.F (p,(n:Int),())=some ((A2K p n,()),()):=by
 rw[Ap9.eq,Ap9.T,Ac3.val p n n _ (fun i j=>if i=j then 1 else 0) (by omega) (by omega) (fun i j _ _=>?_)]
 . rfl
 . show(At2.F ((i:Int),(j:Int),())).map (·.1)=_;rw[At2.eq,At2.T];by_cases h:i=j
   . rw[if_pos (by simp[h]),if_pos h];rfl
   . rw[if_neg (by simp;omega),if_neg h];rfl
theorem Al4.val (p:Int) (n:Nat) (hn:n≤3):Al4.F (p,(n:Int),())=some ((A2K p n,()),()):=by
 have z:=Af5.val p n n (by omega) (by omega);have hw:∀ i:Nat,i<n->zi.wrap (zi.wrap ((i:Int)*(n:Int))+(i:Int))=((i*n+i:Nat):Int):=fun i hi=>(A1I (r:=n) (c:=n) (by omega) (by omega) hi hi).1;refine Al4.of _ _ ?_;obtain⟨s,⟨h1,h2⟩,hg⟩:=Goes.loop (R:=((MatV×Unit)×Unit)) (fun k i (s:List Int)=>Al4.l3 k (n:Int) (i:Int) 0 0 0 [] p (n:Int) (n:Int) s) n (fun i s=>s.length=n*n/\∀ a b,a<n->b<n->s.getD (a*n+b) 0=if a=b/\a<i then 1 else 0) (fun i s hi ⟨h1,h2⟩=>by
   have hb:i*n+i<n*n:=(A1I (r:=n) (c:=n) (by omega) (by omega) hi hi).2;refine⟨s.set (i*n+i) 1,⟨by simp[h1],fun a b ha hb'=>?_⟩,Goes.succ fun k=>?_⟩
   . by_cases e:i*n+i=a*n+b
     . have hab:a=i/\b=i:=by
         have h3:(i*n+i)/n=i:=by rw[zX,z7 (by omega),z4 hi];rfl
         have h4:(a*n+b)/n=a:=by rw[zX,z7 (by omega),z4 hb'];rfl
         have:a=i:=by rw[<-h4,<-e,h3]
         subst this;exact⟨rfl,by omega⟩
       rw[<-e,zd,yt (by omega),if_pos ⟨by omega,by omega⟩];rfl
     . rw[zd,List.getElem?_set_ne e,<-zd,h2 a b ha hb'];have:¬ (a=i/\b=i):=fun hh=>e (by rw[hh.1,hh.2]);by_cases q:a=b/\a<i
       . rw[if_pos q,if_pos ⟨q.1,by omega⟩]
       . rw[if_neg q,if_neg (by omega)]
   . rw[Al4.l3_eq,if_pos (ltI.2 hi),hw i hi,if_pos (idxI.2 (by omega)),A0x (by omega)];rfl) 0 (zC (n*n) 0) (zc _) ⟨by simp,fun a b ha hb=>by
     rw[if_neg (by omega),zd];simp only[yo];split<;>rfl⟩
 refine Ev.of_eq (hg _ ((Ev.const _).succ fun k=>?_)) fun k=>?_
 . rw[Al4.l3_eq,if_neg (by simp)];have:s=A0u n n fun i j=>if i=j then 1 else 0:=A3D h1 fun i j hi hj=>by
     rw[h2 i j hi hj];by_cases e:i=j
     . rw[if_pos ⟨e,hi⟩,if_pos e]
     . rw[if_neg (fun hh=>e hh.1),if_neg e]
   rw[this];rfl
 . rw[Al4.T,z];rfl
theorem A5l {p:Int} (hp:A1Y p) {n:Nat} (hn:n≤3):MatOk (A2K p n):=by
 refine⟨hp,⟨by simp[A2K],by simp[A2K];omega⟩,⟨by simp[A2K],by simp[A2K];omega⟩,by simp[A2K,A0L],fun x hx=>?_⟩;have h2:=hp.1.1;simp only[A2K,A0u,zP,zw]at hx;obtain⟨i,-,j,-,rfl⟩:=hx;show 0≤_/\_≤p-1;split<;>omega
theorem st_nat' {st:List Int} (h:A0I 0 3 st) (k:Nat):((st.getD k 0).toNat:Int)=st.getD k 0/\(st.getD k 0).toNat≤3:=by
 by_cases hk:k<st.length
 . have:=h _ (A0z 0 hk);omega
 . rw[zd,yw (by omega)];simp
def A3o (c:List (List Int)) (st:List Int):Prop:=st.length=c.length/\A0I 0 3 st/\∀ k:Nat,k<4->sumL st (A0w c k c.length)≤32
theorem Aj4.val (c:List (List Int)) (st:List Int) (hn:c.length≤1048576) (hs:st.length≤1048576):∃ v,Aj4.F (c,st,())=some ((v,()),())/\(v=true↔A3o c st):=by
 obtain⟨v1,h1,h1'⟩:=Ah4.val st (c.length:Int) 4 (by omega);rw[A0q (x:=(4:Int)-1) (by omega) (by omega)]at h1';cases v1 with
 | false=>exact⟨false,Aj4.of _ _ ((Ev.const _).of_eq fun k=>by rw[Aj4.T,h1];rfl),by simp only[ze,false_iff];exact fun h=>absurd (h1'.2 ⟨by have:=h.1;omega,h.2.1⟩) (by simp)⟩
 | true =>
   obtain⟨hl,ha⟩:=h1'.1 rfl;obtain⟨v,hv,hv'⟩:=Ev.allP (L:=fun k i=>Aj4.l4 k c st (i:Int)) (a:=()) (b:=()) (n:=4) (fun i=>sumL st (A0w c i c.length)≤32) true (fun i hi=>by
     have E:=fun k=>Aj4.l4_eq k c st (i:Int);simp only[if_pos (show decide ((i:Int)≤3)=true by simp;omega),Ad7.val c st (i:Int) (by omega) hn (by omega),zb,A0x (show i<4611686018427387904 by omega)]at E;by_cases h:sumL st (A0w c i c.length)≤32
     . exact .inl ⟨h,fun k=>by rw[E,if_neg (by simp only[decide_eq_true_eq];omega)]⟩
     . exact .inr ⟨h,fun k=>by rw[E,if_pos (by simp only[decide_eq_true_eq];omega)]⟩) ((Ev.const _).succ fun k=>by rw[Aj4.l4_eq,if_neg (by simp)]) 0 (zc _)
   exact⟨v,Aj4.of _ _ (hv.of_eq fun k=>by rw[Aj4.T,h1];rfl),hv'.trans ⟨fun⟨_,h⟩=>⟨by omega,ha,fun k hk=>h k (zc _) hk⟩,fun h=>⟨rfl,fun k _ hk=>h.2.2 k hk⟩⟩⟩
theorem Ag4.val (c:List (List Int)) (st:List Int) (hn:c.length≤1048576) (hs:st.length≤1048576):∃ v,Ag4.F (c,st,())=some ((v,()),())/\(v=true↔A3o c st):=by
 by_cases hl:st.length=c.length
 . have hcf:=Ad6.val st (Ar8.cloG (())) (fun a=>!decide (0≤a/\a≤3)) (fun a _=>by
     show(Ar8.F (a,())).map (·.1)=_;rw[Ar8.eq,Ar8.T,Ab9.val];rfl) (by omega)
   by_cases ha:A0I 0 3 st
   . have hany:(st.any fun a=>!decide (0≤a/\a≤3))=false:=by
       simp only[zL];intro x hx;simp only[zF,decide_eq_false_iff_not,Classical.not_not];exact ha x hx
     obtain⟨v,hv,hv'⟩:=Ev.allP (L:=fun k i=>Ag4.l4 k st (i:Int) c) (a:=()) (b:=()) (n:=4) (fun i=>sumL st (A0w c i c.length)≤32) true (fun i hi=>by
       have E:=fun k=>Ag4.l4_eq k st (i:Int) c;simp only[if_pos (show decide ((i:Int)<4)=true by simp;omega),Aa4.val c 0 st [] (i:Int) (by omega) hn (by omega),zb,A0x (show i<4611686018427387904 by omega)]at E;by_cases h:sumL st (A0w c i c.length)≤32
       . exact .inl ⟨h,fun k=>by rw[E,if_neg (by simp only[decide_eq_true_eq];omega)]⟩
       . exact .inr ⟨h,fun k=>by rw[E,if_pos (by simp only[decide_eq_true_eq];omega)]⟩) ((Ev.const _).succ fun k=>by rw[Ag4.l4_eq,if_neg (by simp)]) 0 (zc _)
     exact⟨v,Ag4.of _ _ (hv.of_eq fun k=>by rw[Ag4.T,if_neg (by simp[hl]),hcf,hany];rfl),hv'.trans ⟨fun⟨_,h⟩=>⟨hl,ha,fun k hk=>h k (zc _) hk⟩,fun h=>⟨rfl,fun k _ hk=>h.2.2 k hk⟩⟩⟩
   . have hany:(st.any fun a=>!decide (0≤a/\a≤3))=true:=by
       refine Classical.byContradiction fun hc=>ha fun x hx=>?_;simp only[Bool.not_eq_true,zL,zF,decide_eq_false_iff_not,Classical.not_not]at hc;exact hc x hx
     exact⟨false,Ag4.of _ _ ((Ev.const _).of_eq fun k=>by rw[Ag4.T,if_neg (by simp[hl]),hcf,hany];rfl),by simp only[ze,false_iff];exact fun h=>ha h.2.1⟩
 . exact⟨false,Ag4.of _ _ ((Ev.const _).of_eq fun k=>by rw[Ag4.T,if_pos (by simp;omega)]),by simp only[ze,false_iff];exact fun h=>hl h.1⟩
def A3S (c:List (List Int)) (p:Int) (st:List Int) (m:MatV) (i j:Nat):Prop:=MatOk m/\m.1=p/\m.2.1=st.getD i 0/\m.2.2.1=st.getD ((fcs c i).getD j 0).toNat 0
def A4E (s:ShfV) (i:Nat):Prop:=∀ j,j<(fcs s.1 i).length->A3S s.1 s.2.1 s.2.2.1 (s.2.2.2.getD (off s.1 i+j) (0,0,0,[])) i j
def A0j (s:ShfV):Prop:=CplxOk s.1/\A1Y s.2.1/\A3o s.1 s.2.2.1/\s.2.2.2.length=off s.1 s.1.length/\∀ i,i<s.1.length->A4E s i
theorem A5Z (c:List (List Int)) {a b:Nat} (h:a≤b):off c a≤off c b:=by
 induction h with
 | refl=>exact zh _
 | step _ ih=>exact yn ih (yO _ _)
theorem A2u {c:List (List Int)} {i j:Nat} (hi:i<c.length) (hj:j<(fcs c i).length):off c i+j<off c c.length:=by
 have:=A5Z c (show i+1≤c.length by omega);rw[off]at this;omega
theorem Ar1.val (c:List (List Int)) (p:Int) (st:List Int) (ms:List MatV) (m:MatV) (h:CplxOk c) (hst:st.length=c.length) (hm:m.2.2.2.length<4611686018427387904) (i j:Nat) (hi:i<c.length) (hj:j<(fcs c i).length) :
   ∃ v,Ar1.F ((c,(p,(st,ms))),(i:Int),(j:Int),m,())=some ((v,()),())/\(v=true↔A3S c p st m i j):=by
 obtain⟨q,r,cc,xs⟩:=m;obtain⟨v1,h1,h1'⟩:=Aq8.val (q,r,cc,xs) hm;obtain⟨x,hx,hxc⟩:=A4y h hi (A0z (0:Int) hj);rw[Ar1.eq,Ar1.T,Aa6.val c h i hi];simp only[zb];rw[if_pos (by omega),h1];simp only[zb,za];unfold A3S;cases v1 with
 | false=>exact⟨false,by rw[if_neg (by simp)],by simp only[ze,false_iff];exact fun hh=>absurd (h1'.2 hh.1) (by simp)⟩
 | true =>
   have hmat:=h1'.1 rfl;rw[if_pos rfl];by_cases e1:q=p
   . rw[if_pos (by simp[e1]),if_pos (by omega)];by_cases e2:r=st.getD i 0
     . rw[if_pos (by simp only[beq_iff_eq];exact e2),if_pos (by rw[hx];omega)];exact⟨_,rfl,by simp only[beq_iff_eq];exact⟨fun e3=>⟨hmat,e1,e2,e3⟩,fun hh=>hh.2.2.2⟩⟩
     . exact⟨false,by rw[if_neg (by simp only[beq_iff_eq];exact e2)],by simp only[ze,false_iff];exact fun hh=>e2 hh.2.2.1⟩
   . exact⟨false,by rw[if_neg (by simp only[beq_iff_eq];exact e1)],by simp only[ze,false_iff];exact fun hh=>e1 hh.2.1⟩
theorem Ab5.val (s:ShfV) (hsm:SmSh s):∃ v,Ab5.F (s,())=some ((v,()),())/\(v=true↔A0j s):=by
 obtain⟨c,p,st,ms⟩:=s;obtain⟨hc,hst,hms⟩:=hsm;have hc:SmL c:=hc;have hst:st.length≤1048576:=hst;have hms:SmMs ms:=hms;unfold A0j;simp only[];obtain⟨v1,h1,h1'⟩:=Aa7.val c hc;obtain⟨v2,h2,h2'⟩:=Aj2.val p;obtain⟨v3,h3,h3'⟩:=Aj4.val c st hc.1 hst;have h2p:Ak1.F (p,())=some ((v2,()),()):=by rw[Ak1.eq,Ak1.T,h2];rfl
 cases v1 with
 | false=>exact⟨false,Ab5.of _ _ _ _ ((Ev.const _).of_eq fun k=>by rw[Ab5.T,h1];rfl),by simp only[ze,false_iff];exact fun hh=>absurd (h1'.2 hh.1) (by simp)⟩
 | true =>
 cases v2 with
 | false=>exact⟨false,Ab5.of _ _ _ _ ((Ev.const _).of_eq fun k=>by rw[Ab5.T,h1,h2p];rfl),by simp only[ze,false_iff];exact fun hh=>absurd (h2'.2 hh.2.1) (by simp)⟩
 | true =>
 cases v3 with
 | false=>exact⟨false,Ab5.of _ _ _ _ ((Ev.const _).of_eq fun k=>by rw[Ab5.T,h1,h2p,h3];rfl),by simp only[ze,false_iff];exact fun hh=>absurd (h3'.2 hh.2.2.1) (by simp)⟩
 | true =>
 have hcx:=h1'.1 rfl;have hstalk:=h3'.1 rfl;have hcl:=hcx.1;have hoff:=A1F hcx (zh c.length);have h4:As4.F (c,())=some ((((off c c.length:Nat):Int),()),()):=by
   have:=Ac8.val c hcx c.length (zh _) 0 (by omega);rw[As4.eq,As4.T,show(0:Int)=((0:Nat):Int)from rfl,this];rfl
 by_cases hlen:ms.length=off c c.length
 . obtain⟨v,hv,b,rfl,hb⟩:=Ev.loop (σ:=Unit) (R:=(Bool×Unit)×Unit) (fun k i _=>Ab5.l4 k c p st ms (i:Int)) c.length (fun i _=>∀ n,n<i->A4E (c,p,st,ms) n) (fun r=>∃ b,r=((b,()),())/\(b=true↔∀ n,n<c.length->A4E (c,p,st,ms) n))
     (fun i _ hi hI=>by
       have E4:∀ k,Ab5.l4 (k+1) c p st ms (i:Int)=Ab5.l7 k c p st ms (i:Int) ((0:Nat):Int):=fun k=>by rw[Ab5.l4_eq,if_pos (ltI.2 hi)];rfl
       have hlc:=(hcx.2 i hi).1.1;have step:∀ j,j<(fcs c i).length->∃ v,(v=true↔A3S c p st (ms.getD (off c i+j) (0,0,0,[])) i j)/\∀ k,Ab5.l7 (k+1) c p st ms (i:Int) (j:Int)=if (!v)=true then some ((false,()),())else Ab5.l7 k c p st ms (i:Int) ((j+1:Nat):Int):=fun j hj=>by
         have hlt:=A2u hi hj;have hj2:=hj;rw[A0R]at hj2;have h1l:1<(c.getD i []).length:=by
           by_cases hh:1<(c.getD i []).length
           . exact hh
           . rw[if_neg hh]at hj2;omega
         rw[if_pos h1l]at hj2;have hml:(ms.getD (off c i+j) (0,0,0,[])).2.2.2.length<4611686018427387904:=by
           have:(ms.getD (off c i+j) (0,0,0,[])).2.2.2.length≤1048576:=hms.2 _ (A0z _ (by omega));omega
         obtain⟨v,hv,hv'⟩:=Ar1.val c p st ms (ms.getD (off c i+j) (0,0,0,[])) hcx hstalk.1 hml i j hi hj;refine⟨v,hv',fun k=>?_⟩;rw[Ab5.l7_eq,if_pos (idxI.2 hi)];simp only[za];rw[if_pos (by simp only[decide_eq_true_eq];omega),if_pos (idxI.2 hi),if_pos (by simp only[decide_eq_true_eq];omega),Ac8.val c hcx i (by omega) j (by omega)];simp only[zb,za];rw[if_pos (by omega),hv];simp only[zb];rw[A0x (by omega)]
       have stop:∀ k,Ab5.l7 (k+1) c p st ms (i:Int) (((fcs c i).length:Nat):Int)=Ab5.l4 k c p st ms ((i+1:Nat):Int):=fun k=>by
         rw[Ab5.l7_eq,if_pos (idxI.2 hi),A0R];simp only[za];by_cases h1l:1<(c.getD i []).length
         . rw[if_pos h1l,if_neg (by simp),A0x (by omega)]
         . rw[if_neg h1l,if_pos (by simp only[decide_eq_true_eq];omega),if_pos (idxI.2 hi),if_neg (by simp only[decide_eq_true_eq];omega),A0x (by omega)]
       by_cases hP:A4E (c,p,st,ms) i
       . refine .inr ⟨(),fun n hn=>?_,(Goes.succ E4).trans ?_⟩
         . by_cases hni:n=i
           . rw[hni];exact hP
           . exact hI n (by omega)
         . obtain⟨_,_,hg⟩:=Goes.loop (σ:=Unit) (R:=(Bool×Unit)×Unit) (fun k j _=>Ab5.l7 k c p st ms (i:Int) (j:Int)) (fcs c i).length (fun _ _=>True) (fun j _ hj _=>⟨(),trivial,by
             obtain⟨v,hv,hv2⟩:=step j hj;have:v=true:=hv.2 (hP j hj);subst this;exact Goes.succ fun k=>by rw[hv2];rfl⟩) 0 () (zc _) trivial
           exact hg.trans (Goes.succ stop)
       . left;obtain⟨v,hv,hv'⟩:=Ev.loop (σ:=Unit) (R:=(Bool×Unit)×Unit) (fun k j _=>Ab5.l7 k c p st ms (i:Int) (j:Int)) (fcs c i).length (fun j _=>∀ n,n<j->A3S c p st (ms.getD (off c i+n) (0,0,0,[])) i n) (fun r=>r=((false,()),())) (fun j _ hj hJ=>by
           obtain⟨v,hv,hv2⟩:=step j hj;cases v with
           | false=>exact .inl ⟨_,(Ev.const _).succ fun k=>by rw[hv2];rfl,rfl⟩
           | true =>
             refine .inr ⟨(),fun n hn=>?_,Goes.succ fun k=>by rw[hv2];rfl⟩;by_cases hnj:n=j
             . rw[hnj];exact hv.1 rfl
             . exact hJ n (by omega)) (fun _ hJ=>absurd (fun j hj=>hJ j hj) hP) 0 () (zc _) (by intro n hn;omega)
         subst hv';exact⟨_,hv.succ E4,false,rfl,by simp only[ze,false_iff];exact fun hh=>hP (hh i hi)⟩)
     (fun _ hI=>⟨_,(Ev.const _).succ fun k=>by rw[Ab5.l4_eq,if_neg (by simp)],true,rfl,by simp only[true_iff];exact hI⟩) 0 () (zc _) (by intro n hn;omega)
   refine⟨b,Ab5.of _ _ _ _ (hv.of_eq fun k=>?_),hb.trans ⟨fun hh=>⟨hcx,h2'.1 rfl,hstalk,hlen,hh⟩,fun hh=>hh.2.2.2.2⟩⟩;rw[Ab5.T,h1,h2p,h3,h4];simp only[zb,zK,ze,if_false];rw[if_neg (by simp[hlen])];rfl
 . refine⟨false,Ab5.of _ _ _ _ ((Ev.const _).of_eq fun k=>?_),by simp only[ze,false_iff];exact fun hh=>hlen hh.2.2.2.1⟩;rw[Ab5.T,h1,h2p,h3,h4];simp only[zb,zK,ze,if_false];rw[if_pos (by simp;omega)]
theorem Af0.same (m n:MatV) (h:SmM m):∃ b,Af0.F (m,n,())=some ((b,()),())/\(b=true↔m=n):=by
 obtain⟨a,b,c,xs⟩:=m;obtain⟨a',b',c',ys⟩:=n;have hn:xs.length≤1048576:=h;simp only[yB];by_cases h1:a=a'
 . by_cases h2:b=b'
   . by_cases h3:c=c'
     . by_cases hl:xs.length=ys.length
       . obtain⟨e,he,he'⟩:=A1B (fun k i=>Af0.l4 k a b c xs a' b' c' ys (i:Int)) xs ys 0 hl (fun i hi=>⟨xs.getD i 0==ys.getD i 0,by simp,fun k=>by
           rw[Af0.l4_eq,if_pos (ltI.2 hi),if_pos (idxI.2 hi),if_pos (idx2 (hl▸hi))];simp only[za];rw[A0x (by omega)];rfl⟩) (fun k=>by rw[Af0.l4_eq,if_neg (by simp)])
         exact⟨e,Af0.of _ _ _ _ _ _ _ _ (he.of_eq fun k=>by rw[Af0.T,if_neg (by simp[h1]),if_neg (by simp[h2]),if_neg (by simp[h3]),if_neg (by simp[hl])];rfl),by simp[h1,h2,h3,he']⟩
       . exact⟨false,Af0.of _ _ _ _ _ _ _ _ ((Ev.const _).of_eq fun k=>by rw[Af0.T,if_neg (by simp[h1]),if_neg (by simp[h2]),if_neg (by simp[h3]),if_pos (by simp;omega)]),by simp[h1,h2,h3];intro e;exact hl (by rw[e])⟩
     . exact⟨false,Af0.of _ _ _ _ _ _ _ _ ((Ev.const _).of_eq fun k=>by rw[Af0.T,if_neg (by simp[h1]),if_neg (by simp[h2]),if_pos (by simp[h3])]),by simp[h3]⟩
   . exact⟨false,Af0.of _ _ _ _ _ _ _ _ ((Ev.const _).of_eq fun k=>by rw[Af0.T,if_neg (by simp[h1]),if_pos (by simp[h2])]),by simp[h2]⟩
 . exact⟨false,Af0.of _ _ _ _ _ _ _ _ ((Ev.const _).of_eq fun k=>by rw[Af0.T,if_pos (by simp[h1])]),by simp[h1]⟩
theorem Ao6.same (m n:MatV) (h:SmM m):∃ b,Ao6.F (m,n,())=some ((b,()),())/\(b=true↔m=n):=by
 obtain⟨a,b,c,xs⟩:=m;obtain⟨a',b',c',ys⟩:=n;obtain⟨e,he,he'⟩:=Ac7.same xs ys h;rw[Ao6.eq,Ao6.T,he];simp only[zb,yB];by_cases h1:a=a'
 . by_cases h2:b=b'
   . by_cases h3:c=c'
     . exact⟨e,by rw[if_pos (by simp[h1]),if_pos (by simp[h2]),if_pos (by simp[h3])],by simp[h1,h2,h3,he']⟩
     . exact⟨false,by rw[if_pos (by simp[h1]),if_pos (by simp[h2]),if_neg (by simp[h3])],by simp[h3]⟩
   . exact⟨false,by rw[if_pos (by simp[h1]),if_neg (by simp[h2])],by simp[h2]⟩
 . exact⟨false,by rw[if_neg (by simp[h1])],by simp[h1]⟩
theorem Goes.find {R T:Type} {L:Nat->Nat->Option R} {M:Nat->Option R} {n:Nat} (i0:Nat) (f:Nat->Option T) (res:T->R)
   (hstep:∀ i,i0≤i->i<n->(f i=none/\Goes (fun k=>L k i) (fun k=>L k (i+1)))∨(∃ t,f i=some t/\Ev (fun k=>L k i) (res t)))
   (hend:Goes (fun k=>L k n) M) (i:Nat) (h0:i0≤i) (hi:i≤n) :
   ((zM i (n-i)).findSome? f=none/\Goes (fun k=>L k i) M)∨(∃ t,(zM i (n-i)).findSome? f=some t/\Ev (fun k=>L k i) (res t)):=by
 have key:∀ m i,i0≤i->i+m=n->((zM i m).findSome? f=none/\Goes (fun k=>L k i) M)∨(∃ t,(zM i m).findSome? f=some t/\Ev (fun k=>L k i) (res t)):=by
   intro m;induction m with
   | zero => intro i h0 hi;obtain rfl:i=n:=by omega
             exact .inl ⟨rfl,hend⟩
   | succ m ih =>
     intro i h0 hi;rw[List.range'_succ,List.findSome?_cons];rcases hstep i h0 (by omega)with⟨h1,h2⟩|⟨t,h1,h2⟩
     . rw[h1];rcases ih (i+1) (by omega) (by omega)with⟨h3,h4⟩|⟨t,h3,h4⟩
       . exact .inl ⟨h3,h2.trans h4⟩
       . exact .inr ⟨t,h3,h2 _ h4⟩
     . rw[h1];exact .inr ⟨t,rfl,h2⟩
 exact key (n-i) i h0 (by omega)
def A0k (s:ShfV) (i j:Nat):MatV:=s.2.2.2.getD (off s.1 i+j) (0,0,0,[])
theorem A3C {c:List (List Int)} (h:CplxOk c) {k i:Nat} (hk:k<c.length) (hi:i<(fcs c k).length):∃ f:Nat,(fcs c k).getD i 0=(f:Int)/\f<c.length/\c.getD f []=A0E (c.getD k []) i/\i<(c.getD k []).length/\1<(c.getD k []).length:=by
 rw[A0R]at hi;have h1:1<(c.getD k []).length:=by
   by_cases h1:1<(c.getD k []).length
   . exact h1
   . rw[if_neg h1]at hi;omega
 rw[if_pos h1]at hi;have hf:(A0U (c.getD k []))=(zj (c.getD k []).length).map (A0E (c.getD k [])):=by rw[A0U,if_pos h1]
 have hm:A0E (c.getD k []) i∈A0U (c.getD k []):=by rw[hf];exact zw.2 ⟨i,zI.2 hi,rfl⟩
 obtain⟨h2,h3⟩:=A0D (A1Q h hk hm);refine⟨_,?_,h2,h3,hi,h1⟩;rw[fcs,hf];obtain⟨s,hs⟩:∃ s,c.getD k []=s:=⟨_,rfl⟩;rw[hs]at hi ⊢;simp only[zd,ye,z8 hi,yr,Option.getD_some]
theorem Ai5.val (s:ShfV) (h:CplxOk s.1) (n:Nat) (hn:n≤s.1.length):Ai5.F (s,(n:Int),())=some ((((off s.1 n:Nat):Int),()),()):=by
 obtain⟨c,p,st,ms⟩:=s;have h:CplxOk c:=h;have hn:n≤c.length:=hn;have hcl:=h.1;have hos:=A1F h hn;have hcut:cutL c (0:Int) (n:Int)=c.take n:=by simp[cutL]
 have hlen:(c.take n).length=n:=by simp;omega
 refine Ai5.of _ _ _ _ _ (Ev.of_eq (N:=fun k=>Ai5.l3 k 0 (c.take n) (n:Int) ((0:Nat):Int)) ?_ fun k=>by rw[Ai5.T,if_pos (by omega),hcut,hlen];rfl);obtain⟨x,hx,hg⟩:=Goes.loop (R:=((Int×Unit)×Unit)) (fun k i (x:Int)=>Ai5.l3 k x (c.take n) (n:Int) (i:Int)) n (fun i x=>x=(off c i:Int)) (fun i x hi h2=>⟨_,rfl,Goes.succ fun k=>by
   have hic:i<c.length:=by omega
   have hoff:=A1F h (show i≤c.length by omega);have h4:=(h.2 i hic).1.1.2;have ht:(c.take n).getD i []=c.getD i []:=by simp only[zd,ya,hi,if_true]
   rw[Ai5.l3_eq,if_pos (ltI.2 hi),if_pos (by rw[hlen];omega)];simp only[za,ht];rw[off,A0R];by_cases h1:1<(c.getD i []).length
   . rw[if_pos (by simp only[decide_eq_true_eq];omega),Ab8.eq,Ab8.T,if_pos h1];simp only[zb];rw[A0q (by omega) (by omega),A0x (by omega),h2];congr 1
   . rw[if_neg (by simp only[decide_eq_true_eq];omega),if_neg h1,A0x (by omega),h2];rfl⟩) 0 0 (zc _) rfl
 refine hg _ ((Ev.const _).succ fun k=>?_);rw[Ai5.l3_eq,if_neg (by simp),hx]
theorem Ac2.val (s:ShfV) (h:A0j s) (i j:Nat) (hi:i<s.1.length) (hj:j<(fcs s.1 i).length):Ac2.F (s,(i:Int),(j:Int),())=some ((A0k s i j,()),()):=by
 have h1:=Ai5.val s h.1 i (by omega);have h2:=A2u hi hj;have h3:=h.2.2.2.1;have h4:=A1F h.1 (zh s.1.length);have h5:=h.1.1;have hT:Ac2.F (s,(i:Int),(j:Int),())=Ac2.T s.1 s.2.1 s.2.2.1 s.2.2.2 (i:Int) (j:Int):=Ac2.eq _ _ _ _ _ _;have hw:zi.wrap (((off s.1 i:Nat):Int)+(j:Int))=((off s.1 i+j:Nat):Int):=by rw[A0q (by omega) (by omega)];omega
 have h1:Ai5.F ((s.1,(s.2.1,(s.2.2.1,s.2.2.2))),(i:Int),())=_:=h1;rw[hT,Ac2.T,h1];simp only[zb,hw];rw[if_pos (by omega)];simp only[za];rfl
theorem Ab0.val (s:ShfV) (h:A0j s) (i j:Nat) (hi:i<s.1.length) (hj:j<(fcs s.1 i).length):Ab0.F (s,(i:Int),(j:Int),())=some ((A0k s i j,()),()):=by
 have h2:=A2u hi hj;have h3:=h.2.2.2.1;have h4:=A1F h.1 (zh s.1.length);have h5:=h.1.1;have h1:=Ac8.val s.1 h.1 i (by omega) j (by omega);have hT:Ab0.F (s,(i:Int),(j:Int),())=Ab0.T s.1 s.2.1 s.2.2.1 s.2.2.2 (i:Int) (j:Int):=Ab0.eq _ _ _ _ _ _;rw[hT,Ab0.T,h1];simp only[zb];rw[if_pos (by omega)];simp only[za];rfl
def fc (c:List (List Int)) (k i:Nat):Nat:=((fcs c k).getD i 0).toNat
def sqA (s:ShfV) (k i j:Nat):MatV:=mulM (A0k s k i) (A0k s (fc s.1 k i) (j-1))
def sqB (s:ShfV) (k i j:Nat):MatV:=mulM (A0k s k j) (A0k s (fc s.1 k j) i)
theorem A0i {s:ShfV} (h:A0j s) {i j:Nat} (hi:i<s.1.length) (hj:j<(fcs s.1 i).length):A3S s.1 s.2.1 s.2.2.1 (A0k s i j) i j:=h.2.2.2.2 i hi j hj
structure SqFit (s:ShfV) (k i j:Nat) (f:Nat):Prop where
 at_:(fcs s.1 k).getD i 0=(f:Int)
 fc_:fc s.1 k i=f
 lt:f<s.1.length
 jlt:j<(fcs s.1 f).length
 ilt:i<(fcs s.1 k).length
 dir:Ag6.F (A0k s k i,A0k s f j,())=some ((mulM (A0k s k i) (A0k s f j),()),())
 tim:Ad4.F (A0k s k i,A0k s f j,())=some ((mulM (A0k s k i) (A0k s f j),()),())
 ok:MatOk (mulM (A0k s k i) (A0k s f j))
theorem A5H {s:ShfV} (h:A0j s) {k i j:Nat} (hk:k<s.1.length) (h3:2<(s.1.getD k []).length) (hi:i<(s.1.getD k []).length) (hj:j+1<(s.1.getD k []).length):∃ f,SqFit s k i j f:=by
 have hil:i<(fcs s.1 k).length:=by rw[A0R,if_pos (by omega)];exact hi
 obtain⟨f,h1,h2,h4,h5,h6⟩:=A3C h.1 hk hil;have hfl:(s.1.getD f []).length=(s.1.getD k []).length-1:=by rw[h4];exact A0O hi
 have hjl:j<(fcs s.1 f).length:=by rw[A0R,if_pos (by omega)];omega
 have m1:=A0i h hk hil;have m2:=A0i h h2 hjl;have hp:(A0k s k i).1=(A0k s f j).1:=by rw[m1.2.1,m2.2.1]
 have hs:(A0k s k i).2.2.1=(A0k s f j).2.1:=by rw[m1.2.2.2,m2.2.2.1,h1];rfl
 exact⟨f,h1,by rw[fc,h1,za],h2,hjl,hil,Ag6.val _ _ m1.1 m2.1 hp hs,Ad4.val _ _ m1.1 m2.1 hp hs,A4u m1.1 m2.1⟩
theorem MatOk.small {m:MatV} (h:MatOk m):SmM m:=by
 have:=A5Y h.2.1 h.2.2.1;have:=h.2.2.2.1;unfold SmM Sm;omega
noncomputable def A2n (s:ShfV) (k i j:Nat):Option (Nat×Nat×Nat):=@ite _ (sqA s k i j=sqB s k i j) (Classical.propDecidable _) none (some (k,i,j))
noncomputable def A3n (s:ShfV) (k n i:Nat):Option (Nat×Nat×Nat):=(zM (i+1) (n-(i+1))).findSome? (A2n s k i)
noncomputable def A1t (s:ShfV) (k:Nat):Option (Nat×Nat×Nat):=if (s.1.getD k []).length<3 then none else(zM 0 ((s.1.getD k []).length-0)).findSome? (A3n s k (s.1.getD k []).length)
noncomputable def A1u (s:ShfV):Option (Nat×Nat×Nat):=(zM 0 (s.1.length-0)).findSome? (A1t s)
theorem Ad1.val (s:ShfV) (h:A0j s):Ad1.F (s,())=some ((match A1u s with|none=>(0,0,false,())|some (k,i,j)=>((k:Int),(fcs s.1 (fc s.1 k i)).getD (j-1) 0,true,())),()):=by
 have hcl:=h.1.1;have hT:∀ r,Ev (fun k=>Ad1.T k s.1 s.2.1 s.2.2.1 s.2.2.2) r->Ad1.F (s,())=some r:=fun r hr=>Ad1.of _ _ _ _ hr;have res:∀ t:Nat×Nat×Nat,((Int×Int×Bool×Unit)×Unit):=fun t=>(((t.1:Int),(fcs s.1 (fc s.1 t.1 t.2.1)).getD (t.2.2-1) 0,true,()),());have main:=Goes.find (R:=((Int×Int×Bool×Unit)×Unit)) (L:=fun n k=>Ad1.l2 n s.1 (s.1.length:Int) (k:Int) s.1 s.2.1 s.2.2.1 s.2.2.2) (M:=fun _=>some ((0,0,false,()),())) (n:=s.1.length) 0 (A1t s) (fun t:Nat×Nat×Nat=>(((t.1:Int),(fcs s.1 (fc s.1 t.1 t.2.1)).getD (t.2.2-1) 0,true,()),())) (fun k _ hk=>by
   have E:=fun n=>Ad1.l2_eq n s.1 (s.1.length:Int) (k:Int) s.1 s.2.1 s.2.2.1 s.2.2.2;simp only[if_pos (ltI.2 hk),if_pos (idxI.2 hk),za,A0x (show k<4611686018427387904 by omega),Ab7.val s.1 h.1 k hk,zb]at E;by_cases h3:(s.1.getD k []).length<3
   . exact .inl ⟨by rw[A1t,if_pos h3],Goes.succ fun n=>by rw[E,if_pos (by simp only[decide_eq_true_eq];omega)]⟩
   obtain⟨t,ht⟩:∃ t,s.1.getD k []=t:=⟨_,rfl⟩;have h4:=(h.1.2 k hk).1.1.2;rw[ht]at h4 h3;have hw:A1t s k=(zM 0 (t.length-0)).findSome? (A3n s k t.length):=by rw[A1t,ht,if_neg h3]
   rw[hw];simp only[ht]at E;have e0:Goes (fun n=>Ad1.l2 n s.1 (s.1.length:Int) (k:Int) s.1 s.2.1 s.2.2.1 s.2.2.2) (fun n=>Ad1.l8 n t (k:Int) s.1 (s.1.length:Int) (k:Int) (t.length:Int) ((0:Nat):Int) s.1 s.2.1 s.2.2.1 s.2.2.2 (fcs s.1 k)):=Goes.succ fun n=>by rw[E,if_neg (by simp only[decide_eq_true_eq];omega)];rfl
   have inner:=Goes.find (R:=((Int×Int×Bool×Unit)×Unit)) (L:=fun n i=>Ad1.l8 n t (k:Int) s.1 (s.1.length:Int) (k:Int) (t.length:Int) (i:Int) s.1 s.2.1 s.2.2.1 s.2.2.2 (fcs s.1 k)) (M:=fun n=>Ad1.l2 n s.1 (s.1.length:Int) ((k+1:Nat):Int) s.1 s.2.1 s.2.2.1 s.2.2.2) (n:=t.length) 0 (A3n s k t.length) (fun t:Nat×Nat×Nat=>(((t.1:Int),(fcs s.1 (fc s.1 t.1 t.2.1)).getD (t.2.2-1) 0,true,()),())) (fun i _ hi=>by
     have e1:Goes (fun n=>Ad1.l8 n t (k:Int) s.1 (s.1.length:Int) (k:Int) (t.length:Int) (i:Int) s.1 s.2.1 s.2.2.1 s.2.2.2 (fcs s.1 k)) (fun n=>Ad1.l11 n t (k:Int) (i:Int) ((i+1:Nat):Int) s.1 (s.1.length:Int) (k:Int) (t.length:Int) (i:Int) s.1 s.2.1 s.2.2.1 s.2.2.2 (fcs s.1 k)):=Goes.succ fun n=>by rw[Ad1.l8_eq,if_pos (ltI.2 hi),A0x (by omega)]
     have deep:=Goes.find (R:=((Int×Int×Bool×Unit)×Unit)) (L:=fun n j=>Ad1.l11 n t (k:Int) (i:Int) (j:Int) s.1 (s.1.length:Int) (k:Int) (t.length:Int) (i:Int) s.1 s.2.1 s.2.2.1 s.2.2.2 (fcs s.1 k)) (M:=fun n=>Ad1.l8 n t (k:Int) s.1 (s.1.length:Int) (k:Int) (t.length:Int) ((i+1:Nat):Int) s.1 s.2.1 s.2.2.1 s.2.2.2 (fcs s.1 k)) (n:=t.length) (i+1) (A2n s k i) (fun t:Nat×Nat×Nat=>(((t.1:Int),(fcs s.1 (fc s.1 t.1 t.2.1)).getD (t.2.2-1) 0,true,()),())) (fun j hij hj=>by
       obtain⟨f,F⟩:=A5H h hk (by rw[ht];omega) (show i<_ by rw[ht];omega) (show j-1+1<_ by rw[ht];omega);obtain⟨g,G⟩:=A5H h hk (by rw[ht];omega) (show j<_ by rw[ht];omega) (show i+1<_ by rw[ht];omega);have hA:sqA s k i j=mulM (A0k s k i) (A0k s f (j-1)):=by rw[sqA,F.fc_]
       have hB:sqB s k i j=mulM (A0k s k j) (A0k s g i):=by rw[sqB,G.fc_]
       obtain⟨b,hb,hb'⟩:=Ao6.same (mulM (A0k s k i) (A0k s f (j-1))) (mulM (A0k s k j) (A0k s g i)) F.ok.small;have E2:=fun n=>Ad1.l11_eq n t (k:Int) (i:Int) (j:Int) s.1 (s.1.length:Int) (k:Int) (t.length:Int) (i:Int) s.1 s.2.1 s.2.2.1 s.2.2.2 (fcs s.1 k);simp only[if_pos (ltI.2 hj),Ac2.val s h k i hk F.ilt,Ac2.val s h k j hk G.ilt,A4h (show 0<j by omega) (show j<4611686018427387904 by omega),zb,if_pos (idxI.2 F.ilt),if_pos (idxI.2 G.ilt),za,F.at_,G.at_,Ac2.val s h f (j-1) F.lt F.jlt,Ac2.val s h g i G.lt G.jlt,F.dir,G.dir,hb,Ab7.val s.1 h.1 f F.lt,if_pos (idxI.2 F.jlt),A0x (show j<4611686018427387904 by omega)]at E2;cases b with
       | true=>exact .inl ⟨by rw[A2n,if_pos (by rw[hA,hB];exact hb'.1 rfl)],Goes.succ fun n=>by rw[E2,if_neg (by simp)]⟩
       | false=>exact .inr ⟨(k,i,j),by rw[A2n,if_neg (by rw[hA,hB];exact fun e=>absurd (hb'.2 e) (by simp))],(Ev.const _).succ fun n=>by rw[E2,if_pos (by simp)];simp only[F.fc_]⟩) (Goes.succ fun n=>by rw[Ad1.l11_eq,if_neg (by simp),A0x (by omega)]) (i+1) (zh _) (by omega)
     rcases deep with⟨d1,d2⟩|⟨r,d1,d2⟩
     . exact .inl ⟨d1,e1.trans d2⟩
     . exact .inr ⟨r,d1,e1 _ d2⟩) (Goes.succ fun n=>by rw[Ad1.l8_eq,if_neg (by simp),A0x (by omega)]) 0 (zh _) (zc _)
   rcases inner with⟨d1,d2⟩|⟨r,d1,d2⟩
   . exact .inl ⟨d1,e0.trans d2⟩
   . exact .inr ⟨r,d1,e0 _ d2⟩) (Goes.succ fun n=>by rw[Ad1.l2_eq,if_neg (by simp)]) 0 (zh _) (zc _)
 rcases main with⟨d1,d2⟩|⟨⟨k,i,j⟩,d1,d2⟩
 . rw[A1u,d1];exact hT _ ((d2 _ (Ev.const _)).of_eq fun n=>rfl)
 . rw[A1u,d1];exact hT _ (d2.of_eq fun n=>rfl)
theorem A2g {xs:List Int} (h:A1b xs):∀ i j,i<j->j<xs.length->xs.getD i 0<xs.getD j 0:=by
 intro i j hij hj;induction j with
 | zero=>omega
 | succ j ih =>
   have h1:=h (j+1) (by omega) hj;simp only[z9]at h1;by_cases e:i=j
   . subst e;exact h1
   . have:=ih (by omega) (by omega);omega
theorem A1O {xs:List Int} (h:A1b xs):xs.Nodup:=by
 rw[yc,zz];intro i j hi hj hij;have:=A2g h i j hij hj;rw[A0y hi,A0y hj]at this;omega
theorem A1w:∀ {xs ys:List Int},xs.Nodup->(∀ x∈xs,x∈ys)->xs.length≤ys.length
 | [],_,_,_=>zc _
 | x::xs,ys,hn,h=>by
   rw[List.nodup_cons]at hn;have hx:=h x (by simp);have:=A1w (xs:=xs) (ys:=ys.erase x) hn.2 fun y hy=>(List.mem_erase_of_ne (fun e:y=x=>hn.1 (e▸hy))).2 (h y (by simp[hy]));rw[List.length_erase_of_mem hx]at this;have h2:0<ys.length:=List.length_pos_of_mem hx;simp only[zf];omega
theorem A4d {xs ys:List Int} (hx:A1b xs) (hy:A1b ys) (h:∀ x∈xs,x∈ys) (hl:ys.length≤xs.length):xs=ys:=by
 have pw:∀ {zs:List Int},A1b zs->zs.Pairwise (·<·):=fun {zs} hz=>by
   rw[zz];intro i j hi hj hij;have:=A2g hz i j hij hj
   rwa [A0y hi,A0y hj]at this
 have key:∀ (xs ys:List Int),xs.Pairwise (·<·)->ys.Pairwise (·<·)->(∀ x∈xs,x∈ys)->ys.length≤xs.length->xs=ys:=by
   intro xs;induction xs with
   | nil=>intro ys _ _ _ hl;exact(zN.1 (by simpa using hl)).symm
   | cons x xs ih =>
     intro ys hx hy h hl;cases ys with
     | nil=>exact absurd (h x (by simp)) (by simp)
     | cons y ys =>
       rw[zn]at hx hy;by_cases e:x=y
       . subst e;rw[ih ys hx.2 hy.2 (fun z hz=>by
           have:=h z (by simp[hz]);simp only[zq]at this;rcases this with rfl|this
           . have:=hx.1 z hz;omega
           . exact this) (by simpa using hl)]
       . have hxm:x∈ys:=by
           have:=h x (by simp);simp only[zq]at this;exact this.resolve_left e
         have hsub:∀ z∈x::xs,z∈ys:=fun z hz=>by
           have h1:=h z hz;simp only[zq]at h1 hz;rcases h1 with rfl|h1
           . have h3:=hy.1 x hxm;rcases hz with rfl|hz
             . omega
             . have:=hx.1 z hz;omega
           . exact h1
         have hnd:(x::xs).Nodup:=by
           rw[yc,zn];exact⟨fun z hz=>by have:=hx.1 z hz;omega,hx.2.imp fun h=>by omega⟩
         have:=A1w hnd hsub;simp only[zf]at hl this;omega
 exact key xs ys (pw hx) (pw hy) h hl
theorem A5b {f t:List Int} (ht:t.Nodup) (hl:f.length<t.length):∃ j,j<t.length/\t.getD j 0∉f/\∀ i,i<j->t.getD i 0∈f:=by
 obtain⟨m,hm⟩:∃ m,m<t.length/\t.getD m 0∉f:=Classical.byContradiction fun hc=>by
   have:∀ x∈t,x∈f:=fun x hx=>by
     obtain⟨j,hj,rfl⟩:=zk hx;refine Classical.byContradiction fun hn=>hc ⟨j,hj,?_⟩
     rwa [A0y hj]
   have:=A1w ht this;omega
 have key:∀ m,(m<t.length/\t.getD m 0∉f)->∃ j,j<t.length/\t.getD j 0∉f/\∀ i,i<j->t.getD i 0∈f:=by
   intro m;induction m using Nat.strongRecOn with
   | ind m ih =>
     intro ⟨h1,h2⟩;by_cases h:∀ i,i<m->t.getD i 0∈f
     . exact⟨m,h1,h2,h⟩
     . obtain⟨i,hi⟩:=Classical.not_forall.1 h;obtain⟨hi,hi2⟩:=Classical.not_imp.1 hi;exact ih i hi ⟨by omega,hi2⟩
 exact key m hm
theorem A5S {f t:List Int} {j:Nat} (hj:j<t.length) (h:∀ x∈f,x∈t) (hn:t.getD j 0∉f):∀ x∈f,x∈A0E t j:=by
 intro x hx;obtain⟨i,hi,rfl⟩:=zk (h x hx);have hij:i≠j:=by
   rintro rfl;rw[A0y hi]at hn;exact hn hx
 unfold A0E;rw[zS];by_cases h2:i<j
 . left;rw[yf];exact⟨i,by omega,rfl⟩
 . right;rw[yg];exact⟨i-(j+1),by omega,by congr 1;omega⟩
def StepOk (s:ShfV) (f i n:Nat) (m:MatV):Prop:=(n=0->m=A2K s.2.1 (s.2.2.1.getD f 0).toNat)/\(n=1->∃ j,j<(s.1.getD i []).length/\(s.1.getD i []).getD j 0∉s.1.getD f []/\m=mulM (A0k s i j) (A2K s.2.1 (s.2.2.1.getD f 0).toNat))
theorem A1G (s:ShfV) (h:A0j s) (f:Nat) (hf:f<s.1.length):∀ (n i:Nat),i<s.1.length->(s.1.getD i []).length=(s.1.getD f []).length+n->(∀ x∈s.1.getD f [],x∈s.1.getD i []) →
   ∃ m,StepOk s f i n m/\MatOk m/\m.1=s.2.1/\m.2.1=s.2.2.1.getD i 0/\m.2.2.1=s.2.2.1.getD f 0/\(∀ q,n<q->Ad5.R q (s,(f:Int),(i:Int),())=some ((m,()),()))/\∀ q,n<q->Ae6.R q (s,(f:Int),(i:Int),())=some ((m,()),()):=by
 have hn:=h.1.1;have hl:s.2.2.1.length=s.1.length:=h.2.2.1.1;have hp:=h.2.1;intro n;induction n with
 | zero =>
   intro i hi hlen hsub;have e:s.1.getD f []=s.1.getD i []:=A4d (h.1.2 f hf).1.2.2 (h.1.2 i hi).1.2.2 hsub (by omega);have e:f=i:=A1W h.1.sorted hf hi e;subst e;obtain⟨z1,z2⟩:=st_nat' h.2.2.1.2.1 f;have hu:=Ap9.val s.2.1 (s.2.2.1.getD f 0).toNat z2;have hu2:=Al4.val s.2.1 (s.2.2.1.getD f 0).toNat z2;rw[z1]at hu hu2;refine⟨A2K s.2.1 (s.2.2.1.getD f 0).toNat,⟨fun _=>rfl,fun h=>by omega⟩,A5l hp z2,rfl,z1,z1,fun q hq=>?_,fun q hq=>?_⟩
   . obtain⟨q,rfl⟩:∃ p,q=p+1:=⟨q-1,by omega⟩;have hT:Ad5.R (q+1) (s,(f:Int),(f:Int),())=Ad5.T (Ad5.R q) s.1 s.2.1 s.2.2.1 s.2.2.2 (f:Int) (f:Int):=Ad5.eq _ _ _ _ _ _ _;rw[hT,Ad5.T,if_pos (by simp),if_pos (idxI.2 (by omega)),za,hu];rfl
   . obtain⟨q,rfl⟩:∃ p,q=p+1:=⟨q-1,by omega⟩;refine Ae6.of (Ae6.R q) s.1 s.2.1 s.2.2.1 s.2.2.2 (f:Int) (f:Int) ((Ev.const _).of_eq fun k=>?_);rw[Ae6.T,if_pos (by simp),if_pos (idxI.2 (by omega)),za,hu2];rfl
 | succ n ih =>
   intro i hi hlen hsub;have hti:=(h.1.2 i hi).1;have htf:=(h.1.2 f hf).1;have hne:f≠i:=by rintro rfl;omega
   obtain⟨j,hj,hj1,hj2⟩:=A5b (f:=s.1.getD f []) (t:=s.1.getD i []) (A1O hti.2.2) (by omega);have h1:1<(s.1.getD i []).length:=by have:=htf.1.1;omega
   have hfl:(fcs s.1 i).length=(s.1.getD i []).length:=by rw[A0R,if_pos h1]
   have hmem:A0E (s.1.getD i []) j∈A0U (s.1.getD i []):=mem_faces.2 ⟨h1,j,hj,rfl⟩;obtain⟨m1,m2⟩:=A0D (A1Q h.1 hi hmem);obtain⟨M,hM⟩:∃ M,M=A0C s.1 (A0E (s.1.getD i []) j):=⟨_,rfl⟩;have hfj:(fcs s.1 i).getD j 0=(M:Int):=by
     have e1:fcs s.1 i=(zj (s.1.getD i []).length).map fun k=>((A0C s.1 (A0E (s.1.getD i []) k):Nat):Int):=by
       unfold fcs A0U;rw[if_pos h1,yG];rfl
     rw[e1,A0y (by simpa using hj),hM];simp only[yl,yb]
   rw[<-hM]at m1 m2;have hlenM:(s.1.getD M []).length=(s.1.getD f []).length+n:=by rw[m2,A0O hj];omega
   obtain⟨r,r0,r1,r2,r3,r4,r5,r6⟩:=ih M m1 hlenM (by rw[m2];exact A5S hj hsub hj1);obtain⟨k1,k2,k3,k4⟩:=h.2.2.2.2 i hi j (by omega);have k1:MatOk (A0k s i j):=k1;have k2:(A0k s i j).1=s.2.1:=k2;have k3:(A0k s i j).2.1=s.2.2.1.getD i 0:=k3;have k4:(A0k s i j).2.2.1=s.2.2.1.getD M 0:=by
     have:(A0k s i j).2.2.1=s.2.2.1.getD ((fcs s.1 i).getD j 0).toNat 0:=k4;rw[this,hfj,za]
   have p1:=Ag6.val (A0k s i j) r k1 r1 (by rw[k2,r2]) (by rw[k4,r3]);have p2:=Ad4.val (A0k s i j) r k1 r1 (by rw[k2,r2]) (by rw[k4,r3]);refine⟨mulM (A0k s i j) r,⟨fun h=>by omega,fun h=>⟨j,hj,hj1,by rw[r0.1 (by omega)]⟩⟩,A4u k1 r1,k2,k3,r4,fun q hq=>?_,fun q hq=>?_⟩
   . obtain⟨q,rfl⟩:∃ p,q=p+1:=⟨q-1,by omega⟩;have hT:Ad5.R (q+1) (s,(f:Int),(i:Int),())=Ad5.T (Ad5.R q) s.1 s.2.1 s.2.2.1 s.2.2.2 (f:Int) (i:Int):=Ad5.eq _ _ _ _ _ _ _;obtain⟨w,hw,hw'⟩:=Ah3.val (s.1.getD i []) (As2.cloG (s.1.getD f [],())) (fun x=>!decide (x∈s.1.getD f [])) (fun x _=>by
       show(As2.F (x,s.1.getD f [],())).map (·.1)=_;rw[As2.eq,As2.T,Aq7.val _ x (by have:=htf.1.2;omega)];rfl) (by have:=hti.1.2;omega)
     have hwj:w=(j:Int):=by
       rcases hw' with⟨-,hall⟩|⟨j',a1,a2,a3,a4⟩
       . have:=hall _ (A0z 0 hj);simp only[yF,decide_eq_true_eq]at this;exact absurd this hj1
       . simp only[zF,decide_eq_false_iff_not]at a3;have:j'=j:=by
           rcases yd j' j with h|h|h
           . exact absurd (hj2 j' h) a3
           . exact h
           . have:=a4 j h;simp only[yF,decide_eq_true_eq]at this;exact absurd this hj1
         rw[a2,this]
     subst hwj;have d1:Ac2.F ((s.1,(s.2.1,(s.2.2.1,s.2.2.2))),(i:Int),(j:Int),())=_:=Ac2.val s h i j hi (by omega);have d2:Ad5.R q ((s.1,(s.2.1,(s.2.2.1,s.2.2.2))),(f:Int),(M:Int),())=_:=r5 q (by omega);rw[hT,Ad5.T,if_neg (by simp;omega),if_pos (idxI.2 hf),if_pos (idxI.2 hi)];simp only[za,hw,zb,Ab7.val s.1 h.1 i hi];rw[if_pos (idxI.2 (by omega)),d1];simp only[zb,hfj,d2,p1]
   . obtain⟨q,rfl⟩:∃ p,q=p+1:=⟨q-1,by omega⟩;have d1:Ab0.F ((s.1,(s.2.1,(s.2.2.1,s.2.2.2))),(i:Int),(j:Int),())=_:=Ab0.val s h i j hi (by omega);have d2:Ae6.R q ((s.1,(s.2.1,(s.2.2.1,s.2.2.2))),(f:Int),(M:Int),())=_:=r6 q (by omega);refine Ae6.of (Ae6.R q) s.1 s.2.1 s.2.2.1 s.2.2.2 (f:Int) (i:Int) ?_;obtain⟨x,-,hg⟩:=Goes.loop (σ:=Unit) (R:=((MatV×Unit)×Unit)) (fun k m _=>Ae6.l5 (Ae6.R q) k s.1 s.2.1 s.2.2.1 s.2.2.2 (f:Int) (i:Int) (s.1.getD i []) (m:Int) 0 0 0 []) j (fun _ _=>True) (fun m _ hm _=>⟨(),trivial,Goes.succ fun k=>by
       rw[Ae6.l5_eq,if_pos (idxI.2 hf),if_pos (idxI.2 (by omega))];simp only[za,Al3.val _ _ (show(s.1.getD f []).length<4611686018427387904 by have:=htf.1.2;omega),zb];rw[if_pos (decide_eq_true (hj2 m hm)),A0x (by have:=hti.1.2;omega)]⟩) 0 () (zc _) trivial
     refine Ev.of_eq (hg _ ((Ev.const _).succ fun k=>?_)) fun k=>?_
     . rw[Ae6.l5_eq,if_pos (idxI.2 hf),if_pos (idxI.2 hj)];simp only[za,Al3.val _ _ (show(s.1.getD f []).length<4611686018427387904 by have:=htf.1.2;omega),zb];rw[if_neg (fun hh=>hj1 (of_decide_eq_true hh)),Aa6.val s.1 h.1 i hi];simp only[zb];rw[if_pos (idxI.2 (by omega)),hfj,d2];simp only[zb,d1,p2]
     . rw[Ae6.T,if_neg (by simp;omega),if_pos (idxI.2 hi),za];rfl
theorem Aa3.val (xs:List Int) (h:xs.length≤1048576):Aa3.F (xs,())=some ((xs,()),()):=by
 rw[Aa3.eq,Aa3.T,if_pos (by simp only[zg,bigA];omega)];rfl
theorem An5.val (c:List (List Int)) (h:CplxOk c):An5.F (c,3,())=some ((c,()),()):=by
 have hn:=h.small.1;refine An5.of _ _ ?_;obtain⟨s,hs,hg⟩:=Goes.loop (R:=((List (List Int)×Unit)×Unit)) (fun k i (x:List (List Int))=>An5.l3 k c 3 (i:Int) [] x) c.length (fun i x=>x=c.take i) (fun i x hi h2=>⟨_,rfl,Goes.succ fun k=>by
   have h4:=(h.2 i hi).1.1.2;rw[An5.l3_eq,if_pos (ltI.2 hi),if_pos (idxI.2 hi),A0q (x:=(3:Int)+1) (by omega) (by omega)];simp only[za,Aa3.val _ (h.small.2 _ (A0z [] hi)),zb];rw[if_pos (by simp only[decide_eq_true_eq];omega),if_pos (idxI.2 hi),if_pos (by rw[h2];simp only[zH,zf,zg,bigA];omega),A0x (by omega),h2,zx,zr hi,zJ,A0y hi]⟩) 0 [] (zc _) rfl
 rw[zo (zh _)]at hs;refine Ev.of_eq (hg _ ((Ev.const _).succ fun k=>?_)) fun k=>rfl;rw[An5.l3_eq,if_neg (by simp),hs]
theorem Goes.push {A R:Type} (L:Nat->Nat->List A->Option R) (n:Nat) (f:Nat->A) (hstep:∀ i s,i<n->s.length=i->Goes (fun k=>L k i s) (fun k=>L k (i+1) (s++[f i]))):Goes (fun k=>L k 0 []) (fun k=>L k n ((zj n).map f)):=by
 obtain⟨s,hs,hg⟩:=Goes.loop (R:=R) L n (fun i s=>s=(zj i).map f) (fun i s hi h2=>⟨s++[f i],by rw[h2,zt,zm];rfl,hstep i s hi (by rw[h2];simp)⟩) 0 [] (zc _) rfl;rw[<-hs];exact hg
theorem A1D {A:Type} {s:List A} {x:A} {i:Nat} (h:s.length=i) (hi:i<1048576):s.length+[x].length≤bigA:=by simp only[zf,zg,bigA];omega
theorem A0H {A:Type} (f:Nat->A) {n i:Nat} (d:A) (h:i<n):((zj n).map f).getD i d=f i:=by simp[zd,h]
theorem Goes.fillG {A R:Type} (L:Nat->Nat->List A->Option R) (n:Nat) (d:A) (z:List A) (hz:z.length=n) (f:Nat->A) (hstep:∀ i s,i<n->s.length=n->s.getD i d=z.getD i d->Goes (fun k=>L k i s) (fun k=>L k (i+1) (s.set i (f i)))):Goes (fun k=>L k 0 z) (fun k=>L k n ((zj n).map f)):=by
 obtain⟨s,⟨hl,hs,-⟩,hg⟩:=Goes.loop (R:=R) L n (fun i s=>s.length=n/\(∀ j,j<i->s.getD j d=f j)/\∀ j,i≤j->s.getD j d=z.getD j d) (fun i s hi ⟨h1,h2,h3⟩=>⟨s.set i (f i),⟨by simp[h1],fun j hj=>by
     by_cases hij:i=j
     . subst hij;simp[zd,h1,hi]
     . have:=h2 j (by omega);simp only[zd,yj]at this ⊢;rw[if_neg hij];exact this,fun j hj=>by
       have:=h3 j (by omega);simp only[zd,yj]at this ⊢;rw[if_neg (by omega)];exact this⟩,hstep i s hi h1 (h3 i (zh _))⟩) 0 z (zc _) ⟨hz,fun j hj=>by omega,fun _ _=>rfl⟩
 have e:s=(zj n).map f:=by
   refine zG (by simp[hl]) fun i h1 h2=>?_;have:=hs i (by omega);rw[zd,zr h1]at this;simpa using this
 rw[<-e];exact hg
theorem Am4.val (m:MatV) (h:m.2.2.2.length≤1048576):Am4.F (m,())=some ((m,()),()):=by
 have hT:Am4.F (m,())=Am4.T m.1 m.2.1 m.2.2.1 m.2.2.2:=Am4.eq _ _ _ _;rw[hT,Am4.T,Ab2.val _ h];rfl
def A2E (c:List (List Int)) (g:A2z->MatV):List MatV:=(arr c c.length).map g
theorem A1i (c:List (List Int)) (g:A2z->MatV):(A2E c g).length=off c c.length:=by simp[A2E,A0N]
theorem A1K (c:List (List Int)) (g:A2z->MatV):A2E c g=(zj (arr c c.length).length).map fun q=>g ((arr c c.length).getD q (0,0,0)):=by
 rw[A2E];apply zG
 . simp
 . intro i h1 h2;simp only[zp]at h1;simp[h1]
theorem Aj9.val (c:List (List Int)) (p:Int) (st:List Int) (f:A2z×Unit->Option (MatV×Unit)) (g:A2z->MatV) (h:CplxOk c) (hst:st.length≤1048576)
   (hf:∀ e∈arr c c.length,f (e,())=some (g e,())/\(g e).2.2.2.length≤1048576):Aj9.F (c,p,st,f,())=some (((c,p,st,A2E c g),()),()):=by
 have ho:=A1F h (zh c.length);have hn:=h.1;refine Aj9.of _ _ _ _ ?_;have hp:=Goes.push (R:=((ShfV×Unit)×Unit)) (fun k i (s:List MatV)=>Aj9.l3 k f ((arr c c.length).length:Int) (i:Int) [] 0 [] [] c p st s (arr c c.length)) (arr c c.length).length (fun q=>g ((arr c c.length).getD q (0,0,0))) (fun i s hi hs=>Goes.succ fun k=>by
   obtain⟨h1,h2⟩:=hf _ (A0z (0,0,0) hi);rw[A0N]at hi;rw[Aj9.l3_eq,if_pos (by rw[A0N];exact ltI.2 hi),if_pos (by rw[A0N];omega)];simp only[za,h1,zb,Am4.val _ h2];rw[if_pos (A1D hs (by omega)),A0x (by omega)])
 refine Ev.of_eq (hp _ ((Ev.const _).succ fun k=>?_)) fun k=>?_
 . rw[Aj9.l3_eq,if_neg (by simp),<-A1K]
 . rw[Aj9.T,Ae1.same c h.small h.sorted,Ab2.val _ hst,Ae3.val c h];rfl
def newM (p:Int) (st:List Int) (e:A2z):MatV:=(p,st.getD e.1.toNat 0,st.getD e.2.2.toNat 0,zC ((st.getD e.1.toNat 0).toNat*(st.getD e.2.2.toNat 0).toNat) 0)
theorem A5I {st:List Int} (h:A0I 0 3 st) (k:Nat):((st.getD k 0).toNat:Int)=st.getD k 0/\(st.getD k 0).toNat≤3:=by
 by_cases hk:k<st.length
 . have:=h _ (A0z 0 hk);omega
 . rw[zd,yw (by omega)];simp
theorem Ag2.val (c:List (List Int)) (p:Int) (st:List Int) (h:CplxOk c) (hl:st.length=c.length) (hst:A0I 0 3 st):Ag2.F (c,p,st,())=some (((c,p,st,A2E c (newM p st)),()),()):=by
 have hn:=h.1;refine Ag2.of _ _ _ ?_;obtain⟨x,hx,hg⟩:=Goes.loop (R:=((ShfV×Unit)×Unit)) (fun k i (x:List MatV)=>Ag2.l3 k c p st (i:Int) [] 0 [] [] c p st x) c.length (fun i x=>x=(arr c i).map (newM p st)) (fun i x hi h2=>by
   have hoff:=A1F h (show i≤c.length by omega);have h5:=A1R h hi;have e5:(fcs c i).length=(A0U (c.getD i [])).length:=by simp[fcs]
   refine⟨_,rfl,(Goes.succ fun k=>by rw[Ag2.l3_eq,if_pos (ltI.2 hi),Aa6.val c h i hi]).trans ?_⟩;obtain⟨y,hy,hg2⟩:=Goes.loop (R:=((ShfV×Unit)×Unit)) (fun k j (y:List MatV)=>Ag2.l7 k c p st (i:Int) (j:Int) [] 0 [] [] c p st y (fcs c i)) (fcs c i).length (fun j y=>y=(arr c i).map (newM p st)++(zj j).map fun(j:Nat)=>newM p st ((i:Int),(j:Int),(fcs c i).getD j 0)) (fun j y hj h3=>⟨_,rfl,Goes.succ fun k=>by
     obtain⟨q,hq,hq'⟩:=A4y h hi (A0z 0 hj);obtain⟨z1,z1'⟩:=A5I hst i;obtain⟨z2,z2'⟩:=A5I hst q;have z:=Af5.val p (st.getD i 0).toNat (st.getD q 0).toNat (by omega) (by omega);rw[z1,z2]at z;rw[Ag2.l7_eq,if_pos (ltI.2 hj),if_pos (idxI.2 (by omega)),if_pos (idxI.2 hj)];simp only[za];rw[hq,if_pos (idxI.2 (by omega))];simp only[za,z,zb];rw[if_pos (by rw[h3];simp only[zv,zp,zu,zf,zg,A0N,bigA];omega),A0x (by omega),h3,zt,zm,zY];simp only[yU,List.map_nil,newM,hq,za]⟩) 0 x (zc _) (by simp[h2])
   refine hg2.trans (Goes.succ fun k=>?_);rw[Ag2.l7_eq,if_neg (by simp),A0x (by omega),hy,A2M,zm,A4U,yG];rfl) 0 [] (zc _) rfl
 refine Ev.of_eq (hg _ ((Ev.const _).succ fun k=>?_)) fun k=>?_
 . rw[Ag2.l3_eq,if_neg (by simp),hx];rfl
 . rw[Ag2.T,An5.val c h,Aa3.val _ (by omega)];rfl
noncomputable def A0r (s:ShfV) (f i:Nat):MatV:=match Ad5.F (s,(f:Int),(i:Int),())with
 | some r=>r.1.1
 | none=>(0,0,0,[])
theorem A4c {s:ShfV} (h:A0j s) {f i:Nat} (hf:f<s.1.length) (hi:i<s.1.length) (hsub:∀ x∈s.1.getD f [],x∈s.1.getD i []) :
   MatOk (A0r s f i)/\Ad5.F (s,(f:Int),(i:Int),())=some ((A0r s f i,()),())/\Ae6.F (s,(f:Int),(i:Int),())=some ((A0r s f i,()),()):=by
 have htf:=(h.1.2 f hf).1;have hle:=A1w (A1O htf.2.2) hsub;obtain⟨m,m0,m1,m2,m3,m4,m5,m6⟩:=A1G s h f hf ((s.1.getD i []).length-(s.1.getD f []).length) i hi (by omega) hsub;have c1:Ad5.F (s,(f:Int),(i:Int),())=some ((m,()),()):=Ad5.ofR ⟨_,fun q hq=>m5 q (yk hq)⟩;have c2:Ae6.F (s,(f:Int),(i:Int),())=some ((m,()),()):=Ae6.ofR ⟨_,fun q hq=>m6 q (yk hq)⟩;have e:A0r s f i=m:=by unfold A0r;rw[c1]
 rw[e];exact⟨m1,c1,c2⟩
theorem A4X {t:List Int} {j:Nat}:∀ x∈A0E t j,x∈t:=by
 intro x hx;unfold A0E at hx;rw[zS]at hx;exact hx.elim zD yx
theorem A5W (c:List (List Int)) (im:List Int) {s t:List Int} (h:∀ x∈s,x∈t):∀ x∈imgS c im s,x∈imgS c im t:=by
 intro x hx;have h1:=(A1p (imgL c im s)).2 x;have h2:=(A1p (imgL c im t)).2 x;rw[imgS,h2];rw[imgS,h1]at hx;unfold imgL at *;obtain⟨v,hv,rfl⟩:=zw.1 hx;exact zw.2 ⟨v,h v hv,rfl⟩
def plAt (s:ShfV) (c:List (List Int)) (im:List Int) (k:Nat):Nat:=A0C s.1 (imgS c im (c.getD k []))
def A0Y (s:ShfV) (c:List (List Int)) (im:List Int):List Int:=(zj c.length).map fun k=>((plAt s c im k:Nat):Int)
def A0J (s:ShfV) (c:List (List Int)) (im:List Int):List Int:=(zj c.length).map fun k=>s.2.2.1.getD (plAt s c im k) 0
noncomputable def A1M (s:ShfV) (c:List (List Int)) (im:List Int):List MatV:=A2E c fun e=>A0r s (plAt s c im e.2.2.toNat) (plAt s c im e.1.toNat)
noncomputable def pulS (s:ShfV) (c:List (List Int)) (im:List Int):ShfV:=(c,s.2.1,A0J s c im,A1M s c im)
theorem A1k {s:ShfV} {c:List (List Int)} {im:List Int} (hm:A4T c s.1 im) {k:Nat} (hk:k<c.length):plAt s c im k<s.1.length/\s.1.getD (plAt s c im k) []=imgS c im (c.getD k []):=A0D (hm.2 _ (A0z [] hk))
theorem A2e {s:ShfV} (h:A0j s) (c:List (List Int)) (im:List Int):A0I 0 3 (A0J s c im):=fun x hx=>by
 unfold A0J at hx;obtain⟨k,-,rfl⟩:=zw.1 hx;obtain⟨h1,h2⟩:=A5I h.2.2.1.2.1 (plAt s c im k);omega
theorem A3B {c:List (List Int)} (hc:CplxOk c) {k j:Nat} (hk:k<c.length) (hj:j<(fcs c k).length):∃ f:Nat,(fcs c k).getD j 0=(f:Int)/\f<c.length/\∀ x∈c.getD f [],x∈c.getD k []:=by
 have hfl:=A0R c k;have h1:1<(c.getD k []).length:=by
   by_cases h:1<(c.getD k []).length
   . exact h
   . rw[if_neg h]at hfl;omega
 rw[if_pos h1]at hfl;have hj':j<(c.getD k []).length:=by omega
 have hmem:A0E (c.getD k []) j∈A0U (c.getD k []):=mem_faces.2 ⟨h1,j,hj',rfl⟩;obtain⟨m1,m2⟩:=A0D (A1Q hc hk hmem);refine⟨A0C c (A0E (c.getD k []) j),?_,m1,fun x hx=>?_⟩
 . have e1:fcs c k=(zj (c.getD k []).length).map fun q=>((A0C c (A0E (c.getD k []) q):Nat):Int):=by
     unfold fcs A0U;rw[if_pos h1,yG];rfl
   rw[e1,A0y (by simpa using hj')];simp only[yl,yb]
 . rw[m2]at hx;exact A4X x hx
theorem A5q {s:ShfV} {c:List (List Int)} {im:List Int} (h:A0j s) (hc:CplxOk c) (hm:A4T c s.1 im) {k j f:Nat} (hk:k<c.length) (hj:j<(fcs c k).length) (hf:(fcs c k).getD j 0=(f:Int)) :
   f < c.length/\MatOk (A0r s (plAt s c im f) (plAt s c im k))/\Ad5.F (s,((plAt s c im f:Nat):Int),((plAt s c im k:Nat):Int),())=some ((A0r s (plAt s c im f) (plAt s c im k),()),()) ∧
     Ae6.F (s,((plAt s c im f:Nat):Int),((plAt s c im k:Nat):Int),())=some ((A0r s (plAt s c im f) (plAt s c im k),()),()):=by
 obtain⟨f',e1,e2,e3⟩:=A3B hc hk hj;have:f=f':=by rw[hf]at e1;omega
 subst this;obtain⟨p1,p2⟩:=A1k hm e2;obtain⟨q1,q2⟩:=A1k hm hk;exact⟨e2,A4c h p1 q1 (by rw[p2,q2];exact A5W c im e3)⟩
theorem A3J (s:ShfV) (c:List (List Int)) (im:List Int) {k:Nat} (hk:k<c.length):(A0Y s c im).getD k 0=((plAt s c im k:Nat):Int):=A0H _ 0 hk
theorem A0l (s:ShfV) (c:List (List Int)) (im:List Int):(A1M s c im).length=off c c.length:=A1i _ _
theorem Aj8.val {s:ShfV} {c:List (List Int)} {im:List Int} (h:A0j s) (hc:CplxOk c) (hm:A4T c s.1 im) (e:A2z) (he:e∈arr c c.length) :
   Aj8.cloG (s,A0Y s c im,()) (e,())=some (A0r s (plAt s c im e.2.2.toNat) (plAt s c im e.1.toNat),())/\(A0r s (plAt s c im e.2.2.toNat) (plAt s c im e.1.toNat)).2.2.2.length≤1048576:=by
 simp only[arr,zP,zI,A4U,zw]at he;obtain⟨k,hk,j,hj,rfl⟩:=he;obtain⟨f,hf,hf',-⟩:=A3B hc hk hj;obtain⟨-,r1,r2,-⟩:=A5q h hc hm hk hj hf;have r2:Ad5.F ((s.1,(s.2.1,(s.2.2.1,s.2.2.2))),((plAt s c im f:Nat):Int),((plAt s c im k:Nat):Int),())=_:=r2;have hpl:(A0Y s c im).length=c.length:=by simp[A0Y]
 simp only[za,hf];refine⟨?_,by have h2:=A5Y r1.2.1 r1.2.2.1;have:=r1.2.2.2.1;omega⟩;show(Aj8.F (((k:Int),(j:Int),(f:Int)),s,A0Y s c im,())).map (·.1)=_;have hT:Aj8.F (((k:Int),(j:Int),(f:Int)),s,A0Y s c im,())=Aj8.T (k:Int) (j:Int) (f:Int) s.1 s.2.1 s.2.2.1 s.2.2.2 (A0Y s c im):=Aj8.eq _ _ _ _ _ _ _ _;rw[hT,Aj8.T,if_pos (idxI.2 (by omega)),if_pos (idxI.2 (by omega))];simp only[za,A3J s c im hf',A3J s c im hk,r2];rfl
theorem Ak6.val {s:ShfV} {c:List (List Int)} {im:List Int} (h:A0j s) (hc:CplxOk c) (hm:A4T c s.1 im):Ak6.F (s,c,im,())=some ((pulS s c im,()),()):=by
 have hn:=hc.1;have hl:=h.2.2.1.1;refine Ak6.of s.1 s.2.1 s.2.2.1 s.2.2.2 c im ?_;obtain⟨y,hy,hg⟩:=Goes.loop (R:=((ShfV×Unit)×Unit)) (fun k i (y:List Int×List Int)=>Ak6.l3 k im c (c.length:Int) (i:Int) s.1 s.2.1 s.2.2.1 s.2.2.2 c [] 0 [] [] y.1 y.2) c.length (fun i y=>y=((zj i).map (fun k=>((plAt s c im k:Nat):Int)),(zj i).map fun k=>s.2.2.1.getD (plAt s c im k) 0)) (fun i y hi h2=>⟨_,rfl,Goes.succ fun k=>by
   have hmem:=A0z ([]:List Int) hi;have himg:=Ak5.val c im _ hc hmem (cplx4 hc hmem) hm.1;obtain⟨p1,p2⟩:=A1k hm hi;have hs:=A1V h.1 (hm.2 _ hmem);rw[h2,Ak6.l3_eq,if_pos (ltI.2 hi),if_pos (idxI.2 hi)];simp only[za,himg,zb,hs];rw[if_pos (by simp only[zp,zu,zf,zg,bigA];omega),if_pos (idxI.2 (by unfold plAt at p1;omega)),if_pos (by simp only[zp,zu,zf,zg,bigA];omega),A0x (by omega),zt,zm,zm];rfl⟩) 0 ([],[]) (zc _) rfl
 have hso:=Aj9.val c s.2.1 (A0J s c im) (Aj8.cloG (s,A0Y s c im,())) (fun e=>A0r s (plAt s c im e.2.2.toNat) (plAt s c im e.1.toNat)) hc (by simp[A0J];omega) (fun e he=>Aj8.val h hc hm e he);refine Ev.of_eq (hg _ ((Ev.const _).succ fun k=>?_)) fun k=>rfl;rw[hy,Ak6.l3_eq,if_neg (by simp)];have hso:Aj9.F (c,s.2.1,(zj c.length).map (fun k=>s.2.2.1.getD (plAt s c im k) 0),Aj8.cloG ((s.1,(s.2.1,(s.2.2.1,s.2.2.2))),(zj c.length).map (fun k=>((plAt s c im k:Nat):Int)),()),())=_:=hso;rw[hso];rfl
theorem Ag0.val {s:ShfV} {c:List (List Int)} {im:List Int} (h:A0j s) (hc:CplxOk c) (hm:A4T c s.1 im):Ag0.F (s,c,im,())=some ((pulS s c im,()),()):=by
 have hn:=hc.1;have hl:=h.2.2.1.1;have ho:=A1F hc (zh c.length);refine Ag0.of s.1 s.2.1 s.2.2.1 s.2.2.2 c im ?_;obtain⟨y,hy,hg⟩:=Goes.loop (R:=((ShfV×Unit)×Unit)) (fun k i (y:List Int×List Int)=>Ag0.l4 k s.1 s.2.1 s.2.2.1 s.2.2.2 c im (i:Int) [] 0 [] [] y.1 y.2) c.length (fun i y=>y=((zj i).map (fun k=>((plAt s c im k:Nat):Int)),(zj i).map fun k=>s.2.2.1.getD (plAt s c im k) 0)) (fun i y hi h2=>⟨_,rfl,Goes.succ fun k=>by
   have hmem:=A0z ([]:List Int) hi;have himg:=An6.val c im _ hc hmem (cplx4 hc hmem) hm.1;obtain⟨p1,p2⟩:=A1k hm hi;have hs:=A2P h.1 (hm.2 _ hmem);rw[h2,Ag0.l4_eq,if_pos (ltI.2 hi),if_pos (idxI.2 hi)];simp only[za,himg,zb,hs];rw[if_pos (by simp only[zp,zu,zf,zg,bigA];omega),if_pos (idxI.2 (by unfold plAt at p1;omega)),if_pos (by simp only[zp,zu,zf,zg,bigA];omega),A0x (by omega),zt,zm,zm];rfl⟩) 0 ([],[]) (zc _) rfl
 have hnew:Ag2.F (c,s.2.1,A0J s c im,())=_:=Ag2.val c s.2.1 (A0J s c im) hc (by simp[A0J]) (A2e h c im);have hpl:(A0Y s c im).length=c.length:=by simp[A0Y]
 obtain⟨x,⟨hx1,hx2⟩,hg3⟩:=Goes.loop (R:=((ShfV×Unit)×Unit)) (fun k i (x:List MatV)=>Ag0.l11 k s.1 s.2.1 s.2.2.1 s.2.2.2 c (i:Int) [] 0 [] [] (A0Y s c im) c s.2.1 (A0J s c im) x) c.length (fun i x=>x.length=off c c.length/\x.take (off c i)=(A1M s c im).take (off c i)) (fun i x hi ⟨q1,q2⟩=>by
   have e5:(fcs c i).length=(A0U (c.getD i [])).length:=by simp[fcs]
   have e6 := A1R hc hi;obtain⟨z,⟨hz1,hz2⟩,hg2⟩:=Goes.loop (R:=((ShfV×Unit)×Unit)) (fun k j (z:List MatV)=>Ag0.l15 k s.1 s.2.1 s.2.2.1 s.2.2.2 c (i:Int) (j:Int) [] 0 [] [] (A0Y s c im) c s.2.1 (A0J s c im) z (fcs c i)) (fcs c i).length (fun j z=>z.length=off c c.length/\z.take (off c i+j)=(A1M s c im).take (off c i+j)) (fun j z hj ⟨r1,r2⟩=>by
     obtain⟨f,hf,hf',-⟩:=A3B hc hi hj;obtain⟨-,k1,-,k3⟩:=A5q h hc hm hi hj hf;have k3:Ae6.F ((s.1,(s.2.1,(s.2.2.1,s.2.2.2))),((plAt s c im f:Nat):Int),((plAt s c im i:Nat):Int),())=_:=k3;have hlt:=A2u hi hj;have hplace:=Ac8.val c hc i (by omega) j (by omega);refine⟨z.set (off c i+j) (A0r s (plAt s c im f) (plAt s c im i)),⟨by simp[r1],?_⟩,Goes.succ fun k=>?_⟩
     . rw[show off c i+(j+1)=off c i+j+1 by omega,zx,zx,yy (zh _),r2];have e1:(A1M s c im)[off c i+j]? = some (A0r s (plAt s c im f) (plAt s c im i)):=by
         have e2:(A1M s c im).getD (off c i+j) (0,0,0,[])=A0r s (plAt s c im f) (plAt s c im i):=by
           rw[A1M,A1K,A0H _ _ (by rw[A0N];exact hlt),A2L c hi hj,hf];simp only[za]
         rw[A0y (by rw[A0l];omega)]at e2;rw[<-e2,zr (by rw[A0l];omega)]
       rw[e1,yt (by omega)]
     . rw[Ag0.l15_eq,if_pos (ltI.2 hj),hplace];simp only[zb];rw[if_pos (idxI.2 hj),za j,hf,if_pos (idxI.2 (by omega)),if_pos (idxI.2 (by omega))];simp only[za,A3J s c im hf',A3J s c im hi,k3,zb];rw[if_pos (idxI.2 (by omega)),A0x (by omega)]) 0 x (zc _) ⟨q1,by simpa using q2⟩
   refine⟨z,⟨hz1,by rw[off];exact hz2⟩,(Goes.succ fun k=>?_).trans (hg2.trans (Goes.succ fun k=>?_))⟩
   . rw[Ag0.l11_eq,if_pos (ltI.2 hi),Aa6.val c hc i hi];rfl
   . rw[Ag0.l15_eq,if_neg (by simp),A0x (by omega)]) 0 (A2E c (newM s.2.1 (A0J s c im))) (zc _) ⟨A1i _ _,by simp[off]⟩
 have hxe:x=A1M s c im:=by
   rw[zo (by omega),zo (by rw[A0l];exact zh _)]at hx2;exact hx2
 refine Ev.of_eq (hg _ (Ev.succ (hg3 _ ((Ev.const _).succ fun k=>?_)) fun k=>?_)) fun k=>rfl
 . rw[Ag0.l11_eq,if_neg (by simp),hxe];rfl
 . rw[hy,Ag0.l4_eq,if_neg (by simp)];have hnew:Ag2.F (c,s.2.1,(zj c.length).map (fun k=>s.2.2.1.getD (plAt s c im k) 0),())=_:=hnew;rw[hnew];rfl
def IsIn (p c:List (List Int)):Prop:=∀ s∈p,s∈c
theorem An7.val (p c:List (List Int)) (hp:p.length≤1048576) (h:SmL c):∃ v,An7.F (p,c,())=some ((v,()),())/\(v=true↔IsIn p c):=by
 obtain⟨v,hv,hv'⟩:=Ev.allP (L:=fun k i=>An7.l2 k p c (i:Int)) (a:=()) (b:=()) (n:=p.length) (fun i=>p.getD i []∈c) true (fun i hi=>by
   have E:=fun k=>An7.l2_eq k p c (i:Int);obtain⟨r,hr,hr'⟩:=Aa0.val c (p.getD i []) h;simp only[if_pos (ltI.2 hi),if_pos (idxI.2 hi),za,hr,zb,A0x (show i<4611686018427387904 by omega)]at E;by_cases hm:p.getD i []∈c
   . exact .inl ⟨hm,fun k=>by rw[E,if_neg (by simp only[decide_eq_true_eq,hr'];exact fun hh=>hh hm)]⟩
   . exact .inr ⟨hm,fun k=>by rw[E,if_pos (by simp only[decide_eq_true_eq,hr'];exact hm)]⟩) ((Ev.const _).succ fun k=>by rw[An7.l2_eq,if_neg (by simp)]) 0 (zc _)
 refine⟨v,An7.of _ _ (hv.of_eq fun k=>rfl),hv'.trans ⟨fun⟨_,h⟩ s hs=>?_,fun h=>⟨rfl,fun j _ hj=>h _ (A0z _ hj)⟩⟩⟩;obtain⟨j,hj,rfl⟩:=zk hs;have:=h j (zc _) hj
 rwa [A0y hj]at this
theorem Ap3.val (m:MatV) (p a b:Int) (hm:m.2.2.2.length<4611686018427387904):∃ v,Ap3.F (m,p,a,b,())=some ((v,()),())/\(v=true↔MatOk m/\m.1=p/\m.2.1=b/\m.2.2.1=a):=by
 obtain⟨q,r,cc,xs⟩:=m;obtain⟨v1,h1,h1'⟩:=Ao8.val (q,r,cc,xs) hm;rw[Ap3.eq,Ap3.T,h1];simp only[zb];cases v1 with
 | false=>exact⟨false,by rw[if_neg (by simp)],by simp only[ze,false_iff];exact fun hh=>absurd (h1'.2 hh.1) (by simp)⟩
 | true =>
   have hmat:=h1'.1 rfl;rw[if_pos rfl];by_cases e1:q=p
   . rw[if_pos (by simp only[beq_iff_eq];exact e1)];by_cases e2:r=b
     . rw[if_pos (by simp only[beq_iff_eq];exact e2)];exact⟨_,rfl,by simp only[beq_iff_eq];exact⟨fun e3=>⟨hmat,e1,e2,e3⟩,fun hh=>hh.2.2.2⟩⟩
     . exact⟨false,by rw[if_neg (by simp only[beq_iff_eq];exact e2)],by simp only[ze,false_iff];exact fun hh=>e2 hh.2.2.1⟩
   . exact⟨false,by rw[if_neg (by simp only[beq_iff_eq];exact e1)],by simp only[ze,false_iff];exact fun hh=>e1 hh.2.1⟩
theorem A5x {c:List (List Int)}:∀ {n q:Nat},q<off c n->∃ s,s<n/\∃ j,j<(fcs c s).length/\q=off c s+j:=by
 intro n;induction n with
 | zero=>intro q h;simp[off]at h
 | succ n ih =>
   intro q h;by_cases hq:q<off c n
   . obtain⟨s,hs,j,hj,e⟩:=ih hq;exact⟨s,by omega,j,hj,e⟩
   . rw[off]at h;exact⟨n,by omega,q-off c n,by omega,by omega⟩
theorem Af2.val (s:ShfV) (hsm:SmSh s):∃ v,Af2.F (s,())=some ((v,()),())/\(v=true↔A0j s):=by
 obtain⟨c,p,st,ms⟩:=s;obtain⟨hc,hst,hms⟩:=hsm;have hc:SmL c:=hc;have hst:st.length≤1048576:=hst;have hms:SmMs ms:=hms;unfold A0j;simp only[];obtain⟨v1,h1,h1'⟩:=Ab6.val c hc;obtain⟨v2,h2,h2'⟩:=Af7.val p;obtain⟨v3,h3,h3'⟩:=Ag4.val c st hc.1 hst;cases v1 with
 | false=>exact⟨false,Af2.of _ _ _ _ ((Ev.const _).of_eq fun k=>by rw[Af2.T,h1];rfl),by simp only[ze,false_iff];exact fun hh=>absurd (h1'.2 hh.1) (by simp)⟩
 | true =>
 cases v2 with
 | false=>exact⟨false,Af2.of _ _ _ _ ((Ev.const _).of_eq fun k=>by rw[Af2.T,h1,h2];rfl),by simp only[ze,false_iff];exact fun hh=>absurd (h2'.2 hh.2.1) (by simp)⟩
 | true =>
 cases v3 with
 | false=>exact⟨false,Af2.of _ _ _ _ ((Ev.const _).of_eq fun k=>by rw[Af2.T,h1,h2,h3];rfl),by simp only[ze,false_iff];exact fun hh=>absurd (h3'.2 hh.2.2.1) (by simp)⟩
 | true =>
 have hcx:=h1'.1 rfl;have hstalk:=h3'.1 rfl;have hcl:=hcx.1;have hoff:=A1F hcx (zh c.length);have hal:=A0N c c.length;obtain⟨A,hA⟩:∃ A,arr c c.length=A:=⟨_,rfl⟩;rw[hA]at hal;obtain⟨b,hb,hb'⟩:=Ev.allP (L:=fun k q=>Af2.l5 k (A.length:Int) (q:Int) c p st ms A) (a:=()) (b:=()) (n:=A.length) (fun q=>q<ms.length/\∀ i j,i<c.length->j<(fcs c i).length->q=off c i+j->A3S c p st (ms.getD q (0,0,0,[])) i j) ((A.length:Int)==(ms.length:Int)) (fun q hq=>by
   obtain⟨i,hi,j,hj,e⟩:=A5x (show q<off c c.length by omega);have hg:=A2L c hi hj;rw[<-e,hA]at hg;obtain⟨x,hx,hxc⟩:=A4y hcx hi (A0z (0:Int) hj);have E:=fun k=>Af2.l5_eq k (A.length:Int) (q:Int) c p st ms A;simp only[if_pos (ltI.2 hq),if_pos (idxI.2 hq),za,hg,A0x (show q<4611686018427387904 by omega)]at E;have huniq:∀ i' j',i'<c.length->j'<(fcs c i').length->q=off c i'+j'->i'=i/\j'=j:=fun i' j' hi' hj' e'=>by
     have g2:=A2L c hi' hj';rw[<-e',hA,hg]at g2;simp only[yB,yi]at g2;exact⟨g2.1.symm,g2.2.1.symm⟩
   by_cases hqm:q<ms.length
   . have hml:(ms.getD q (0,0,0,[])).2.2.2.length<4611686018427387904:=by
       have:(ms.getD q (0,0,0,[])).2.2.2.length≤1048576:=hms.2 _ (A0z _ hqm);omega
     obtain⟨v,hv,hv'⟩:=Ap3.val (ms.getD q (0,0,0,[])) p (st.getD ((fcs c i).getD j 0).toNat 0) (st.getD i 0) hml;have hst2:=hstalk.1;simp only[if_neg (show ¬ decide ((q:Int)≥(ms.length:Int))=true by simp only[decide_eq_true_eq];omega),if_pos (idxI.2 hqm),if_pos (show 0≤(fcs c i).getD j 0/\(fcs c i).getD j 0<(st.length:Int)by rw[hx];omega),if_pos (show 0≤(i:Int)/\(i:Int)<(st.length:Int)by omega),hv,zb]at E;cases v with
     | true=>exact .inl ⟨⟨hqm,fun i' j' hi' hj' e'=>by obtain⟨rfl,rfl⟩:=huniq i' j' hi' hj' e';exact hv'.1 rfl⟩,fun k=>by rw[E];rfl⟩
     | false=>exact .inr ⟨fun hh=>absurd (hv'.2 (hh.2 i j hi hj e)) (by simp),fun k=>by rw[E];rfl⟩
   . exact .inr ⟨fun hh=>hqm hh.1,fun k=>by rw[E,if_pos (by simp only[decide_eq_true_eq];omega)]⟩) ((Ev.const _).succ fun k=>by rw[Af2.l5_eq,if_neg (by simp)]) 0 (zc _)
 refine⟨b,Af2.of _ _ _ _ (hb.of_eq fun k=>?_),hb'.trans ?_⟩
 . rw[Af2.T,h1,h2,h3,Ae3.val c hcx,hA];rfl
 . simp only[beq_iff_eq,yi];constructor
   . rintro⟨e,hall⟩;refine⟨hcx,h2'.1 rfl,hstalk,by omega,fun i hi j hj=>?_⟩;have:=A2u hi hj;exact(hall (off c i+j) (zc _) (by omega)).2 i j hi hj rfl
   . rintro⟨-,-,-,e,hall⟩;exact⟨by omega,fun q _ hq=>⟨by omega,fun i j hi hj e'=>e'▸hall i hi j hj⟩⟩
theorem Ai2.val (s:ShfV) (h:A0j s) {k i j:Nat} (hk:k<s.1.length) (h3:2<(s.1.getD k []).length) (hi:i<(s.1.getD k []).length) (hj:j<(s.1.getD k []).length) (hij:i≠j) :
   Ai2.F (s,(k:Int),(i:Int),(j:Int),())=some ((mulM (A0k s k i) (A0k s (fc s.1 k i) (if i<j then j-1 else j)),()),()):=by
 have hT:Ai2.F (s,(k:Int),(i:Int),(j:Int),())=Ai2.T s.1 s.2.1 s.2.2.1 s.2.2.2 (k:Int) (i:Int) (j:Int):=Ai2.eq _ _ _ _ _ _ _;have h4:=(h.1.2 k hk).1.1.2;have hcl:=h.1.1;rw[hT,Ai2.T,Aa6.val s.1 h.1 k hk];simp only[zb];by_cases hlt:i<j
 . obtain⟨f,F⟩:=A5H h hk h3 hi (show j-1+1<_ by omega);have g1:Ab0.F ((s.1,(s.2.1,(s.2.2.1,s.2.2.2))),(k:Int),(i:Int),())=_:=Ab0.val s h k i hk F.ilt;have g2:Ab0.F ((s.1,(s.2.1,(s.2.2.1,s.2.2.2))),(f:Int),((j-1:Nat):Int),())=_:=Ab0.val s h f (j-1) F.lt F.jlt;rw[if_pos (idxI.2 F.ilt),if_pos (by simp only[decide_eq_true_eq];omega),g1,A4h (by omega) (by omega)];simp only[zb,za,F.at_,g2,F.tim];rw[if_pos hlt,F.fc_]
 . obtain⟨f,F⟩:=A5H h hk h3 hi (show j+1<_ by omega);have g1:Ab0.F ((s.1,(s.2.1,(s.2.2.1,s.2.2.2))),(k:Int),(i:Int),())=_:=Ab0.val s h k i hk F.ilt;have g2:Ab0.F ((s.1,(s.2.1,(s.2.2.1,s.2.2.2))),(f:Int),(j:Int),())=_:=Ab0.val s h f j F.lt F.jlt;rw[if_pos (idxI.2 F.ilt),if_neg (by simp only[decide_eq_true_eq];omega),g1];simp only[zb,za,F.at_,g2,F.tim];rw[if_neg hlt,F.fc_]
theorem Ac9.val (s:ShfV) (h:A0j s):Ac9.F (s,())=some ((match A1u s with|none=>(-1,0,0,())|some (k,i,j)=>((k:Int),(i:Int),(j:Int),())),()):=by
 have hcl:=h.1.1;have hT:∀ r,Ev (fun k=>Ac9.T k s.1 s.2.1 s.2.2.1 s.2.2.2) r->Ac9.F (s,())=some r:=fun r hr=>Ac9.of _ _ _ _ hr;have main:=Goes.find (R:=((Int×Int×Int×Unit)×Unit)) (L:=fun n k=>Ac9.l2 n s.1 s.2.1 s.2.2.1 s.2.2.2 (k:Int)) (M:=fun _=>some ((-1,0,0,()),())) (n:=s.1.length) 0 (A1t s) (fun t:Nat×Nat×Nat=>(((t.1:Int),(t.2.1:Int),(t.2.2:Int),()),())) (fun k _ hk=>by
   obtain⟨t,ht⟩:∃ t,s.1.getD k []=t:=⟨_,rfl⟩;have h4:=(h.1.2 k hk).1.1;rw[ht]at h4;have e0:Goes (fun n=>Ac9.l2 n s.1 s.2.1 s.2.2.1 s.2.2.2 (k:Int)) (fun n=>Ac9.l6 n s.1 s.2.1 s.2.2.1 s.2.2.2 (k:Int) (t.length:Int) ((0:Nat):Int)):=Goes.succ fun n=>by rw[Ac9.l2_eq,if_pos (ltI.2 hk),if_pos (idxI.2 hk)];simp only[za,ht];rfl
   by_cases h3:t.length<3
   . exact .inl ⟨by rw[A1t,ht,if_pos h3],e0.trans (Goes.succ fun n=>by rw[Ac9.l6_eq,if_pos (by simp only[decide_eq_true_eq];omega),if_neg (by simp only[decide_eq_true_eq];omega),A0x (by omega)])⟩
   have hw:A1t s k=(zM 0 (t.length-0)).findSome? (A3n s k t.length):=by rw[A1t,ht,if_neg h3]
   rw[hw];have inner:=Goes.find (R:=((Int×Int×Int×Unit)×Unit)) (L:=fun n i=>Ac9.l6 n s.1 s.2.1 s.2.2.1 s.2.2.2 (k:Int) (t.length:Int) (i:Int)) (M:=fun n=>Ac9.l2 n s.1 s.2.1 s.2.2.1 s.2.2.2 ((k+1:Nat):Int)) (n:=t.length) 0 (A3n s k t.length) (fun t:Nat×Nat×Nat=>(((t.1:Int),(t.2.1:Int),(t.2.2:Int),()),())) (fun i _ hi=>by
     have e1:Goes (fun n=>Ac9.l6 n s.1 s.2.1 s.2.2.1 s.2.2.2 (k:Int) (t.length:Int) (i:Int)) (fun n=>Ac9.l9 n s.1 s.2.1 s.2.2.1 s.2.2.2 (k:Int) (t.length:Int) (i:Int) ((i+1:Nat):Int)):=Goes.succ fun n=>by rw[Ac9.l6_eq,if_pos (ltI.2 hi),if_pos (by simp only[decide_eq_true_eq];omega),A0x (by omega)]
     have deep:=Goes.find (R:=((Int×Int×Int×Unit)×Unit)) (L:=fun n j=>Ac9.l9 n s.1 s.2.1 s.2.2.1 s.2.2.2 (k:Int) (t.length:Int) (i:Int) (j:Int)) (M:=fun n=>Ac9.l6 n s.1 s.2.1 s.2.2.1 s.2.2.2 (k:Int) (t.length:Int) ((i+1:Nat):Int)) (n:=t.length) (i+1) (A2n s k i) (fun t:Nat×Nat×Nat=>(((t.1:Int),(t.2.1:Int),(t.2.2:Int),()),())) (fun j hij hj=>by
       have A:=Ai2.val s h hk (by rw[ht];omega) (show i<_ by rw[ht];omega) (show j<_ by rw[ht];omega) (by omega);have B:=Ai2.val s h hk (by rw[ht];omega) (show j<_ by rw[ht];omega) (show i<_ by rw[ht];omega) (by omega);rw[if_pos (by omega)]at A;rw[if_neg (by omega)]at B;have A:Ai2.F ((s.1,(s.2.1,(s.2.2.1,s.2.2.2))),(k:Int),(i:Int),(j:Int),())=some ((sqA s k i j,()),()):=A;have B:Ai2.F ((s.1,(s.2.1,(s.2.2.1,s.2.2.2))),(k:Int),(j:Int),(i:Int),())=some ((sqB s k i j,()),()):=B;obtain⟨f,F⟩:=A5H h hk (by rw[ht];omega) (show i<_ by rw[ht];omega) (show j-1+1<_ by rw[ht];omega);have hA:sqA s k i j=mulM (A0k s k i) (A0k s f (j-1)):=by rw[sqA,F.fc_]
       obtain⟨b,hb,hb'⟩:=Af0.same (sqA s k i j) (sqB s k i j) (by rw[hA];exact F.ok.small);have E2:=fun n=>Ac9.l9_eq n s.1 s.2.1 s.2.2.1 s.2.2.2 (k:Int) (t.length:Int) (i:Int) (j:Int);simp only[if_pos (ltI.2 hj),A,B,zb,hb,A0x (show j<4611686018427387904 by omega)]at E2;cases b with
       | true=>exact .inl ⟨by rw[A2n,if_pos (hb'.1 rfl)],Goes.succ fun n=>by rw[E2,if_neg (by simp)]⟩
       | false=>exact .inr ⟨(k,i,j),by rw[A2n,if_neg (fun e=>absurd (hb'.2 e) (by simp))],(Ev.const _).succ fun n=>by rw[E2,if_pos (by simp)]⟩) (Goes.succ fun n=>by rw[Ac9.l9_eq,if_neg (by simp),A0x (by omega)]) (i+1) (zh _) (by omega)
     rcases deep with⟨d1,d2⟩|⟨r,d1,d2⟩
     . exact .inl ⟨d1,e1.trans d2⟩
     . exact .inr ⟨r,d1,e1 _ d2⟩) (Goes.succ fun n=>by rw[Ac9.l6_eq,if_neg (by simp),A0x (by omega)]) 0 (zh _) (zc _)
   rcases inner with⟨d1,d2⟩|⟨r,d1,d2⟩
   . exact .inl ⟨d1,e0.trans d2⟩
   . exact .inr ⟨r,d1,e0 _ d2⟩) (Goes.succ fun n=>by rw[Ac9.l2_eq,if_neg (by simp)]) 0 (zh _) (zc _)
 rcases main with⟨d1,d2⟩|⟨⟨k,i,j⟩,d1,d2⟩
 . rw[A1u,d1];exact hT _ ((d2 _ (Ev.const _)).of_eq fun n=>rfl)
 . rw[A1u,d1];exact hT _ (d2.of_eq fun n=>rfl)
def A1c (s:ShfV):Prop:=A0j s/\A1u s=none
theorem Ak2.val (s:ShfV) (hs:SmSh s):∃ v,Ak2.F (s,())=some ((v,()),())/\(v=true↔A1c s):=by
 have hT:Ak2.F (s,())=Ak2.T s.1 s.2.1 s.2.2.1 s.2.2.2:=Ak2.eq _ _ _ _;obtain⟨v,hv,hv'⟩:=Af2.val s hs;have hv:Af2.F ((s.1,(s.2.1,(s.2.2.1,s.2.2.2))),())=_:=hv;rw[hT,Ak2.T,hv];simp only[zb];cases v with
 | false=>exact⟨false,by rw[if_pos (by simp)],by simp only[ze,false_iff];exact fun h=>absurd (hv'.2 h.1) (by simp)⟩
 | true =>
   have hok:=hv'.1 rfl;have hw:Ad1.F ((s.1,(s.2.1,(s.2.2.1,s.2.2.2))),())=_:=Ad1.val s hok;rw[if_neg (by simp),hw];simp only[zb];cases hwt:A1u s with
   | none=>exact⟨true,rfl,by simp[A1c,hok,hwt]⟩
   | some t=>obtain⟨k,i,j⟩:=t;exact⟨false,rfl,by simp[A1c,hwt]⟩
theorem Af8.val (s:ShfV) (hs:SmSh s):∃ v,Af8.F (s,())=some ((v,()),())/\(v=true↔A1c s):=by
 have hT:Af8.F (s,())=Af8.T s.1 s.2.1 s.2.2.1 s.2.2.2:=Af8.eq _ _ _ _;obtain⟨v,hv,hv'⟩:=Ab5.val s hs;have hv:Ab5.F ((s.1,(s.2.1,(s.2.2.1,s.2.2.2))),())=_:=hv;rw[hT,Af8.T,hv];simp only[zb];cases v with
 | false=>exact⟨false,by rw[if_pos (by simp)],by simp only[ze,false_iff];exact fun h=>absurd (hv'.2 h.1) (by simp)⟩
 | true =>
   have hok:=hv'.1 rfl;have hw:Ac9.F ((s.1,(s.2.1,(s.2.2.1,s.2.2.2))),())=_:=Ac9.val s hok;rw[if_neg (by simp),hw];simp only[zb];cases hwt:A1u s with
   | none=>exact⟨true,rfl,by simp[A1c,hok,hwt]⟩
   | some t=>obtain⟨k,i,j⟩:=t;exact⟨false,by simp,by simp[A1c,hwt]⟩
theorem Ac0.val (xs:List Int) (h:xs.length≤1099511627776):Ac0.F (xs,())=some ((xs,()),()):=by
 refine Ac0.of xs ?_;have:=Goes.fill (L:=fun k i ys=>Ac0.l3 k xs (i:Int) ys) xs 0 (fun k i ys hi hy=>by
   rw[Ac0.l3_eq,if_pos (ltI.2 hi),if_pos (idxI.2 hi),if_pos (by omega),A0x (by omega)];simp only[za]) (zC xs.length 0) (by simp)
 refine Ev.of_eq (this _ ((Ev.const _).succ fun k=>?_)) fun k=>?_
 . rw[Ac0.l3_eq,if_neg (by simp)]
 . rw[Ac0.T,if_pos (by simp only[bigN];omega)];rfl
theorem Aa5.val (xs ys:List Int) (hn:xs.length<4611686018427387904):∃ b,Aa5.F (xs,ys,())=some ((b,()),())/\(b=true↔xs=ys):=by
 by_cases hl:xs.length=ys.length
 . obtain⟨b,hb,hb'⟩:=Ev.all (L:=fun k i=>Aa5.l4 k xs ys (i:Int)) (a:=()) (b:=()) (n:=xs.length) (fun i=>xs.getD i 0==ys.getD i 0) (fun k i hi=>by
     rw[Aa5.l4_eq,if_pos (ltI.2 hi),if_pos (idxI.2 hi),if_pos (by omega),A0x (by omega)];simp only[za];exact ite_nb _ _ _) (fun k=>by rw[Aa5.l4_eq,if_neg (by simp)]) 0 (zc _)
   refine⟨b,Aa5.of _ _ (hb.of_eq fun k=>?_),by rw[hb',all_eq hl (fun x y=>x==y) (by simp)]⟩;rw[Aa5.T,if_neg (by simp[hl])];rfl
 . refine⟨false,Aa5.of _ _ ((Ev.const _).of_eq fun k=>?_),by simp;intro e;exact hl (by rw[e])⟩;rw[Aa5.T,if_pos (by simp;omega)]
theorem Aa5.refl (xs:List Int) (hn:xs.length<4611686018427387904):Aa5.F (xs,xs,())=some ((true,()),()):=by
 obtain⟨b,hb,hb'⟩:=Aa5.val xs xs hn;rw[hb,hb'.2 rfl]
theorem Af3.val (xs:List Int) (l:Int) (h0:0≤l) (h1:l≤1048576) (hx:xs.length≤maxLen):∃ r,Af3.F (xs,l,())=some ((r,()),())/\(r=-1∨0≤r/\r≤l/\Sm xs):=by
 have:xs.length≤9223372036854775807:=hx;rw[Af3.eq,Af3.T,A0q (by omega) (by omega)];by_cases h:l<xs.length
 . exact⟨-1,by rw[if_pos (by simp;omega)],.inl rfl⟩
 . exact⟨_,by rw[if_neg (by simp;omega)],.inr ⟨by omega,by omega,by unfold Sm;omega⟩⟩
theorem Aj0.val (xs:List (List Int)) (l:Int) (h0:0≤l) (h1:l≤1048576) (hx:xs.length≤maxLen) (hr:∀ x∈xs,x.length≤maxLen):∃ r,Aj0.F (xs,l,())=some ((r,()),())/\(r=-1∨0≤r/\r≤l/\SmL xs):=by
 have:xs.length≤9223372036854775807:=hx;by_cases h:l<xs.length
 . exact⟨-1,Aj0.of _ _ ((Ev.const _).of_eq fun k=>by rw[Aj0.T,A0q (by omega) (by omega),if_pos (by simp;omega)]),.inl rfl⟩
 obtain⟨r,hv,h2⟩:=A5K (fun k i s=>Aj0.l5 k xs s (i:Int)) xs [] Sm (fun i s hi s0 s1=>by
   have E:=fun k=>Aj0.l5_eq k xs s (i:Int);obtain⟨r,hr1,hr2⟩:=Af3.val (xs.getD i []) s s0 s1 (hr _ (A0z _ hi));simp only[if_pos (ltI.2 hi),if_pos (idxI.2 hi),za,hr1,zb,A0x (show i<4611686018427387904 by omega)]at E;rcases hr2 with rfl|⟨a,b,c⟩
   . exact .inr fun k=>by rw[E,if_pos (by simp)]
   . exact .inl ⟨r,a,b,c,fun k=>by rw[E,if_neg (by simp;omega)]⟩) (fun k l=>by rw[Aj0.l5_eq,if_neg (by simp)]) (l-xs.length) (by omega) (by omega)
 refine⟨r,Aj0.of _ _ (hv.of_eq fun k=>by rw[Aj0.T,A0q (by omega) (by omega),if_neg (by simp;omega)];rfl),?_⟩;rcases h2 with h2|⟨a,b,c⟩
 . exact .inl h2
 . exact .inr ⟨a,by omega,by omega,c⟩
theorem Ah1.val (xs:List (List Int)) (l:Int) (h0:0≤l) (h1:l≤1048576) (hx:xs.length≤maxLen) (hr:∀ x∈xs,x.length≤maxLen):∃ r,Ah1.F (xs,l,())=some ((r,()),())/\(r=-1∨0≤r/\r≤l/\SmL xs):=by
 obtain⟨r,h2,h3⟩:=Aj0.val xs l h0 h1 hx hr;rw[Ah1.eq,Ah1.T,h2];simp only[zb];rcases h3 with rfl|⟨a,b,c⟩
 . exact⟨-1,by rw[if_pos (by simp)],.inl rfl⟩
 . exact⟨r,by rw[if_neg (by simp;omega)],.inr ⟨a,b,c⟩⟩
theorem Ak8.val (xs:List (List Int)) (h:SmL xs):Ak8.F (xs,())=some ((xs,()),()):=by
 have hl:=h.1;refine Ak8.of xs ?_;have:=Goes.fill (L:=fun k i ys=>Ak8.l3 k xs (i:Int) ys) xs [] (fun k i ys hi hy=>by
   have hs:(xs.getD i []).length≤1048576:=h.2 _ (A0z _ hi);rw[Ak8.l3_eq,if_pos (ltI.2 hi),if_pos (idxI.2 hi)];simp only[za,Ac0.val (xs.getD i []) (by omega),zb];rw[if_pos (by omega),A0x (by omega)]) (zC xs.length []) (by simp)
 refine Ev.of_eq (this _ ((Ev.const _).succ fun k=>?_)) fun k=>?_
 . rw[Ak8.l3_eq,if_neg (by simp)]
 . rw[Ak8.T,if_pos (by simp only[bigN];omega)];rfl
theorem Ae2.val (xs:List (List Int)) (h:SmL xs):Ae2.F (xs,())=some ((xs,()),()):=by
 rw[Ae2.eq,Ae2.T,Ak8.val xs h];rfl
theorem Ai8.same (xs ys:List (List Int)) (h:SmL xs):∃ b,Ai8.F (xs,ys,())=some ((b,()),())/\(b=true↔xs=ys):=by
 have hn:=h.1;by_cases hl:xs.length=ys.length
 . obtain⟨b,hb,hb'⟩:=A1B (fun k i=>Ai8.l4 k xs ys (i:Int)) xs ys [] hl (fun i hi=>by
     have hs:(xs.getD i []).length≤1048576:=h.2 _ (A0z _ hi);obtain⟨c,hc,hc'⟩:=Aa5.val (xs.getD i []) (ys.getD i []) (by omega);exact⟨c,hc',fun k=>by rw[Ai8.l4_eq,if_pos (ltI.2 hi),if_pos (idxI.2 hi),if_pos (idx2 (hl▸hi))];simp only[za,hc,zb];rw[A0x (by omega)]⟩) (fun k=>by rw[Ai8.l4_eq,if_neg (by simp)])
   exact⟨b,Ai8.of _ _ (hb.of_eq fun k=>by rw[Ai8.T,if_neg (by simp[hl])];rfl),hb'⟩
 . exact⟨false,Ai8.of _ _ ((Ev.const _).of_eq fun k=>by rw[Ai8.T,if_pos (by simp;omega)]),by simp;intro e;exact hl (by rw[e])⟩
theorem Ag9.same (xs ys:List (List Int)) (h:SmL xs):∃ b,Ag9.F (xs,ys,())=some ((b,()),())/\(b=true↔xs=ys):=by
 obtain⟨b,hb,hb'⟩:=Ai8.same xs ys h;rw[Ag9.eq,Ag9.T,hb];exact⟨b,by cases b<;>rfl,hb'⟩
theorem A5V {xs:List Int} {v:Int} (h:v∈xs):xs.getD (idxV xs v) 0=v:=by
 have h1:=A3F h;rw[A0y h1];have:=z5 (w:=h1) (p:=fun x=>decide (x=v)) (xs:=xs);simp only[decide_eq_true_eq]at this;exact this
theorem A2R {c:List (List Int)} (h:CplxOk c) {s:List Int} (hs:s∈c):imgS c (vts c) s=s:=by
 have e:imgL c (vts c) s=s:=by
   unfold imgL
   conv=>rhs;rw[<-List.map_id s]
   exact yC fun v hv=>A5V (A4x h (A3Q h s.length s hs (zh _) v hv)).2
 obtain⟨h1,h2⟩:=A1p s;rw[imgS,e];refine A3r h1 ?_ h2;obtain⟨i1,i2⟩:=A0D hs;have hr:A1b s:=by have:=(h.2 _ i1).1.2.2;rwa [i2]at this
 rw[zz];intro i j hi hj hij;have:=A2g hr i j hij hj
 rwa [A0y hi,A0y hj]at this
theorem A3I {p b:List (List Int)} (h:CplxOk p) (hi:IsIn p b):A4T p b (vts p):=⟨rfl,fun s hs=>by rw[A2R h hs];exact hi s hs⟩
theorem A5O (c:List (List Int)):(A0w c 0 c.length).map (fun i=>(c.getD i.toNat []).getD 0 0)=vts c:=by
 have key:∀ i,i≤c.length->(A0w c 0 i).map (fun i=>(c.getD i.toNat []).getD 0 0)=vts (c.take i):=by
   intro i;induction i with
   | zero=>intro _;rfl
   | succ i ih =>
     intro hi;rw[A0X,A4R c (by omega)];by_cases h1:(c.getD i []).length=1
     . rw[if_pos (by simp only[beq_iff_eq];omega),if_pos h1,zm,ih (by omega)];simp
     . rw[if_neg (by simp only[beq_iff_eq];omega),if_neg h1,yq,ih (by omega)]
 have:=key c.length (zh _)
 rwa [zo (zh _)]at this
theorem Al7.val {c:List (List Int)} (h:CplxOk c):Al7.F (c,())=some ((vts c,()),()):=by
 have hn:=h.1;have e0:=Ad2.val c 0 (by omega) (by omega);have hl:=A0M c 0 c.length;rw[<-A5O c];have hd:∀ x∈A0w c 0 c.length,∃ j:Nat,x=j/\j<c.length/\(c.getD j []).length=1:=fun x hx=>by
   unfold A0w at hx;obtain⟨j,hj,rfl⟩:=zw.1 hx;obtain⟨h1,h2⟩:=zT.1 hj;simp only[beq_iff_eq]at h2;exact⟨j,rfl,zI.1 h1,by omega⟩
 generalize A0w c 0 c.length=L at e0 hl hd;refine Al7.of _ ?_;have g:=Goes.push (R:=(List Int×Unit)×Unit) (fun k i s=>Al7.l4 k c (i:Int) s L) L.length (fun i=>(c.getD (L.getD i 0).toNat []).getD 0 0) fun i s hi hs=>Goes.succ fun k=>by
   obtain⟨j,j1,j2,j3⟩:=hd _ (A0z 0 hi);rw[Al7.l4_eq,if_pos (ltI.2 hi),if_pos (idxI.2 hi)];simp only[za];rw[j1,if_pos (idxI.2 j2)];simp only[za];rw[if_pos (by omega),if_pos (A1D hs (by omega)),A0x (by omega)];rfl
 have em:(zj L.length).map (fun i=>(c.getD (L.getD i 0).toNat []).getD 0 0)=L.map fun i=>(c.getD i.toNat []).getD 0 0:=by
   refine zG (by simp) fun i h1 h2=>?_;simp only[yl,yb];rw[A0y (xs:=L) (by simpa using h1)]
 rw[em]at g;refine Ev.of_eq (g _ ((Ev.const _).succ fun k=>?_)) fun k=>?_
 . rw[Al7.l4_eq,if_neg (by simp)]
 . rw[Al7.T,e0];rfl
theorem A2q {s:ShfV} {p:List (List Int)} (h:A0j s) (hc:CplxOk p) (hi:IsIn p s.1):Ag1.F (s,p,())=some ((pulS s p (vts p),()),()):=by
 have T:Ag1.F (s,p,())=Ag1.T s.1 s.2.1 s.2.2.1 s.2.2.2 p:=Ag1.eq _ _ _ _ _;have hn:=hc.1;rw[T,Ag1.T,Ag8.val p (by omega)];have hp:Ak6.F ((s.1,(s.2.1,(s.2.2.1,s.2.2.2))),p,vts p,())=_:=Ak6.val h hc (A3I hc hi);simp only[zb,hp]
open Classical in
noncomputable def A2H (s:ShfV) (p:List (List Int)):Int:=if A1c s/\CplxOk p then(if IsIn p s.1 then 0 else 6)else 1
noncomputable def rstV (s:ShfV) (p:List (List Int)):ShfV:=@ite _ (A2H s p=0) (Classical.propDecidable _) (pulS s p (vts p)) ([],0,[],[])
theorem partC_zero {s:ShfV} {p:List (List Int)}:A2H s p=0↔(A1c s/\CplxOk p)/\IsIn p s.1:=by
 unfold A2H;split
 . split<;>simp[*]
 . simp[*]
theorem Al2.val (s:ShfV) (p:List (List Int)) (hs:SmSh s) (hp:SmL p):Al2.F (s,p,())=some ((rstV s p,A2H s p,()),()):=by
 obtain⟨v1,a1,a1'⟩:=Af8.val s hs;obtain⟨v2,a2,a2'⟩:=Aa7.val p hp;have a1:Af8.F ((s.1,(s.2.1,(s.2.2.1,s.2.2.2))),())=_:=a1;have T:Al2.F (s,p,())=Al2.T s.1 s.2.1 s.2.2.1 s.2.2.2 p:=Al2.eq _ _ _ _ _;rw[T,Al2.T,a1,a2];simp only[zb];cases v1 with
 | false =>
   have e:A2H s p=1:=by rw[A2H,if_neg fun hh=>absurd (a1'.2 hh.1) (by simp)]
   rw[if_pos (by simp),rstV,e,if_neg (by simp)]
 | true=>cases v2 with
   | false =>
     have e:A2H s p=1:=by rw[A2H,if_neg fun hh=>absurd (a2'.2 hh.2) (by simp)]
     rw[if_neg (by simp),if_pos (by simp),rstV,e,if_neg (by simp)]
   | true =>
     have h:=(a1'.1 rfl).1;have hc:=a2'.1 rfl;obtain⟨v3,a3,a3'⟩:=An7.val p s.1 hp.1 h.1.small;rw[if_neg (by simp),if_neg (by simp),a3];simp only[zb];cases v3 with
     | false =>
       have e:A2H s p=6:=by rw[A2H,if_pos ⟨a1'.1 rfl,hc⟩,if_neg fun hh=>absurd (a3'.2 hh) (by simp)]
       rw[if_pos (by simp),rstV,e,if_neg (by simp)]
     | true =>
       have hi:=a3'.1 rfl;have e:A2H s p=0:=by rw[A2H,if_pos ⟨a1'.1 rfl,hc⟩,if_pos hi]
       have hq:Ag0.F ((s.1,(s.2.1,(s.2.2.1,s.2.2.2))),p,vts p,())=_:=Ag0.val h hc (A3I hc hi);rw[if_neg (by simp),rstV,e,if_pos rfl,Al7.val hc];simp only[zb,hq]
theorem Ap5.val (xs:List Int) (n p:Int) (hn:xs.length<4611686018427387904):∃ v,Ap5.F (xs,n,p,())=some ((v,()),())/\(v=true↔(xs.length:Int)=n/\A0I 0 (zi.wrap (p-1)) xs):=by
 obtain⟨v,hv,hv'⟩:=Ai4.val xs p hn;rw[Ap5.eq,Ap5.T,Ab8.eq,Ab8.T];simp only[zb];by_cases h:(xs.length:Int)=n
 . exact⟨v,by rw[if_pos (by simp[h]),hv];rfl,hv'.trans ⟨fun a=>⟨h,a⟩,fun a=>a.2⟩⟩
 . exact⟨false,by rw[if_neg (by simp[h])],by simp[h]⟩
def A0v (s:ShfV) (k:Int):Int:=sumL s.2.2.1 (A0w s.1 k s.1.length)
theorem Aa4.val' (s:ShfV) (h:A0j s) (k:Int) (hk:-1≤k/\k≤1000):Aa4.F (s,k,())=some ((A0v s k,()),()):=Aa4.val s.1 s.2.1 s.2.2.1 s.2.2.2 k hk (by have:=h.1.1;omega) h.2.2.1.1
theorem Ad7.val' (s:ShfV) (h:A0j s) (k:Int) (hk:-1≤k/\k≤1000):Ad7.F (s.1,s.2.2.1,k,())=some ((A0v s k,()),()):=Ad7.val s.1 s.2.2.1 k hk (by have:=h.1.1;omega) h.2.2.1.1
def A3q (s:ShfV) (k:Int) (x:List Int):Prop:=(x.length:Int)=A0v s k/\A0I 0 (s.2.1-1) x
theorem A5g {s:ShfV} (h:A0j s) {k:Int} (hk:0≤k/\k≤3):A0v s k≤32:=by
 obtain⟨n,rfl⟩:=zl hk.1;exact h.2.2.1.2.2 n (by omega)
def psum (c:List (List Int)) (st:List Int) (d:Int):Nat->Int
 | 0=>0
 | i+1=>psum c st d i+if ((c.getD i []).length:Int)=d+1 then st.getD i 0 else 0
theorem A3d {c:List (List Int)} {st:List Int} {d:Int} (ha:A0I 0 3 st) {i:Nat} (hi:i<st.length):psum c st d i≤psum c st d (i+1)/\psum c st d (i+1)≤psum c st d i+3:=by
 have:=A0B ha hi;simp only[psum];split<;>omega
theorem A2j {c:List (List Int)} {st:List Int} {d:Int} (ha:A0I 0 3 st):∀ i,i≤st.length->0≤psum c st d i/\psum c st d i≤3*(i:Int):=by
 intro i;induction i with
 | zero=>intro _;simp[psum]
 | succ i ih=>intro h;have:=ih (by omega);have:=A3d (c:=c) (d:=d) ha (show i<st.length by omega);omega
theorem A2f {c:List (List Int)} {st:List Int} {d:Int} (ha:A0I 0 3 st) {i j:Nat} (h:i≤j) (hj:j≤st.length):psum c st d i≤psum c st d j:=by
 induction h with
 | refl=>exact yM _
 | @step m h ih =>
   have h1:=A3d (c:=c) (d:=d) ha (show m<st.length by omega);have h2:=ih (by omega);exact yH h2 h1.1
theorem A1r {c:List (List Int)} {st:List Int} {d:Int} (ha:A0I 0 3 st):∀ i,i≤st.length->i≤1000->sumL st (A0w c d i)=psum c st d i:=by
 intro i;induction i with
 | zero=>intro _ _;rfl
 | succ i ih =>
   intro h h2;have e:=ih (by omega) (by omega);have b:=A2j (c:=c) (d:=d) ha i (by omega);have g:=A0B ha (show i<st.length by omega);rw[A0X];by_cases hd:((c.getD i []).length:Int)=d+1
   . rw[if_pos (by rw[beq_iff_eq];exact hd)];simp only[psum,sumL,yh,yp,List.foldl_nil,za];rw[if_pos hd,show List.foldl (fun acc (j:Int)=>zi.wrap (acc+st.getD j.toNat 0)) 0 (A0w c d i)=sumL st (A0w c d i)from rfl,e,A0q (by omega) (by omega)]
   . rw[if_neg (by rw[beq_iff_eq];exact hd)];simp only[psum];rw[if_neg hd,e];omega
theorem A1E {s:ShfV} (h:A0j s) (k:Int):A0v s k=psum s.1 s.2.2.1 k s.1.length:=by
 have h1:=h.2.2.1.1;have h2:=h.1.1;exact A1r h.2.2.1.2.1 _ (by omega) (by omega)
theorem A5w {c:List (List Int)} {st:List Int} {d:Int}:∀ i,(∀ j,j<i->((c.getD j []).length:Int)≠d+1)->psum c st d i=0:=by
 intro i;induction i with
 | zero=>intro _;rfl
 | succ i ih=>intro h;simp only[psum];rw[if_neg (h i (by omega)),ih fun j hj=>h j (by omega)];rfl
theorem A0A {s:ShfV} (h:A0j s) (k:Int):0≤A0v s k/\A0v s k≤32:=by
 have h1:=h.2.2.1.1;have e:=A1E h k;refine⟨by rw[e];exact(A2j h.2.2.1.2.1 _ (by omega)).1,?_⟩;by_cases hk:0≤k/\k≤3
 . exact A5g h hk
 . rw[e,A5w _ fun j hj=>?_]
   . omega
   . have:=(h.1.2 j hj).1.1;omega
def A0T (s:ShfV) (h:Nat):Int:=psum s.1 s.2.2.1 (((s.1.getD h []).length:Int)-1) h
theorem A1C {s:ShfV} (h:A0j s) {n:Nat} (hn:n<s.1.length):0≤A0T s n/\A0T s n+s.2.2.1.getD n 0≤A0v s (((s.1.getD n []).length:Int)-1):=by
 have h1:=h.2.2.1.1;have ha:=h.2.2.1.2.1;refine⟨(A2j ha _ (by omega)).1,?_⟩;have:=A2f (c:=s.1) (d:=((s.1.getD n []).length:Int)-1) ha (show n+1≤s.1.length by omega) (by omega);simp only[psum]at this;rw[if_pos (by omega)]at this;rw[A1E h];exact this
theorem A2c {c:List (List Int)} {d:Int} {h n:Nat} (hn:h<n) (hd:((c.getD h []).length:Int)=d+1):∃ rest,A0w c d n=A0w c d h++((h:Int)::rest):=by
 induction n with
 | zero=>omega
 | succ n ih =>
   rw[A0X];by_cases hh:h=n
   . subst hh;exact⟨[],by rw[if_pos (by rw[beq_iff_eq];exact hd)]⟩
   . obtain⟨rest,hr⟩:=ih (by omega);split
     . exact⟨rest++[(n:Int)],by rw[hr];simp⟩
     . exact⟨rest,hr⟩
theorem Ac6.val (s:ShfV) (h:A0j s) (n:Nat) (hn:n<s.1.length):Ac6.F (s,(n:Int),())=some ((A0T s n,()),()):=by
 have hcl:=h.1.1;have hsl:=h.2.2.1.1;have ha:=h.2.2.1.2.1;have h4:=(h.1.2 n hn).1.1;obtain⟨d,hd⟩:∃ d:Int,d=((s.1.getD n []).length:Int)-1:=⟨_,rfl⟩;obtain⟨rest,hr⟩:=A2c (c:=s.1) (d:=d) hn (by omega);have hT:∀ r,Ev (fun k=>Ac6.T k s.1 s.2.1 s.2.2.1 s.2.2.2 (n:Int)) r->Ac6.F (s,(n:Int),())=some r:=fun r hr=>Ac6.of _ _ _ _ _ hr;refine hT _ (Ev.of_eq (N:=fun k=>Ac6.l3 k (n:Int) 0 (((A0w s.1 d s.1.length).length:Nat):Int) ((0:Nat):Int) s.1 s.2.1 s.2.2.1 s.2.2.2 (A0w s.1 d s.1.length)) ?_ fun k=>?_)
 . have hpl:=A0M s.1 d n;have hfull:=A0M s.1 d s.1.length;have hlen:(A0w s.1 d s.1.length).length=(A0w s.1 d n).length+(rest.length+1):=by rw[hr];simp
   have hg:=Goes.foldl (L:=fun k i (x:Int)=>Ac6.l3 k (n:Int) x (((A0w s.1 d s.1.length).length:Nat):Int) (i:Int) s.1 s.2.1 s.2.2.1 s.2.2.2 (A0w s.1 d s.1.length)) (A0w s.1 d n) 0 (fun acc j=>zi.wrap (acc+s.2.2.1.getD j.toNat 0)) (fun k i x hi=>by
     obtain⟨j,hj,hjn⟩:=A2b (A0z (0:Int) hi);have e:(A0w s.1 d s.1.length).getD i 0=(j:Int):=by
       rw[hr,zd,zR hi,<-zd,hj]
     rw[Ac6.l3_eq,if_pos (by simp only[decide_eq_true_eq];omega),if_pos (by omega)];simp only[za,e];rw[if_neg (by simp only[beq_iff_eq];omega),if_pos (by omega),A0x (by omega),hj];simp only[za]) 0
   refine hg _ ((Ev.const _).succ fun k=>?_);have e:(A0w s.1 d s.1.length).getD (A0w s.1 d n).length 0=(n:Int):=by
     rw[hr,zd,zO (zh _),Nat.sub_self];rfl
   rw[Ac6.l3_eq,if_pos (by simp only[decide_eq_true_eq];omega),if_pos (by omega)];simp only[za,e];rw[if_pos (by simp),show List.foldl (fun acc (j:Int)=>zi.wrap (acc+s.2.2.1.getD j.toNat 0)) 0 (A0w s.1 d n)=sumL s.2.2.1 (A0w s.1 d n)from rfl,A1r ha _ (by omega) (by omega),A0T,hd]
 . rw[Ac6.T,if_pos (idxI.2 hn),Ab8.eq,Ab8.T];simp only[zb,za];rw[A0q (x:=((s.1.getD n []).length:Int)-1) (by omega) (by omega),<-hd,Ae5.val s.1 d (by omega) (by omega)];rfl
theorem A4L {c p:List (List Int)} (hc:CplxOk c) (hp:CplxOk p) (hi:IsIn p c) {i j:Nat} (hij:i<j) (hj:j<p.length):A0C c (p.getD i [])<A0C c (p.getD j []):=by
 obtain⟨a1,a2⟩:=A0D (hi _ (A0z [] (show i<p.length by omega)));obtain⟨b1,b2⟩:=A0D (hi _ (A0z [] hj));have l:=hp.sorted i j hij hj;refine Nat.lt_of_not_le fun hle=>?_;rcases Nat.lt_or_eq_of_le hle with h|h
 . have g:=hc.sorted _ _ h a1;rw[b2,a2,<-A2d]at g;rw[<-A2d]at l;have:=(a5t _ _).1 g;omega
 . have e:p.getD i []=p.getD j []:=by rw[<-a2,<-b2,h]
   have:=A1W hp.sorted (by omega) hj e;omega
def stIn (c p:List (List Int)) (st:List Int):List Int:=(zj p.length).map fun k=>st.getD (A0C c (p.getD k [])) 0
theorem psum_le {c p:List (List Int)} (hc:CplxOk c) (hp:CplxOk p) (hi:IsIn p c) {st:List Int} (ha:A0I 0 3 st) (hl:st.length=c.length) (d:Int):∀ k,k≤p.length->∀ n,(∀ j,j<k->A0C c (p.getD j [])<n)->n≤c.length->psum p (stIn c p st) d k≤psum c st d n:=by
 intro k;induction k with
 | zero=>intro _ n _ hn;exact(A2j ha n (by omega)).1
 | succ k ih =>
   intro hk n hj hn;have hm:=hj k (by omega);have h1:=ih (by omega) (A0C c (p.getD k [])) (fun j hjk=>A4L hc hp hi hjk (by omega)) (by omega);obtain⟨a1,a2⟩:=A0D (hi _ (A0z [] (show k<p.length by omega)));have e:psum p (stIn c p st) d (k+1)≤psum c st d (A0C c (p.getD k [])+1):=by
     have es:(stIn c p st).getD k 0=st.getD (A0C c (p.getD k [])) 0:=by rw[stIn,A0H _ 0 (by omega)]
     simp only[psum];rw[a2,es];split<;>omega
   exact yH e (A2f ha (by omega) (by omega))
theorem A5a (s:ShfV) {p:List (List Int)} (hc:CplxOk p) {k:Nat} (hk:k<p.length):plAt s p (vts p) k=A0C s.1 (p.getD k []):=by rw[plAt,A2R hc (A0z [] hk)]
theorem A0s (s:ShfV) {p:List (List Int)} (hc:CplxOk p):A0J s p (vts p)=stIn s.1 p s.2.2.1:=yC fun k hk=>by rw[A5a s hc (zI.1 hk)]
theorem A4b {s:ShfV} (h:A0j s) {f i:Nat} (hf:f<s.1.length) (hi:i<s.1.length) (hsub:∀ x∈s.1.getD f [],x∈s.1.getD i []) :
   MatOk (A0r s f i)/\(A0r s f i).1=s.2.1/\(A0r s f i).2.1=s.2.2.1.getD i 0/\(A0r s f i).2.2.1=s.2.2.1.getD f 0:=by
 have htf:=(h.1.2 f hf).1;have hle:=A1w (A1O htf.2.2) hsub;obtain⟨m,m0,m1,m2,m3,m4,m5,m6⟩:=A1G s h f hf ((s.1.getD i []).length-(s.1.getD f []).length) i hi (by omega) hsub;have c1:Ad5.F (s,(f:Int),(i:Int),())=some ((m,()),()):=Ad5.ofR ⟨_,fun q hq=>m5 q (yk hq)⟩;have e:A0r s f i=m:=by unfold A0r;rw[c1]
 rw[e];exact⟨m1,m2,m3,m4⟩
noncomputable def rstS (s:ShfV) (p:List (List Int)):ShfV:=pulS s p (vts p)
theorem A0b {s:ShfV} {p:List (List Int)} (h:A0j s) (hc:CplxOk p) (hi:IsIn p s.1):A0j (rstS s p):=by
 have hl:s.2.2.1.length=s.1.length:=h.2.2.1.1;have hn:=hc.1;have hn':=h.1.1;have hall:=A2e h p (vts p);have hlen:(A0J s p (vts p)).length=p.length:=by simp[A0J]
 refine⟨hc,h.2.1,⟨hlen,hall,fun k hk=>?_⟩,A0l s p (vts p),fun i hip j hj=>?_⟩
 . show sumL (A0J s p (vts p)) (A0w p k p.length)≤32;have h2:=h.2.2.1.2.2 k hk;rw[A1r h.2.2.1.2.1 _ (by omega) (by omega)]at h2;rw[A1r hall _ (by omega) (by omega),A0s s hc];exact yH (psum_le h.1 hc hi h.2.2.1.2.1 hl k p.length (zh _) s.1.length (fun j hj=>(A0D (hi _ (A0z [] hj))).1) (zh _)) h2
 . have hip:i<p.length:=hip;have hj:j<(fcs p i).length:=hj;obtain⟨f,hf,hfl,hsub⟩:=A3B hc hip hj;have e1:(A1M s p (vts p)).getD (off p i+j) (0,0,0,[])=A0r s (plAt s p (vts p) f) (plAt s p (vts p) i):=by
     rw[A1M,A1K,A0H _ _ (by rw[A0N];exact A2u hip hj),A2L p hip hj];simp only[hf,za]
   obtain⟨a1,a2⟩:=A1k (A3I hc hi) hfl;obtain⟨b1,b2⟩:=A1k (A3I hc hi) hip;rw[A2R hc (A0z [] hfl)]at a2;rw[A2R hc (A0z [] hip)]at b2;have d:=A4b h a1 b1 (by rw[a2,b2];exact hsub);show A3S p s.2.1 (A0J s p (vts p)) ((A1M s p (vts p)).getD (off p i+j) (0,0,0,[])) i j;rw[e1];refine⟨d.1,d.2.1,?_,?_⟩
   . rw[d.2.2.1,A0J,A0H _ 0 hip]
   . rw[d.2.2.2,hf,za,A0J,A0H _ 0 hfl]
def zeroM (p:Int) (R C:Nat):MatV:=(p,(R:Int),(C:Int),zC (R*C) 0)
theorem Aq0.val (p:Int) (R C:Nat) (hR:R≤32) (hC:C≤32):Aq0.F (p,(R:Int),(C:Int),())=some ((zeroM p R C,()),()):=by
 rw[Aq0.eq,Aq0.T,Ac3.val p R C _ (fun _ _=>0) hR hC (fun i j _ _=>by
   show(At3.F ((i:Int),(j:Int),())).map (·.1)=_;rw[At3.eq,At3.T];rfl)]
 simp only[zb,zeroM];rw[A3D (R:=R) (C:=C) (g:=fun _ _=>0) (ys:=zC (R*C) 0) (by simp) fun i j hi hj=>by
   have:=A4B hi hj;simp[zd,yo,this]]
def wr (ws:List (Nat×Int)) (x:List Int):List Int:=ws.foldl (fun x w=>x.set w.1 w.2) x
theorem A0c (ws:List (Nat×Int)):∀ x,(wr ws x).length=x.length:=by
 induction ws with
 | nil=>intro x;rfl
 | cons w ws ih=>intro x;show(wr ws (x.set w.1 w.2)).length=_;rw[ih];simp
theorem A5P (ws vs:List (Nat×Int)) (x:List Int):wr (ws++vs) x=wr vs (wr ws x):=by simp[wr,yh]
theorem A5u {P:Int->Prop} (ws:List (Nat×Int)):∀ x:List Int,(∀ w∈ws,P w.2)->(∀ a∈x,P a)->∀ a∈wr ws x,P a:=by
 induction ws with
 | nil=>intro x _ h;exact h
 | cons w ws ih =>
   intro x hw hx;refine ih (x.set w.1 w.2) (fun v hv=>hw v (by simp[hv])) fun a ha=>?_;rcases List.mem_or_eq_of_mem_set ha with h|h
   . exact hx a h
   . rw[h];exact hw w (by simp)
theorem Goes.writes {R:Type} (L:Nat->Nat->List Int->Option R) (n Z:Nat) (w:Nat->List (Nat×Int)) (hstep:∀ i x,i<n->x.length=Z->Goes (fun k=>L k i x) (fun k=>L k (i+1) (wr (w i) x))) (x:List Int) (hx:x.length=Z) :
   Goes (fun k=>L k 0 x) (fun k=>L k n (wr ((zj n).flatMap w) x)):=by
 obtain⟨y,hy,hg⟩:=Goes.loop (R:=R) L n (fun i y=>y=wr ((zj i).flatMap w) x) (fun i y hi h=>⟨_,rfl,by
   have:=hstep i y hi (by rw[h,A0c,hx]);rw[zt,yD,A5P,<-h];simpa using this⟩) 0 x (zc _) rfl
 rw[<-hy];exact hg
def sgn (p:Int) (i:Nat):Int:=if i%2=0 then 1 else p-1
theorem sgn_bd {p:Int} (hp:2≤p/\p≤251) (i:Nat):0≤sgn p i/\sgn p i≤p-1:=by unfold sgn;split<;>omega
theorem Ap0.val (i:Nat) (p:Int) (hp:2≤p/\p≤251):Ap0.F ((i:Int),p,())=some ((sgn p i,()),()):=by
 have e:(i:Int).tmod 2=((i%2:Nat):Int):=by rw[A2J (by omega)];omega
 rw[Ap0.eq,Ap0.T,if_neg (by omega),e,sgn];by_cases h:i%2=0
 . rw[if_pos (by simp[h]),if_pos h]
 . rw[if_neg (by simp only[beq_iff_eq];omega),if_neg h,A0q (by omega) (by omega)]
def A3k (s:ShfV) (W h i a:Nat):List (Nat×Int):=(zj (A0k s h i).2.2.1.toNat).map fun b=>(((A0T s h).toNat+a)*W+(A0T s (fc s.1 h i)).toNat+b,((A0k s h i).2.2.2.getD (a*(A0k s h i).2.2.1.toNat+b) 0*sgn s.2.1 i)%s.2.1)
def A3u (s:ShfV) (W h i:Nat):List (Nat×Int):=(zj (A0k s h i).2.1.toNat).flatMap (A3k s W h i)
def A3t (s:ShfV) (W h:Nat):List (Nat×Int):=(zj (fcs s.1 h).length).flatMap (A3u s W h)
def cobW (s:ShfV) (k:Int):List (Nat×Int):=if k<0 then[]else(zj (A0w s.1 (k+1) s.1.length).length).flatMap fun n=>A3t s (A0v s k).toNat ((A0w s.1 (k+1) s.1.length).getD n 0).toNat
def cobM (s:ShfV) (k:Int):MatV:=(s.2.1,A0v s (k+1),A0v s k,wr (cobW s k) (zC ((A0v s (k+1)).toNat*(A0v s k).toNat) 0))
theorem A2F (n:Nat) (f:Nat->Nat×Int):(zj n).map f=(zj n).flatMap fun b=>[f b]:=by induction n with
 | zero=>rfl
 | succ n ih=>rw[zt,zm,yD,ih];rfl
theorem A3s {s:ShfV} (h:A0j s) (k:Int):MatOk (cobM s k):=by
 have hp:=h.2.1;obtain⟨a1,a2⟩:=A0A h (k+1);obtain⟨b1,b2⟩:=A0A h k;refine⟨hp,⟨a1,a2⟩,⟨b1,b2⟩,?_,?_⟩
 . simp only[cobM,A0c,List.length_replicate];obtain⟨x,hx⟩:=zl a1;obtain⟨y,hy⟩:=zl b1;rw[hx,hy];simp
 . refine A5u (P:=fun a=>0≤a/\a≤s.2.1-1) _ _ (fun w hw=>?_) fun a ha=>?_
   . unfold cobW at hw;split at hw
     . cases hw
     . simp only[zP,A3t,A3u,A3k,zw]at hw;obtain⟨_,_,_,_,_,_,_,_,rfl⟩:=hw;exact A1a hp.1.1
   . have:=(List.mem_replicate.1 ha).2;have:=hp.1.1;omega
structure Blk (s:ShfV) (k:Int) (h i:Nat) (f R C W H T L:Nat):Prop where
 at_:(fcs s.1 h).getD i 0=(f:Int)
 flt:f<s.1.length
 fc_:fc s.1 h i=f
 rows:(A0k s h i).2.1=(R:Int)
 cols:(A0k s h i).2.2.1=(C:Int)
 cells:(A0k s h i).2.2.2.length=R*C
 el:A0I 0 (s.2.1-1) (A0k s h i).2.2.2
 prime:(A0k s h i).1=s.2.1
 top:A0T s h=(T:Int)
 left:A0T s f=(L:Int)
 bT:T+R≤H
 bL:L+C≤W
 bH:H≤32
 bW:W≤32
theorem blk {s:ShfV} (ho:A0j s) {k:Int} {h i:Nat} (hh:h<s.1.length) (hd:((s.1.getD h []).length:Int)=k+2) (hi:i<(fcs s.1 h).length):∃ f R C T L,Blk s k h i f R C (A0v s k).toNat (A0v s (k+1)).toNat T L:=by
 obtain⟨f,h1,h2,h4,h5,h6⟩:=A3C ho.1 hh hi;have m1:=A0i ho hh hi;obtain⟨R,C,r1,r2,r3,r4,r5,r6,r7⟩:=m1.1.nat;have hfl:(s.1.getD f []).length=(s.1.getD h []).length-1:=by rw[h4];exact A0O h5
 obtain⟨a1,a2⟩:=A1C ho hh;obtain⟨b1,b2⟩:=A1C ho h2;obtain⟨T,hT⟩:=zl a1;obtain⟨L,hL⟩:=zl b1;obtain⟨c1,c2⟩:=A0A ho k;obtain⟨d1,d2⟩:=A0A ho (k+1);rw[show((s.1.getD h []).length:Int)-1=k+1 by omega]at a2;rw[show((s.1.getD f []).length:Int)-1=k by omega]at b2;have eR:s.2.2.1.getD h 0=(R:Int):=by rw[<-m1.2.2.1,r1]
 have eC:s.2.2.1.getD f 0=(C:Int):=by rw[<-r2,m1.2.2.2,h1];rfl
 exact⟨f,R,C,T,L,h1,h2,by rw[fc,h1,za],r1,r2,r5,by rw[<-m1.2.1];exact r7,m1.2.1,hT,hL,by omega,by omega,by omega,by omega⟩
theorem cobPos {T L W H R C a b:Nat} (bT:T+R≤H) (bL:L+C≤W) (bH:H≤32) (bW:W≤32) (ha:a<R) (hb:b<C) :
   zi.wrap ((zi.wrap ((zi.wrap ((zi.wrap ((T:Int)+(a:Int)))*(W:Int)))+(L:Int)))+(b:Int))=(((T+a)*W+L+b:Nat):Int)/\(T+a)*W+L+b<H*W:=by
 have h1:=A4B (R:=H) (C:=W) (show T+a<H by omega) (show L+b<W by omega);have h2:H*W≤32*32:=zA bH bW;have e:((T+a:Nat):Int)*(W:Int)=(((T+a)*W:Nat):Int):=by simp
 refine⟨?_,by omega⟩;rw[A0q (x:=(T:Int)+(a:Int)) (by omega) (by omega),show(T:Int)+(a:Int)=((T+a:Nat):Int)by omega,e,A0q (x:=(((T+a)*W:Nat):Int)) (by omega) (by omega),A0q (x:=(((T+a)*W:Nat):Int)+(L:Int)) (by omega) (by omega),A0q (by omega) (by omega)];omega
theorem A3G {c:List (List Int)} {d:Int} {n m:Nat} (h:m<(A0w c d n).length):∃ j:Nat,(A0w c d n).getD m 0=(j:Int)/\j<n/\((c.getD j []).length:Int)=d+1:=by
 have hm:=A0z (0:Int) h;simp only[A0w,zw,zT,zI,beq_iff_eq]at hm;obtain⟨j,⟨h1,h2⟩,h3⟩:=hm;exact⟨j,h3.symm,h1,h2⟩
end Go.Proofs.YtpdlhcgmejadnaaGreat
