/- What the functions answer. -/
import Derived.Test.YtpdlhcgmejadnaaGreatConnectingCocycleG2
namespace Go.Proofs.YtpdlhcgmejadnaaGreat
open Go Go.Vm
set_option linter.unusedVariables false
set_option linter.unusedSimpArgs false
abbrev A1i:=Int×Int×Int
theorem A0B {x:Int} (h1:-9223372036854775808≤x) (h2:x≤9223372036854775807):IntKind.i64.wrap x=x:=by
 have e:(2:Int) ^ (IntKind.i64).bits=18446744073709551616:=by decide
 have e2:(2:Int) ^ ((IntKind.i64).bits-1)=9223372036854775808:=by decide
 unfold IntKind.wrap;simp only[e,e2,show IntKind.i64.signed=true from rfl,Bool.true_and,decide_eq_true_eq];split<;>omega
theorem A0x {i:Nat} (h:i<4611686018427387904):IntKind.i64.wrap ((i:Int)+1)=((i+1:Nat):Int):=by
 rw[A0B (by omega) (by omega)];omega
theorem idxI {α:Type} {xs:List α} {i:Nat}:(0≤(i:Int)/\(i:Int)<(xs.length:Int))↔i<xs.length:=by omega
theorem ltI {i n:Nat}:(decide ((i:Int)<(n:Int)))=true↔i<n:=by simp
theorem A0y {α:Type} {xs:List α} {i:Nat} {d:α} (h:i<xs.length):xs.getD i d=xs[i]:=by
 rw[List.getD_eq_getElem?_getD,List.getElem?_eq_getElem h];rfl
def Goes {R:Type} (A B:Nat->Option R):Prop:=∀ r,Ev B r->Ev A r
theorem Goes.refl {R:Type} (A:Nat->Option R):Goes A A:=fun _ h=>h
theorem Goes.trans {R:Type} {A B C:Nat->Option R} (h:Goes A B) (k:Goes B C):Goes A C:=fun r hr=>h r (k r hr)
theorem Goes.succ {R:Type} {A B:Nat->Option R} (e:∀ k,A (k+1)=B k):Goes A B:=fun _ h=>h.succ e
theorem Goes.of_eq {R:Type} {A B:Nat->Option R} (e:∀ k,A k=B k):Goes A B:=fun _ h=>h.of_eq e
theorem Ev.loop {σ R:Type} (L:Nat->Nat->σ->Option R) (n:Nat) (I:Nat->σ->Prop) (Q:R->Prop)
   (hstep:∀ i s,i<n->I i s->(∃ r,Ev (fun k=>L k i s) r/\Q r)∨(∃ s',I (i+1) s'/\Goes (fun k=>L k i s) (fun k=>L k (i+1) s')))
   (hend:∀ s,I n s->∃ r,Ev (fun k=>L k n s) r/\Q r):∀ i s,i≤n->I i s->∃ r,Ev (fun k=>L k i s) r/\Q r:=by
 have key:∀ j i s,i+j=n->I i s->∃ r,Ev (fun k=>L k i s) r/\Q r:=by
   intro j;induction j with
   | zero => intro i s hi h;obtain rfl:i=n:=by omega
             exact hend s h
   | succ j ih =>
     intro i s hi h;rcases hstep i s (by omega) h with h1|⟨s',h1,h2⟩
     . exact h1
     . obtain⟨r,hr,hq⟩:=ih (i+1) s' (by omega) h1;exact⟨r,h2 r hr,hq⟩
 exact fun i s hi h=>key (n-i) i s (by omega) h
theorem Goes.loop {σ R:Type} (L:Nat->Nat->σ->Option R) (n:Nat) (I:Nat->σ->Prop)
   (hstep:∀ i s,i<n->I i s->∃ s',I (i+1) s'/\Goes (fun k=>L k i s) (fun k=>L k (i+1) s')):∀ i s,i≤n->I i s->∃ s',I n s'/\Goes (fun k=>L k i s) (fun k=>L k n s'):=by
 have key:∀ j i s,i+j=n->I i s->∃ s',I n s'/\Goes (fun k=>L k i s) (fun k=>L k n s'):=by
   intro j;induction j with
   | zero => intro i s hi h;obtain rfl:i=n:=by omega
             exact⟨s,h,Goes.refl _⟩
   | succ j ih =>
     intro i s hi h;obtain⟨s',h1,h2⟩:=hstep i s (by omega) h;obtain⟨s2,h3,h4⟩:=ih (i+1) s' (by omega) h1;exact⟨s2,h3,h2.trans h4⟩
 exact fun i s hi h=>key (n-i) i s (by omega) h
theorem Ev.all {A B:Type} {L:Nat->Nat->Option ((Bool×A)×B)} {a:A} {b:B} {n:Nat} (p:Nat->Bool) (hstep:∀ k i,i<n->L (k+1) i=if p i=true then L k (i+1)else some ((false,a),b)) (hend:∀ k,L (k+1) n=some ((true,a),b)) (i:Nat) (hi:i≤n) :
   ∃ v,Ev (fun k=>L k i) ((v,a),b)/\(v=true↔∀ j,i≤j->j<n->p j=true):=by
 have key:∀ m i,i+m=n->∃ v,Ev (fun k=>L k i) ((v,a),b)/\(v=true↔∀ j,i≤j->j<n->p j=true):=by
   intro m;induction m with
   | zero => intro i hi;obtain rfl:i=n:=by omega
             exact⟨true,(Ev.const _).succ hend,by simp;intro j _ _;omega⟩
   | succ m ih =>
     intro i hi;obtain⟨v,hv,hv'⟩:=ih (i+1) (by omega);cases hp:p i with
     | false=>exact⟨false,(Ev.const _).succ fun k=>by rw[hstep k i (by omega),hp];rfl,by simp;exact⟨i,Nat.le_refl _,by omega,hp⟩⟩
     | true =>
       refine⟨v,hv.succ fun k=>by rw[hstep k i (by omega),hp];rfl,hv'.trans ⟨fun h j hj hn=>?_,fun h j hj hn=>h j (by omega) hn⟩⟩;by_cases hij:j=i
       . rw[hij];exact hp
       . exact h j (by omega) hn
 exact key (n-i) i (by omega)
theorem all_eq {α:Type} {xs ys:List α} (hl:xs.length=ys.length) (q:α->α->Bool) (hq:∀ x y,q x y=true↔x=y) (d:α):(∀ j,0≤j->j<xs.length->q (xs.getD j d) (ys.getD j d)=true)↔xs=ys:=by
 constructor
 . intro h;refine List.ext_getElem hl fun i h1 h2=>?_;have:=(hq _ _).1 (h i (Nat.zero_le _) h1)
   rwa [A0y h1,A0y h2]at this
 . rintro rfl j _ _;exact(hq _ _).2 rfl
theorem Goes.fill {α R:Type} {L:Nat->Nat->List α->Option R} (xs:List α) (d:α) (hstep:∀ k i ys,i<xs.length->ys.length=xs.length->L (k+1) i ys=L k (i+1) (ys.set i (xs.getD i d))) (ys:List α) (hy:ys.length=xs.length) :
   Goes (fun k=>L k 0 ys) (fun k=>L k xs.length xs):=by
 obtain⟨s,⟨hs1,hs2⟩,hs3⟩:=Goes.loop L xs.length (fun i s=>s.length=xs.length/\s.take i=xs.take i) (fun i s hi ⟨h1,h2⟩=>⟨s.set i (xs.getD i d),⟨by simp[h1],by
   rw[List.take_add_one,List.take_add_one,List.take_set_of_le (Nat.le_refl _),h2];simp[hi,h1,A0y hi]⟩,Goes.succ fun k=>hstep k i s hi h1⟩) 0 ys (Nat.zero_le _) ⟨hy,by simp⟩
 have:s=xs:=by
   rw[List.take_of_length_le (by omega),List.take_of_length_le (Nat.le_refl _)]at hs2;exact hs2
 rw[this]at hs3;exact hs3
theorem ite_nb {α:Type} (b:Bool) (x y:α):(if (!b)=true then x else y)=if b=true then y else x:=by cases b<;>rfl
theorem Ev.allP {A B:Type} {L:Nat->Nat->Option ((Bool×A)×B)} {a:A} {b:B} {n:Nat} (P:Nat->Prop) (e:Bool) (hstep:∀ i,i<n->(P i/\∀ k,L (k+1) i=L k (i+1))∨(¬ P i/\∀ k,L (k+1) i=some ((false,a),b))) (hend:Ev (fun k=>L k n) ((e,a),b)) (i:Nat) (hi:i≤n) :
   ∃ v,Ev (fun k=>L k i) ((v,a),b)/\(v=true↔e=true/\∀ j,i≤j->j<n->P j):=by
 have key:∀ m i,i+m=n->∃ v,Ev (fun k=>L k i) ((v,a),b)/\(v=true↔e=true/\∀ j,i≤j->j<n->P j):=by
   intro m;induction m with
   | zero => intro i hi;obtain rfl:i=n:=by omega
             exact⟨e,hend,⟨fun h=>⟨h,fun j h1 h2=>by omega⟩,fun h=>h.1⟩⟩
   | succ m ih =>
     intro i hi;obtain⟨v,hv,hv'⟩:=ih (i+1) (by omega);rcases hstep i (by omega)with⟨hp,h⟩|⟨hp,h⟩
     . refine⟨v,hv.succ h,hv'.trans ⟨fun⟨h1,h2⟩=>⟨h1,fun j hj hn=>?_⟩,fun⟨h1,h2⟩=>⟨h1,fun j hj hn=>h2 j (by omega) hn⟩⟩⟩;by_cases hij:j=i
       . rw[hij];exact hp
       . exact h2 j (by omega) hn
     . exact⟨false,(Ev.const _).succ h,⟨fun h=>(by cases h),fun⟨_,h2⟩=>absurd (h2 i (Nat.le_refl _) (by omega)) hp⟩⟩
 exact key (n-i) i (by omega)
theorem A3u {i:Nat} (h:0<i) (h2:i<4611686018427387904):IntKind.i64.wrap ((i:Int)-1)=((i-1:Nat):Int):=by
 rw[A0B (by omega) (by omega)];omega
theorem Goes.foldl {α σ R:Type} {L:Nat->Nat->σ->Option R} (xs:List α) (d:α) (f:σ->α->σ) (hstep:∀ k i s,i<xs.length->L (k+1) i s=L k (i+1) (f s (xs.getD i d))) (s:σ):Goes (fun k=>L k 0 s) (fun k=>L k xs.length (xs.foldl f s)):=by
 have key:∀ m i s,i+m=xs.length->Goes (fun k=>L k i s) (fun k=>L k xs.length ((xs.drop i).foldl f s)):=by
   intro m;induction m with
   | zero => intro i s hi;obtain rfl:i=xs.length:=by omega
             rw[List.drop_length];exact Goes.refl _
   | succ m ih =>
     intro i s hi;have h:i<xs.length:=by omega
     refine(Goes.succ fun k=>hstep k i s h).trans ?_;rw[List.drop_eq_getElem_cons h,List.foldl_cons,<-A0y (d:=d) h];exact ih (i+1) _ (by omega)
 have:=key xs.length 0 s (by omega);simpa using this
theorem A0z {α:Type} {xs:List α} {i:Nat} (d:α) (h:i<xs.length):xs.getD i d∈xs:=by rw[A0y h];exact List.getElem_mem h
theorem Ev.allF {A B:Type} {L:Nat->Nat->Option ((Bool×A)×B)} {a:A} {b:B} {n:Nat} (P:Nat->Prop) (e:Bool) (i0:Nat) (hstep:∀ i,i0≤i->i<n->(P i/\∀ k,L (k+1) i=L k (i+1))∨(¬ P i/\∀ k,L (k+1) i=some ((false,a),b))) (hend:Ev (fun k=>L k n) ((e,a),b)) (i:Nat) (h0:i0≤i) (hi:i≤n) :
   ∃ v,Ev (fun k=>L k i) ((v,a),b)/\(v=true↔e=true/\∀ j,i≤j->j<n->P j):=by
 have key:∀ m i,i0≤i->i+m=n->∃ v,Ev (fun k=>L k i) ((v,a),b)/\(v=true↔e=true/\∀ j,i≤j->j<n->P j):=by
   intro m;induction m with
   | zero => intro i h0 hi;obtain rfl:i=n:=by omega
             exact⟨e,hend,⟨fun h=>⟨h,fun j h1 h2=>by omega⟩,fun h=>h.1⟩⟩
   | succ m ih =>
     intro i h0 hi;obtain⟨v,hv,hv'⟩:=ih (i+1) (by omega) (by omega);rcases hstep i h0 (by omega)with⟨hp,h⟩|⟨hp,h⟩
     . refine⟨v,hv.succ h,hv'.trans ⟨fun⟨h1,h2⟩=>⟨h1,fun j hj hn=>?_⟩,fun⟨h1,h2⟩=>⟨h1,fun j hj hn=>h2 j (by omega) hn⟩⟩⟩;by_cases hij:j=i
       . rw[hij];exact hp
       . exact h2 j (by omega) hn
     . exact⟨false,(Ev.const _).succ h,⟨fun h=>(by cases h),fun⟨_,h2⟩=>absurd (h2 i (Nat.le_refl _) (by omega)) hp⟩⟩
 exact key (n-i) i h0 (by omega)
open Go.Lib (compact compactUpTo compactUpTo_succ keeps)
theorem A3K:∀ {xs ys:List Int},xs.Pairwise (·<·)->ys.Pairwise (·<·)->(∀ s,s∈xs↔s∈ys)->xs=ys
 | [],ys,_,_,h=>by
   cases ys with
   | nil=>rfl
   | cons y ys=>exact absurd ((h y).2 (by simp)) (by simp)
 | x::xs,[],_,_,h=>absurd ((h x).1 (by simp)) (by simp)
 | x :: xs,y::ys,hx,hy,h=>by
   rw[List.pairwise_cons]at hx hy;have e:x=y:=by
     have h1:=(h x).1 (by simp);have h2:=(h y).2 (by simp);simp only[List.mem_cons]at h1 h2;rcases h1 with rfl|h1
     . rfl
     . rcases h2 with rfl|h2
       . rfl
       . have:=hx.1 y h2;have:=hy.1 x h1;omega
   subst e;rw[A3K hx.2 hy.2 fun s=>?_];constructor
   . intro hs;have:=(h s).1 (by simp[hs]);simp only[List.mem_cons]at this;rcases this with rfl|this
     . have:=hx.1 s hs;omega
     . exact this
   . intro hs;have:=(h s).2 (by simp[hs]);simp only[List.mem_cons]at this;rcases this with rfl|this
     . have:=hy.1 s hs;omega
     . exact this
theorem A2E (d:Array Int) (hs:∀ i j,i<j->j<d.size->d[i]! ≤ d[j]!):∀ m,m≤d.size->(compactUpTo d m).Pairwise (·<·)/\(∀ x,x∈compactUpTo d m↔∃ j,j<m/\d[j]! = x)/\∀ x∈compactUpTo d m,x≤d[m-1]!
 | 0,_=>⟨by simp[compactUpTo],fun x=>by simp[compactUpTo],fun x hx=>by simp[compactUpTo]at hx⟩
 | m + 1,h=>by
   obtain⟨h1,h2,h3⟩:=A2E d hs m (by omega);have hm:∀ x∈compactUpTo d m,x≤d[m]! := fun x hx=>by
     obtain⟨j,hj,rfl⟩:=(h2 x).1 hx;exact hs j m hj (by omega)
   rw[compactUpTo_succ];by_cases hk:keeps d m=true
   . rw[if_pos hk];have hlt:∀ x∈compactUpTo d m,x<d[m]! := fun x hx=>by
       have hm0:m≠0:=by
         rintro rfl;simp[compactUpTo]at hx
       simp only[keeps,hm0,false_or,decide_eq_true_eq,ne_eq]at hk;have:=h3 x hx;have:=hs (m-1) m (by omega) (by omega);omega
     refine⟨?_,fun x=>?_,fun x hx=>?_⟩
     . rw[List.pairwise_append];exact⟨h1,by simp,fun a ha b hb=>by simp only[List.mem_singleton]at hb;rw[hb];exact hlt a ha⟩
     . rw[List.mem_append,h2,List.mem_singleton];constructor
       . rintro(⟨j,hj,rfl⟩|rfl)
         . exact⟨j,by omega,rfl⟩
         . exact⟨m,by omega,rfl⟩
       . rintro⟨j,hj,rfl⟩;by_cases e:j=m
         . subst e;exact .inr rfl
         . exact .inl ⟨j,by omega,rfl⟩
     . simp only[Nat.add_sub_cancel];rw[List.mem_append,List.mem_singleton]at hx;rcases hx with hx|rfl
       . exact hm x hx
       . exact Int.le_refl _
   . rw[if_neg hk,List.append_nil];have hm0:m≠0/\d[m]! = d[m-1]! := by
       simp only[keeps,decide_eq_true_eq,ne_eq,not_or,Classical.not_not]at hk;exact hk
     refine⟨h1,fun x=>?_,fun x hx=>by simpa using hm x hx⟩;rw[h2];constructor
     . rintro⟨j,hj,rfl⟩;exact⟨j,by omega,rfl⟩
     . rintro⟨j,hj,rfl⟩;by_cases e:j=m
       . subst e;exact⟨j-1,by omega,hm0.2.symm⟩
       . exact⟨j,by omega,rfl⟩
def setI (xs:List Int):List Int:=compact (xs.mergeSort fun x y=>decide (x≤y))
theorem A1d (xs:List Int):(setI xs).Pairwise (·<·)/\∀ x,x∈setI xs↔x∈xs:=by
 obtain⟨ys,hys⟩:∃ ys,ys=xs.mergeSort fun x y=>decide (x≤y):=⟨_,rfl⟩;have hp:ys.Perm xs:=by rw[hys];exact List.mergeSort_perm _ _
 have hs:ys.Pairwise (fun a b=>decide (a≤b)=true):=by
   rw[hys];refine List.pairwise_mergeSort ?_ ?_ _
   . intro a b c h1 h2;simp only[decide_eq_true_eq]at *;omega
   . intro a b;simp only[Bool.or_eq_true,decide_eq_true_eq];omega
 have hget:∀ j (hj:j<ys.length),ys.toArray[j]! = ys[j]:=fun j hj=>by rw[getElem!_pos ys.toArray j (by simpa using hj)];simp
 obtain⟨h1,h2,-⟩:=A2E ys.toArray (fun i j hij hj=>by
   have hj':j<ys.length:=by simpa using hj
   have:=List.pairwise_iff_getElem.1 hs i j (by omega) hj' hij;rw[hget i (by omega),hget j hj'];simpa using this) ys.length (by simp)
 unfold setI;rw[<-hys];refine⟨h1,fun x=>?_⟩;show x∈compactUpTo ys.toArray ys.length↔_;rw[h2,<-hp.mem_iff];constructor
 . rintro⟨j,hj,rfl⟩;rw[hget j hj];exact List.getElem_mem hj
 . intro hx;obtain⟨j,hj,rfl⟩:=List.getElem_of_mem hx;exact⟨j,hj,hget j hj⟩
theorem Aq8.val (xs:List Int) (h:xs.length≤1048576):Aq8.F (xs,())=some ((),(xs.mergeSort fun x y=>decide (x≤y),())):=by
 unfold Aq8.F b4p;rw[if_pos (show xs.length<_ by omega)]
theorem Aq6.val (xs:List Int) (h:xs.length≤1048576):Aq6.F (xs,())=some ((compact xs,()),()):=by
 unfold Aq6.F b4b;rw[if_pos (show xs.length<_ by omega)]
def putL:List Int->Int->Bool->List Int
 | [],n,b=>if b=true then[]else[n]
 | x::l,n,b=>if b=true then x::putL l n true else if n≤x then(if n<x then n::x::putL l n true else x::putL l n true)else x::putL l n false
theorem A1F (n:Int):∀ l,putL l n true=l
 | []=>rfl
 | x::l=>by simp[putL,A1F n l]
theorem A3E (n:Int):∀ {l:List Int},l.Pairwise (·<·)->(putL l n false).Pairwise (·<·)/\∀ x,x∈putL l n false↔x=n∨x∈l
 | [],_=>⟨by simp[putL],fun x=>by simp[putL]⟩
 | y :: l,h=>by
   rw[List.pairwise_cons]at h;obtain⟨h1,h2⟩:=A3E n h.2;simp only[putL,Bool.false_eq_true,if_false,A1F];by_cases c1:n≤y
   . rw[if_pos c1];by_cases c2:n<y
     . rw[if_pos c2];refine⟨?_,fun x=>by simp⟩;rw[List.pairwise_cons,List.pairwise_cons];refine⟨fun a ha=>?_,h.1,h.2⟩;simp only[List.mem_cons]at ha;rcases ha with rfl|ha
       . exact c2
       . have:=h.1 a ha;omega
     . rw[if_neg c2];have:n=y:=by omega
       subst this;exact⟨List.pairwise_cons.2 h,fun x=>by simp⟩
   . rw[if_neg c1];refine⟨List.pairwise_cons.2 ⟨fun a ha=>?_,h1⟩,fun x=>?_⟩
     . rcases(h2 a).1 ha with rfl|ha
       . omega
       . exact h.1 a ha
     . rw[List.mem_cons,h2,List.mem_cons];constructor
       . rintro(h|h|h)
         . exact .inr (.inl h)
         . exact .inl h
         . exact .inr (.inr h)
       . rintro(h|h|h)
         . exact .inr (.inl h)
         . exact .inl h
         . exact .inr (.inr h)
theorem A4b (n:Int) (l:List Int) (b:Bool):(putL l n b).length≤l.length+1:=by
 induction l generalizing b with
 | nil=>simp only[putL];split<;>simp
 | cons x l ih =>
   have h1:=A1F n l;simp only[putL];split
   . rw[h1];simp
   . split
     . split<;>rw[h1]<;>simp
     . have:=ih false;simp only[List.length_cons];omega
theorem Am3.val (xs:List Int) (n:Int) (h:xs.length≤1000):Am3.F (xs,n,())=some ((putL xs n false,()),()):=by
 refine Am3.of _ _ ?_;have key:∀ (m i:Nat) (b:Bool) (out:List Int),i+m=xs.length->out.length≤i+b.toNat->Ev (fun k=>Am3.l4 k xs n b (i:Int) out) ((out++putL (xs.drop i) n b,()),()):=by
   intro m;induction m with
   | zero =>
     intro i b out hi ho;have ho1:out.length≤i+1:=by have:=Bool.toNat_le b;omega
     have hi:i=xs.length:=by omega
     subst hi;refine(Ev.const _).succ fun k=>?_;rw[Am3.l4_eq,if_neg (by simp),List.drop_length];cases b with
     | false=>rw[if_pos (by simp),if_pos (by simp only[List.length_cons,List.length_nil,bigA];omega)];simp[putL]
     | true=>rw[if_neg (by simp)];simp[putL]
   | succ m ih =>
     intro i b out hi ho;have ho1:out.length≤i+1:=by have:=Bool.toNat_le b;omega
     have hlt:i<xs.length:=by omega
     have hd:xs.drop i=xs.getD i 0::xs.drop (i+1):=by rw[List.drop_eq_getElem_cons hlt,A0y hlt]
     have hb1:out.length+([xs.getD i 0]:List Int).length≤bigA:=by simp only[List.length_cons,List.length_nil,bigA];omega
     have hb2:out.length+([n]:List Int).length≤bigA:=by simp only[List.length_cons,List.length_nil,bigA];omega
     have hb3:∀ z:Int,(out++[n]).length+([z]:List Int).length≤bigA:=fun z=>by simp only[List.length_append,List.length_cons,List.length_nil,bigA];omega
     have E:=fun k=>Am3.l4_eq k xs n b (i:Int) out;simp only[if_pos (ltI.2 hlt),if_pos (idxI.2 hlt),Int.toNat_natCast,A0x (show i<4611686018427387904 by omega),if_pos hb1]at E;obtain⟨y,hy⟩:∃ y,y=xs.getD i 0:=⟨_,rfl⟩;rw[<-hy]at hd hb1;simp only[←hy]at E;rw[hd];cases b with
     | true =>
       have:=ih (i+1) true (out++[y]) (by omega) (by simp only[List.length_append,List.length_cons,List.length_nil,Bool.toNat_true,Bool.toNat_false]at *;omega);rw[List.append_assoc]at this;refine Ev.succ this fun k=>?_;rw[E,if_neg (by simp)]
     | false =>
       simp only[Bool.not_false,if_true]at E;by_cases c1:n≤y
       . by_cases c2:n<y
         . have:=ih (i+1) true (out++[n]++[y]) (by omega) (by simp only[List.length_append,List.length_cons,List.length_nil,Bool.toNat_true,Bool.toNat_false]at *;omega);have e:out++[n]++[y]++putL (xs.drop (i+1)) n true=out++putL (y::xs.drop (i+1)) n false:=by simp[putL,c1,c2,A1F]
           rw[e]at this;refine Ev.succ this fun k=>?_;rw[E,if_pos (by simpa using c1),if_pos (by simpa using c2),if_pos hb2,if_pos (hb3 _)]
         . have:=ih (i+1) true (out++[y]) (by omega) (by simp only[List.length_append,List.length_cons,List.length_nil,Bool.toNat_true,Bool.toNat_false]at *;omega);have e:out++[y]++putL (xs.drop (i+1)) n true=out++putL (y::xs.drop (i+1)) n false:=by simp[putL,c1,c2,A1F]
           rw[e]at this;refine Ev.succ this fun k=>?_;rw[E,if_pos (by simpa using c1),if_neg (by simpa using c2)]
       . have:=ih (i+1) false (out++[y]) (by omega) (by simp only[List.length_append,List.length_cons,List.length_nil,Bool.toNat_true,Bool.toNat_false]at *;omega);have e:out++[y]++putL (xs.drop (i+1)) n false=out++putL (y::xs.drop (i+1)) n false:=by simp[putL,c1]
         rw[e]at this;refine Ev.succ this fun k=>?_;rw[E,if_neg (by simpa using c1)]
 exact(key xs.length 0 false [] (by omega) (by simp)).of_eq fun k=>rfl
theorem A3F:∀ (l acc:List Int),acc.Pairwise (·<·)->(l.foldl (fun a n=>putL a n false) acc).Pairwise (·<·)/\∀ x,x∈l.foldl (fun a n=>putL a n false) acc↔x∈acc∨x∈l
 | [],acc,h=>⟨h,fun x=>by simp⟩
 | n :: l,acc,h=>by
   obtain⟨h1,h2⟩:=A3E n h;obtain⟨h3,h4⟩:=A3F l _ h1;refine⟨h3,fun x=>?_⟩;rw[List.foldl_cons,h4,h2,List.mem_cons];constructor
   . rintro((h|h)|h)
     . exact .inr (.inl h)
     . exact .inl h
     . exact .inr (.inr h)
   . rintro(h|h|h)
     . exact .inl (.inr h)
     . exact .inl (.inl h)
     . exact .inr h
theorem A4G (l:List Int):l.foldl (fun a n=>putL a n false) []=setI l:=by
 obtain⟨h1,h2⟩:=A3F l [] (by simp);obtain⟨h3,h4⟩:=A1d l;exact A3K h1 h3 fun s=>by rw[h2,h4];simp
theorem Aa7.val (n lo hi:Int):Aa7.F (n,lo,hi,())=some ((decide (lo≤n/\n≤hi),()),()):=by
 rw[Aa7.eq,Aa7.T];by_cases h:lo≤n
 . rw[if_pos (by simp[h])];simp[h]
 . rw[if_neg (by simp[h])];simp[h]
theorem Ab5.val (n lo hi:Int):Ab5.F (n,lo,hi,())=some ((decide (lo≤n/\n≤hi),()),()):=by
 rw[Ab5.eq,Ab5.T];by_cases h:lo≤n
 . rw[if_pos (by simp[h])];simp[h]
 . rw[if_neg (by simp[h])];simp[h]
def cmpI (x y:Int):Int:=if x<y then -1 else if x>y then 1 else 0
theorem An5.val (x y:Int):An5.F (x,y,())=some ((cmpI x y,()),()):=by
 rw[An5.eq,An5.T,An7.eq,An7.T,An7.eq,An7.T];simp only[Option.bind_some,bne_self_eq_false,Bool.false_eq_true,if_false,decide_eq_true_eq,cmpI]
 repeat' split
 all_goals rfl
theorem Ai8.val2 (x y:Int):Ai8.F ([x,y],())=some ((if x≠0 then x else y,()),()):=by
 refine Ai8.of _ ⟨3,fun k hk=>?_⟩;obtain⟨k,rfl⟩:∃ j,k=j+1+1+1:=⟨k-3,by omega⟩;show Ai8.T (k+1+1+1) [x,y]=_;rw[Ai8.T,Ai8.l3_eq];by_cases hx:x=0
 . subst hx;simp only[List.length_cons,List.length_nil];rw[if_pos (by simp),if_pos (by simp),if_neg (by simp),Ai8.l3_eq];simp only[List.length_cons,List.length_nil];rw[A0B (by omega) (by omega)];rw[if_pos (by simp),if_pos (by simp)];by_cases hy:y=0
   . subst hy;rw[if_neg (by simp),Ai8.l3_eq,A0B (by omega) (by omega),if_neg (by simp)];simp
   . rw[if_pos (by simp[hy])];simp
 . simp only[List.length_cons,List.length_nil];rw[if_pos (by simp),if_pos (by simp),if_pos (by simp[hx])];simp[hx]
abbrev MatV:=Int×Int×Int×List Int
abbrev ShfV:=List (List Int)×Int×List Int×List MatV
def Sm (xs:List Int):Prop:=xs.length≤1048576
def SmL (xs:List (List Int)):Prop:=xs.length≤1048576/\∀ x∈xs,Sm x
def SmM (m:MatV):Prop:=Sm m.2.2.2
def SmMs (ms:List MatV):Prop:=ms.length≤1048576/\∀ m∈ms,SmM m
def SmSh (s:ShfV):Prop:=SmL s.1/\Sm s.2.2.1/\SmMs s.2.2.2
theorem A4L {α:Type} (L:Nat->Nat->Int->Option ((Int×Unit)×Unit)) (xs:List α) (d:α) (P:α->Prop)
   (hstep:∀ i l,i<xs.length->0≤l->l≤1048576->(∃ r,0≤r/\r≤l/\P (xs.getD i d)/\∀ k,L (k+1) i l=L k (i+1) r)∨∀ k,L (k+1) i l=some ((-1,()),()))
   (hend:∀ k l,L (k+1) xs.length l=some ((l,()),())) (l:Int) (h0:0≤l) (h1:l≤1048576) :
   ∃ r,Ev (fun k=>L k 0 l) ((r,()),())/\(r=-1∨0≤r/\r≤l/\∀ x∈xs,P x):=by
 obtain⟨r,hr,q,rfl,hq⟩:=Ev.loop (σ:=Int) L xs.length (fun i s=>0≤s/\s≤l/\∀ j,j<i->P (xs.getD j d)) (fun r=>∃ q:Int,r=((q,()),())/\(q=-1∨0≤q/\q≤l/\∀ x∈xs,P x))
   (fun i s hi ⟨a,b,c⟩=>by
     rcases hstep i s hi a (by omega)with⟨r,r0,r1,hp,e⟩|e
     . refine .inr ⟨r,⟨r0,by omega,fun j hj=>?_⟩,Goes.succ e⟩;by_cases hji:j=i
       . rw[hji];exact hp
       . exact c j (by omega)
     . exact .inl ⟨_,(Ev.const _).succ e,-1,rfl,.inl rfl⟩)
   (fun s ⟨a,b,c⟩=>⟨_,(Ev.const _).succ fun k=>hend k s,s,rfl,.inr ⟨a,b,fun x hx=>by
     obtain⟨j,hj,rfl⟩:=List.getElem_of_mem hx;rw[<-A0y (d:=d) hj];exact c j hj⟩⟩) 0 l (Nat.zero_le _) ⟨h0,Int.le_refl _,fun j hj=>by omega⟩
 exact⟨q,hr,hq⟩
theorem A1z {α:Type} (L:Nat->Nat->Option ((Bool×Unit)×Unit)) (xs ys:List α) (d:α) (hl:xs.length=ys.length)
   (hstep:∀ i,i<xs.length->∃ b:Bool,(b=true↔xs.getD i d=ys.getD i d)/\∀ k,L (k+1) i=if (!b)=true then some ((false,()),())else L k (i+1))
   (hend:∀ k,L (k+1) xs.length=some ((true,()),())):∃ v,Ev (fun k=>L k 0) ((v,()),())/\(v=true↔xs=ys):=by
 obtain⟨v,hv,hv'⟩:=Ev.allP (L:=L) (a:=()) (b:=()) (n:=xs.length) (fun i=>xs.getD i d=ys.getD i d) true (fun i hi=>by
   obtain⟨b,hb,e⟩:=hstep i hi;cases b with
   | true=>exact .inl ⟨hb.1 rfl,fun k=>by rw[e];rfl⟩
   | false=>exact .inr ⟨fun h=>absurd (hb.2 h) (by simp),fun k=>by rw[e];rfl⟩) ((Ev.const _).succ hend) 0 (Nat.zero_le _)
 refine⟨v,hv,hv'.trans ⟨fun⟨_,h⟩=>?_,fun h=>⟨rfl,fun j _ _=>by rw[h]⟩⟩⟩;refine List.ext_getElem hl fun i h1 h2=>?_;have:=h i (Nat.zero_le _) h1
 rwa [A0y h1,A0y h2]at this
theorem idx2 {i n:Nat} (h:i<n):0≤(i:Int)/\(i:Int)<(n:Int):=by omega
def lexc:List Int->List Int->Int
 | [],[]=>0
 | [],_::_=>-1
 | _::_,[]=>1
 | a::u,b::v=>if cmpI a b≠0 then cmpI a b else lexc u v
theorem A0H (x y:Int):(x<y/\cmpI x y=-1)∨(x=y/\cmpI x y=0)∨(y<x/\cmpI x y=1):=by
 unfold cmpI;by_cases h:x<y
 . exact .inl ⟨h,if_pos h⟩
 . by_cases h2:x>y
   . exact .inr (.inr ⟨h2,by rw[if_neg h,if_pos h2]⟩)
   . exact .inr (.inl ⟨by omega,by rw[if_neg h,if_neg h2]⟩)
theorem A3k:∀ (a b:List Int),lexc a b=0↔a=b
 | [],[]=>by simp[lexc]
 | [],_::_=>by simp[lexc]
 | _::_,[]=>by simp[lexc]
 | a::u,b::v=>by
   rcases A0H a b with⟨h,e⟩|⟨h,e⟩|⟨h,e⟩
   . simp[lexc,e];intro h';omega
   . subst h;simp[lexc,e,A3k u v]
   . simp[lexc,e];intro h';omega
theorem A2X:∀ (a b c:List Int),lexc a b<0->lexc b c<0->lexc a c<0
 | [],[],c,h1,_=>by simp[lexc]at h1
 | [],_::_,[],_,h2=>by simp[lexc]at h2
 | [],_::_,_::_,_,_=>by simp[lexc]
 | _::_,[],c,h1,_=>by simp[lexc]at h1
 | _::_,_::_,[],_,h2=>by simp[lexc]at h2
 | a::u,b::v,c::w,h1,h2=>by
   have ih:=A2X u v w;simp only[lexc]at h1 h2 ⊢;rcases A0H a b with⟨g1,e1⟩|⟨g1,e1⟩|⟨g1,e1⟩<;>rcases A0H b c with⟨g2,e2⟩|⟨g2,e2⟩|⟨g2,e2⟩<;>rcases A0H a c with⟨g3,e3⟩|⟨g3,e3⟩|⟨g3,e3⟩<;>simp[e1,e2,e3]at h1 h2 ⊢<;>first|omega|exact ih h1 h2
def cmpS (a b:List Int):Int:=if cmpI a.length b.length≠0 then cmpI a.length b.length else lexc a b
theorem A0Z (a b:List Int):cmpS a b=0↔a=b:=by
 unfold cmpS;rcases A0H a.length b.length with⟨h,e⟩|⟨h,e⟩|⟨h,e⟩
 . simp[e];intro h';rw[h']at h;omega
 . simp[e,A3k]
 . simp[e];intro h';rw[h']at h;omega
theorem A0r (a b c:List Int) (h1:cmpS a b<0) (h2:cmpS b c<0):cmpS a c<0:=by
 unfold cmpS at *;rcases A0H a.length b.length with⟨g1,e1⟩|⟨g1,e1⟩|⟨g1,e1⟩<;>rcases A0H b.length c.length with⟨g2,e2⟩|⟨g2,e2⟩|⟨g2,e2⟩<;>rcases A0H a.length c.length with⟨g3,e3⟩|⟨g3,e3⟩|⟨g3,e3⟩<;>simp[e1,e2,e3]at h1 h2 ⊢<;>first|omega|exact A2X a b c h1 h2
theorem A2V {a b:List Int} (h:a.length<b.length):cmpS a b<0:=by
 unfold cmpS;rcases A0H a.length b.length with⟨g,e⟩|⟨g,e⟩|⟨g,e⟩
 . simp[e]
 . omega
 . omega
theorem An4.val (x y:Int):An4.F (x,y,())=some ((cmpI x y,()),()):=by
 rw[An4.eq,An4.T,An6.eq,An6.T,An6.eq,An6.T];simp only[Option.bind_some,bne_self_eq_false,Bool.false_eq_true,if_false,decide_eq_true_eq,cmpI]
 repeat' split
 all_goals rfl
theorem A3w {a b:List Int} {i:Nat} (ha:i<a.length) (hb:i<b.length):lexc (a.drop i) (b.drop i)=if cmpI (a.getD i 0) (b.getD i 0)≠0 then cmpI (a.getD i 0) (b.getD i 0)else lexc (a.drop (i+1)) (b.drop (i+1)):=by
 rw[List.drop_eq_getElem_cons ha,List.drop_eq_getElem_cons hb,A0y ha,A0y hb];rfl
theorem Ak3.val (a b:List Int) (ha:a.length≤1048576) (hb:b.length≤1048576):Ak3.F (a,b,())=some ((lexc a b,()),()):=by
 obtain⟨r,hr,hq⟩:=Ev.loop (σ:=Unit) (R:=(Int×Unit)×Unit) (fun k i _=>Ak3.l2 k a b a a.length (i:Int)) a.length (fun i _=>i≤b.length/\lexc a b=lexc (a.drop i) (b.drop i)) (fun r=>r=((lexc a b,()),()))
   (fun i s hi ⟨h1,h2⟩=>by
     have E:=fun k=>Ak3.l2_eq k a b a a.length (i:Int);simp only[if_pos (ltI.2 hi),if_pos (idxI.2 hi),Int.toNat_natCast,A0x (show i<4611686018427387904 by omega)]at E;by_cases hib:i<b.length
     . simp only[if_neg (show ¬ decide ((i:Int)≥(b.length:Int))=true by simp;omega),if_pos (idxI.2 hib),An5.val,Option.bind_some]at E;have hd:=A3w hi hib;obtain⟨cc,hcc⟩:∃ cc,cmpI (a.getD i 0) (b.getD i 0)=cc:=⟨_,rfl⟩;rw[hcc]at hd;simp only[hcc]at E;by_cases hc:cc=0
       . refine .inr ⟨(),⟨by omega,by rw[h2,hd,if_neg (by simp[hc])]⟩,Goes.succ fun k=>by rw[E,if_neg (by simp[hc])]⟩
       . exact .inl ⟨_,(Ev.const _).succ fun k=>by rw[E,if_pos (by simp[hc])],by rw[h2,hd,if_pos hc]⟩
     . refine .inl ⟨_,(Ev.const _).succ fun k=>by rw[E,if_pos (by simp;omega)],?_⟩;rw[h2,List.drop_eq_getElem_cons hi,List.drop_of_length_le (show b.length≤i by omega)];rfl)
   (fun s ⟨h1,h2⟩=>by
     by_cases hl:a.length<b.length
     . refine⟨_,(Ev.const _).succ fun k=>by rw[Ak3.l2_eq,if_neg (by simp),if_pos (by simp;omega)],?_⟩;rw[h2,List.drop_of_length_le (Nat.le_refl _),List.drop_eq_getElem_cons hl];rfl
     . refine⟨_,(Ev.const _).succ fun k=>by rw[Ak3.l2_eq,if_neg (by simp),if_neg (by simp;omega)],?_⟩;rw[h2,List.drop_of_length_le (Nat.le_refl _),List.drop_of_length_le (by omega)];rfl) 0 () (Nat.zero_le _) ⟨Nat.zero_le _,rfl⟩
 subst hq;exact Ak3.of _ _ (hr.of_eq fun k=>rfl)
theorem Ac9.val (a b:List Int) (ha:a.length≤1048576) (hb:b.length≤1048576):Ac9.F (a,b,())=some ((cmpS a b,()),()):=by
 rw[Ac9.eq,Ac9.T,An4.val,Ak3.val a b ha hb];simp only[Option.bind_some,Ai8.val2,cmpS]
theorem Ai5.val (a b:List Int) (ha:a.length≤1048576):Ai5.F (a,b,())=some ((decide (cmpS a b<0),()),()):=by
 by_cases hl:a.length=b.length
 . obtain⟨r,hr,hq⟩:=Ev.loop (σ:=Unit) (R:=(Bool×Unit)×Unit) (fun k i _=>Ai5.l4 k a b (i:Int)) a.length (fun i _=>lexc a b=lexc (a.drop i) (b.drop i)) (fun r=>r=((decide (lexc a b<0),()),()))
     (fun i s hi h2=>by
       have hib:i<b.length:=by omega
       have E:=fun k=>Ai5.l4_eq k a b (i:Int);simp only[if_pos (ltI.2 hi),if_pos (idxI.2 hi),if_pos (idxI.2 hib),Int.toNat_natCast,A0x (show i<4611686018427387904 by omega)]at E;have hd:=A3w hi hib;obtain⟨ai,hai⟩:∃ ai,a.getD i 0=ai:=⟨_,rfl⟩;obtain⟨bi,hbi⟩:∃ bi,b.getD i 0=bi:=⟨_,rfl⟩;rw[hai,hbi]at hd;simp only[hai,hbi]at E;rcases A0H ai bi with⟨g,e⟩|⟨g,e⟩|⟨g,e⟩
       . refine .inl ⟨_,(Ev.const _).succ fun k=>by rw[E,if_pos (by simp;omega)],?_⟩;rw[h2,hd,if_pos (by rw[e];omega),e];simp[g]
       . exact .inr ⟨(),by rw[h2,hd,if_neg (by rw[e];simp)],Goes.succ fun k=>by rw[E,if_neg (by simp[g])]⟩
       . refine .inl ⟨_,(Ev.const _).succ fun k=>by rw[E,if_pos (by simp;omega)],?_⟩;rw[h2,hd,if_pos (by rw[e];omega),e];simp;omega)
     (fun s h2=>⟨_,(Ev.const _).succ fun k=>by rw[Ai5.l4_eq,if_neg (by simp)],by rw[h2,List.drop_of_length_le (Nat.le_refl _),List.drop_of_length_le (by omega)];rfl⟩) 0 () (Nat.zero_le _) rfl
   subst hq;refine Ai5.of _ _ (hr.of_eq fun k=>?_) |>.trans ?_
   . rw[Ai5.T,if_neg (by simp[hl])];rfl
   . have:cmpS a b=lexc a b:=by
       unfold cmpS;rcases A0H a.length b.length with⟨g,e⟩|⟨g,e⟩|⟨g,e⟩
       . omega
       . simp[e]
       . omega
     rw[this]
 . have:decide (cmpS a b<0)=decide ((a.length:Int)<(b.length:Int)):=by
     unfold cmpS;rcases A0H a.length b.length with⟨g,e⟩|⟨g,e⟩|⟨g,e⟩
     . simp[e];omega
     . omega
     . simp[e];omega
   rw[this];exact Ai5.of _ _ ((Ev.const _).of_eq fun k=>by rw[Ai5.T,if_pos (by simp;omega)])
def A0T (xs:List (List Int)):Prop:=∀ i j,i<j->j<xs.length->cmpS (xs.getD i []) (xs.getD j [])<0
theorem A2d {xs:List (List Int)} (h:∀ i,0<i->i<xs.length->cmpS (xs.getD (i-1) []) (xs.getD i [])<0):A0T xs:=by
 intro i j;induction j with
 | zero=>intro h1;omega
 | succ j ih =>
   intro h1 h2;have h3:=h (j+1) (by omega) h2;simp only[Nat.add_sub_cancel]at h3;by_cases hij:i=j
   . rw[hij];exact h3
   . exact A0r _ _ _ (ih (by omega) (by omega)) h3
theorem wrapU {x:Int} (h1:0≤x) (h2:x<18446744073709551616):IntKind.u64.wrap x=x:=by
 have e:(2:Int) ^ (IntKind.u64).bits=18446744073709551616:=by decide
 unfold IntKind.wrap;simp only[e,show IntKind.u64.signed=false from rfl,Bool.false_and,Bool.false_eq_true,if_false];omega
theorem midI {i j:Nat} (h:i+j<4611686018427387904):IntKind.i64.wrap ((IntKind.u64.wrap (IntKind.i64.wrap ((i:Int)+(j:Int)))).fdiv (2 ^ (min (1:Int).toNat IntKind.u64.bits)))=(((i+j)/2:Nat):Int):=by
 rw[A0B (x:=(i:Int)+(j:Int)) (by omega) (by omega),wrapU (by omega) (by omega)];have e:(2:Int) ^ (min (1:Int).toNat IntKind.u64.bits)=((2:Nat):Int):=by decide
 rw[e,show(i:Int)+(j:Int)=((i+j:Nat):Int)by omega,<-Int.ofNat_fdiv,A0B (by omega) (by omega)]
theorem binSearch.val (xs:List (List Int)) (t:List Int) (hs:A0T xs) (h1:SmL xs) (h2:t.length≤1048576) :
   ∃ r:Int,∃ b:Bool,Ap8.F (xs,t,Ac9.cloG (()),())=some ((r,(b,())),())/\0≤r/\(b=true↔t∈xs)/\(b=true->r.toNat<xs.length/\xs.getD r.toNat []=t):=by
 have hn:=h1.1;have hcmp:∀ i,i<xs.length->Ac9.cloG (()) (xs.getD i [],t,())=some (cmpS (xs.getD i []) t,()):=fun i hi=>by
   show(Ac9.F (xs.getD i [],t,())).map (·.1)=_;rw[Ac9.val _ _ (h1.2 _ (A0z _ hi)) h2];rfl
 have key:∀ d i j:Nat,j-i≤d->i≤j->j≤xs.length->(∀ m,m<i->cmpS (xs.getD m []) t<0)->(∀ m,j≤m->m<xs.length->¬ cmpS (xs.getD m []) t<0) →
     ∃ r:Int,∃ b:Bool,Ev (fun k=>Ap8.l3 k xs t (Ac9.cloG (())) xs.length (i:Int) (j:Int)) ((r,(b,())),())/\0≤r/\(b=true↔t∈xs)/\(b=true->r.toNat<xs.length/\xs.getD r.toNat []=t):=by
   intro d;induction d with
   | zero =>
     intro i j hd hij hj hlo hhi;obtain rfl:i=j:=by omega
     have E:=fun k=>Ap8.l3_eq k xs t (Ac9.cloG (())) xs.length (i:Int) (i:Int);simp only[if_neg (show ¬ decide ((i:Int)<(i:Int))=true by simp)]at E;by_cases hi:i<xs.length
     . simp only[if_pos (ltI.2 hi),if_pos (idxI.2 hi),Int.toNat_natCast,hcmp i hi,Option.bind_some]at E;refine⟨_,_,(Ev.const _).succ E,by omega,?_,fun hb=>?_⟩
       rotate_left
       . simp only[beq_iff_eq,A0Z]at hb;rw[Int.toNat_natCast];exact⟨hi,hb⟩
       simp only[beq_iff_eq,A0Z];refine⟨fun h=>h▸A0z [] hi,fun h=>?_⟩;obtain⟨m,hm,e⟩:=List.getElem_of_mem h;have e':xs.getD m []=t:=by rw[A0y hm];exact e
       rcases Nat.lt_trichotomy m i with h3|h3|h3
       . have:=hlo m h3;rw[e',(A0Z t t).2 rfl]at this;omega
       . rw[<-h3];exact e'
       . have:=hs i m h3 hm;rw[e']at this;exact absurd this (hhi i (Nat.le_refl _) hi)
     . simp only[if_neg (show ¬ decide ((i:Int)<(xs.length:Int))=true by simp;omega)]at E;refine⟨_,_,(Ev.const _).succ E,by omega,?_,fun hb=>by cases hb⟩;simp only[Bool.false_eq_true,false_iff];intro h;obtain⟨m,hm,e⟩:=List.getElem_of_mem h;have e':xs.getD m []=t:=by rw[A0y hm];exact e
       have:=hlo m (by omega);rw[e',(A0Z t t).2 rfl]at this;omega
   | succ d ih =>
     intro i j hd hij hj hlo hhi;by_cases he:i=j
     . exact ih i j (by omega) hij hj hlo hhi
     have E:=fun k=>Ap8.l3_eq k xs t (Ac9.cloG (())) xs.length (i:Int) (j:Int);have hm:(i+j)/2<xs.length:=by omega
     simp only[if_pos (show decide ((i:Int)<(j:Int))=true by simp;omega),if_neg (show ¬ (1:Int)<0 by omega),midI (show i+j<4611686018427387904 by omega),if_pos (idxI.2 hm),Int.toNat_natCast,hcmp _ hm,Option.bind_some,A0x (show(i+j)/2<4611686018427387904 by omega)]at E;by_cases hc:cmpS (xs.getD ((i+j)/2) []) t<0
     . obtain⟨r,b,hr,h⟩:=ih ((i+j)/2+1) j (by omega) (by omega) hj (fun m hm2=>by
         by_cases h3:m=(i+j)/2
         . rw[h3];exact hc
         . exact A0r _ _ _ (hs m ((i+j)/2) (by omega) hm) hc) hhi
       exact⟨r,b,hr.succ fun k=>by rw[E,if_pos (by simpa using hc)],h⟩
     . obtain⟨r,b,hr,h⟩:=ih i ((i+j)/2) (by omega) (by omega) (by omega) hlo (fun m hm2 hm3 h4=>by
         by_cases h3:m=(i+j)/2
         . rw[h3]at h4;exact hc h4
         . exact hc (A0r _ _ _ (hs ((i+j)/2) m (by omega) hm3) h4))
       exact⟨r,b,hr.succ fun k=>by rw[E,if_neg (by simpa using hc)],h⟩
 obtain⟨r,b,hr,h⟩:=key xs.length 0 xs.length (by omega) (Nat.zero_le _) (Nat.le_refl _) (fun m hm=>by omega) (fun m h3 h4=>by omega);exact⟨r,b,Ap8.of _ _ _ (hr.of_eq fun k=>rfl),h⟩
theorem Aa5.val (xs:List (List Int)) (t:List Int) (hs:A0T xs) (h1:SmL xs) (h2:t.length≤1048576):∃ r:Int,Aa5.F (xs,t,())=some ((r,()),())/\(r<0↔t∉xs):=by
 obtain⟨r,b,hr,h3,h4,-⟩:=binSearch.val xs t hs h1 h2;rw[Aa5.eq,Aa5.T,hr];simp only[Option.bind_some];cases b with
 | true=>exact⟨r,by rw[if_neg (by simp)],by simp[h4.1 rfl];omega⟩
 | false=>exact⟨-1,by rw[if_pos (by simp)],by simp;intro h;exact absurd (h4.2 h) (by simp)⟩
theorem A0h {xs:List (List Int)} (hs:A0T xs) {i j:Nat} (hi:i<xs.length) (hj:j<xs.length) (h:xs.getD i []=xs.getD j []):i=j:=by
 rcases Nat.lt_trichotomy i j with h1|h1|h1
 . have:=hs i j h1 hj;rw[h,(A0Z _ _).2 rfl]at this;omega
 . exact h1
 . have:=hs j i h1 hi;rw[h,(A0Z _ _).2 rfl]at this;omega
theorem Aa5.val2 (xs:List (List Int)) (j:Nat) (hj:j<xs.length) (hs:A0T xs) (h1:SmL xs):Aa5.F (xs,xs.getD j [],())=some (((j:Int),()),()):=by
 obtain⟨r,b,hr,h3,h4,h5⟩:=binSearch.val xs (xs.getD j []) hs h1 (h1.2 _ (A0z _ hj));have hb:b=true:=h4.2 (A0z _ hj);obtain⟨h6,h7⟩:=h5 hb;have:=A0h hs h6 hj h7;rw[Aa5.eq,Aa5.T,hr,hb];simp only[Option.bind_some,Bool.not_true,Bool.false_eq_true,if_false];rw[show r=(j:Int)by omega]
theorem Am1.val (xs:List (List Int)) (f:List Int×Unit->Option (Bool×Unit)) (p:List Int->Bool) (hf:∀ x∈xs,f (x,())=some (p x,())) (hn:xs.length<4611686018427387904) :
   ∃ r:Int,Am1.F (xs,f,())=some ((r,()),())/\((r=-1/\∀ x∈xs,p x=false)∨∃ j:Nat,j<xs.length/\r=j/\p (xs.getD j [])=true/\∀ i,i<j->p (xs.getD i [])=false):=by
 obtain⟨r,hr,hq⟩:=Ev.loop (σ:=Unit) (R:=(Int×Unit)×Unit) (fun k i _=>Am1.l2 k xs f xs.length (i:Int)) xs.length (fun i _=>∀ j,j<i->p (xs.getD j [])=false)
   (fun r=>∃ v:Int,r=((v,()),())/\((v=-1/\∀ x∈xs,p x=false)∨∃ j:Nat,j<xs.length/\v=j/\p (xs.getD j [])=true/\∀ i,i<j->p (xs.getD i [])=false))
   (fun i s hi hI=>by
     have E:=fun k=>Am1.l2_eq k xs f xs.length (i:Int);simp only[if_pos (ltI.2 hi),if_pos (idxI.2 hi),Int.toNat_natCast,hf _ (A0z [] hi),Option.bind_some,A0x (show i<4611686018427387904 by omega)]at E;cases hp:p (xs.getD i [])with
     | true=>exact .inl ⟨_,(Ev.const _).succ fun k=>by rw[E,if_pos hp],i,rfl,.inr ⟨i,hi,rfl,hp,hI⟩⟩
     | false =>
       refine .inr ⟨(),fun j hj=>?_,Goes.succ fun k=>by rw[E,if_neg (by rw[hp];simp)]⟩;by_cases hji:j=i
       . rw[hji];exact hp
       . exact hI j (by omega))
   (fun s hI=>⟨_,(Ev.const _).succ fun k=>by rw[Am1.l2_eq,if_neg (by simp)],-1,rfl,.inl ⟨rfl,fun x hx=>by
     obtain⟨j,hj,rfl⟩:=List.getElem_of_mem hx;rw[<-A0y (d:=[]) hj];exact hI j hj⟩⟩) 0 () (Nat.zero_le _) (by intro j hj;omega)
 obtain⟨v,rfl,hv⟩:=hq;exact⟨v,Am1.of _ _ (hr.of_eq fun k=>rfl),hv⟩
theorem An3.val (xs:List (List Int)) (f:List Int×Unit->Option (Bool×Unit)) (p:List Int->Bool) (hf:∀ x∈xs,f (x,())=some (p x,())) (hn:xs.length<4611686018427387904) :
   An3.F (xs,f,())=some ((xs.any p,()),()):=by
 obtain⟨r,hr,h⟩:=Am1.val xs f p hf hn;rw[An3.eq,An3.T,hr];simp only[Option.bind_some];rcases h with⟨rfl,h⟩|⟨j,hj,rfl,hp,-⟩
 . have:xs.any p=false:=by simp only[List.any_eq_false];intro x hx;simp[h x hx]
   rw[this];rfl
 . have:xs.any p=true:=List.any_eq_true.2 ⟨_,A0z [] hj,hp⟩;rw[this];simp
theorem Ag6.val (xs:List Int) (f:Int×Unit->Option (Bool×Unit)) (p:Int->Bool) (hf:∀ x∈xs,f (x,())=some (p x,())) (hn:xs.length<4611686018427387904) :
   ∃ r:Int,Ag6.F (xs,f,())=some ((r,()),())/\((r=-1/\∀ x∈xs,p x=false)∨∃ j:Nat,j<xs.length/\r=j/\p (xs.getD j 0)=true/\∀ i,i<j->p (xs.getD i 0)=false):=by
 obtain⟨r,hr,hq⟩:=Ev.loop (σ:=Unit) (R:=(Int×Unit)×Unit) (fun k i _=>Ag6.l2 k xs f xs.length (i:Int)) xs.length (fun i _=>∀ j,j<i->p (xs.getD j 0)=false)
   (fun r=>∃ v:Int,r=((v,()),())/\((v=-1/\∀ x∈xs,p x=false)∨∃ j:Nat,j<xs.length/\v=j/\p (xs.getD j 0)=true/\∀ i,i<j->p (xs.getD i 0)=false))
   (fun i s hi hI=>by
     have E:=fun k=>Ag6.l2_eq k xs f xs.length (i:Int);simp only[if_pos (ltI.2 hi),if_pos (idxI.2 hi),Int.toNat_natCast,hf _ (A0z 0 hi),Option.bind_some,A0x (show i<4611686018427387904 by omega)]at E;cases hp:p (xs.getD i 0)with
     | true=>exact .inl ⟨_,(Ev.const _).succ fun k=>by rw[E,if_pos hp],i,rfl,.inr ⟨i,hi,rfl,hp,hI⟩⟩
     | false =>
       refine .inr ⟨(),fun j hj=>?_,Goes.succ fun k=>by rw[E,if_neg (by rw[hp];simp)]⟩;by_cases hji:j=i
       . rw[hji];exact hp
       . exact hI j (by omega))
   (fun s hI=>⟨_,(Ev.const _).succ fun k=>by rw[Ag6.l2_eq,if_neg (by simp)],-1,rfl,.inl ⟨rfl,fun x hx=>by
     obtain⟨j,hj,rfl⟩:=List.getElem_of_mem hx;rw[<-A0y (d:=0) hj];exact hI j hj⟩⟩) 0 () (Nat.zero_le _) (by intro j hj;omega)
 obtain⟨v,rfl,hv⟩:=hq;exact⟨v,Ag6.of _ _ (hr.of_eq fun k=>rfl),hv⟩
theorem Ad4.val (xs:List Int) (f:Int×Unit->Option (Bool×Unit)) (p:Int->Bool) (hf:∀ x∈xs,f (x,())=some (p x,())) (hn:xs.length<4611686018427387904) :
   Ad4.F (xs,f,())=some ((xs.any p,()),()):=by
 obtain⟨r,hr,h⟩:=Ag6.val xs f p hf hn;rw[Ad4.eq,Ad4.T,hr];simp only[Option.bind_some];rcases h with⟨rfl,h⟩|⟨j,hj,rfl,hp,-⟩
 . have:xs.any p=false:=by simp only[List.any_eq_false];intro x hx;simp[h x hx]
   rw[this];rfl
 . have:xs.any p=true:=List.any_eq_true.2 ⟨_,A0z 0 hj,hp⟩;rw[this];simp
def A1S (xs:List Int):Prop:=∀ i,0<i->i<xs.length->xs.getD (i-1) 0<xs.getD i 0
def A0Q (lo hi:Int) (xs:List Int):Prop:=∀ a∈xs,lo≤a/\a≤hi
theorem allIn_iff {lo hi:Int} {xs:List Int}:A0Q lo hi xs↔∀ i,i<xs.length->lo≤xs.getD i 0/\xs.getD i 0≤hi:=by
 refine⟨fun h i hi=>h _ (A0z 0 hi),fun h a ha=>?_⟩;obtain⟨j,hj,rfl⟩:=List.getElem_of_mem ha;have:=h j hj
 rwa [A0y hj]at this
theorem Am4.val (xs:List Int) (lo hi:Int) (hn:xs.length<4611686018427387904):∃ v,Am4.F (xs,lo,hi,())=some ((v,()),())/\(v=true↔A0Q lo hi xs/\A1S xs):=by
 obtain⟨v,hv,hv'⟩:=Ev.allP (L:=fun k i=>Am4.l2 k xs lo hi (i:Int)) (a:=()) (b:=()) (n:=xs.length) (fun i=>(lo≤xs.getD i 0/\xs.getD i 0≤hi)/\(0<i->xs.getD (i-1) 0<xs.getD i 0)) true (fun i hi2=>by
   have E:=fun k=>Am4.l2_eq k xs lo hi (i:Int);simp only[if_pos (ltI.2 hi2),if_pos (idxI.2 hi2),Int.toNat_natCast,Aa7.val,Option.bind_some,A0x (show i<4611686018427387904 by omega)]at E;by_cases h:lo≤xs.getD i 0/\xs.getD i 0≤hi
   . simp only[decide_eq_true h,Bool.not_true,Bool.false_eq_true,if_false]at E;by_cases h0:0<i
     . have h1:i-1<xs.length:=by omega
       simp only[if_pos (show decide ((i:Int)>0)=true by simp;omega),A3u h0 (show i<4611686018427387904 by omega),if_pos (idxI.2 h1),Int.toNat_natCast]at E;by_cases h2:xs.getD (i-1) 0<xs.getD i 0
       . exact .inl ⟨⟨h,fun _=>h2⟩,fun k=>by rw[E,if_neg (by simp only[decide_eq_true_eq];omega)]⟩
       . exact .inr ⟨fun hh=>h2 (hh.2 h0),fun k=>by rw[E,if_pos (by simp only[decide_eq_true_eq];omega)]⟩
     . exact .inl ⟨⟨h,fun h1=>absurd h1 h0⟩,fun k=>by rw[E,if_neg (by simp only[decide_eq_true_eq];omega)]⟩
   . exact .inr ⟨fun hh=>h hh.1,fun k=>by rw[E,if_pos (by rw[decide_eq_false h];rfl)]⟩) ((Ev.const _).succ fun k=>by rw[Am4.l2_eq,if_neg (by simp)]) 0 (Nat.zero_le _)
 refine⟨v,Am4.of _ _ _ (hv.of_eq fun k=>rfl),hv'.trans ?_⟩;rw[allIn_iff];exact⟨fun⟨_,h⟩=>⟨fun i hi=>(h i (Nat.zero_le _) hi).1,fun i h0 hi=>(h i (Nat.zero_le _) hi).2 h0⟩,fun⟨h1,h2⟩=>⟨rfl,fun i _ hi=>⟨h1 i hi,fun h0=>h2 i h0 hi⟩⟩⟩
theorem Ah7.val (xs:List Int) (hn:xs.length<4611686018427387904):∃ v,Ah7.F (xs,())=some ((v,()),())/\(v=true↔A1S xs):=by
 by_cases hz:xs.length=0
 . exact⟨true,Ah7.of _ (((Ev.const _).succ fun k=>by rw[Ah7.T,Ah7.l2_eq,if_neg (by simp[hz])]).of_eq fun k=>rfl),by simp;intro i h1 h2;omega⟩
 obtain⟨v,hv,hv'⟩:=Ev.allF (L:=fun k i=>Ah7.l2 k xs (i:Int)) (a:=()) (b:=()) (n:=xs.length) (fun i=>0<i->xs.getD (i-1) 0<xs.getD i 0) true 1 (fun i h0 hi2=>by
   have E:=fun k=>Ah7.l2_eq k xs (i:Int);have h0:0<i:=h0
   . have h1:i-1<xs.length:=by omega
     simp only[if_pos (ltI.2 hi2),if_pos (idxI.2 hi2),Int.toNat_natCast,A0x (show i<4611686018427387904 by omega),A3u h0 (show i<4611686018427387904 by omega),if_pos (idxI.2 h1)]at E;by_cases h2:xs.getD (i-1) 0<xs.getD i 0
     . exact .inl ⟨fun _=>h2,fun k=>by rw[E,if_neg (by simp only[decide_eq_true_eq];omega)]⟩
     . exact .inr ⟨fun hh=>h2 (hh h0),fun k=>by rw[E,if_pos (by simp only[decide_eq_true_eq];omega)]⟩) ((Ev.const _).succ fun k=>by rw[Ah7.l2_eq,if_neg (by simp)]) 1 (Nat.le_refl _) (by omega)
 refine⟨v,Ah7.of _ (hv.of_eq fun k=>rfl),hv'.trans ?_⟩;exact⟨fun⟨_,h⟩ i h0 hi=>h i h0 hi h0,fun h=>⟨rfl,fun i _ hi h0=>h i h0 hi⟩⟩
theorem Ah0.same (xs ys:List Int) (h:Sm xs):∃ b,Ah0.F (xs,ys,())=some ((b,()),())/\(b=true↔xs=ys):=by
 have hn:xs.length≤1048576:=h;by_cases hl:xs.length=ys.length
 . obtain⟨b,hb,hb'⟩:=A1z (fun k i=>Ah0.l4 k xs ys (i:Int)) xs ys 0 hl (fun i hi=>⟨xs.getD i 0==ys.getD i 0,by simp,fun k=>by
     rw[Ah0.l4_eq,if_pos (ltI.2 hi),if_pos (idxI.2 hi),if_pos (idx2 (hl▸hi))];simp only[Int.toNat_natCast];rw[A0x (by omega)];rfl⟩) (fun k=>by rw[Ah0.l4_eq,if_neg (by simp)])
   exact⟨b,Ah0.of _ _ (hb.of_eq fun k=>by rw[Ah0.T,if_neg (by simp[hl])];rfl),hb'⟩
 . exact⟨false,Ah0.of _ _ ((Ev.const _).of_eq fun k=>by rw[Ah0.T,if_pos (by simp;omega)]),by simp;intro e;exact hl (by rw[e])⟩
def A0F (s:List Int) (k:Nat):List Int:=s.take k++s.drop (k+1)
theorem A0N {s:List Int} {k:Nat} (h:k<s.length):(A0F s k).length=s.length-1:=by simp[A0F];omega
def A1s (s:List Int):Prop:=(1≤s.length/\s.length≤4)/\A0Q 0 9 s/\A1S s
def CplxOk (c:List (List Int)):Prop:=c.length≤48/\∀ i,i<c.length->A1s (c.getD i [])/\(0<i->cmpS (c.getD (i-1) []) (c.getD i [])<0)/\(1<(c.getD i []).length->∀ k,k<(c.getD i []).length->A0F (c.getD i []) k∈c)
theorem CplxOk.sorted {c:List (List Int)} (h:CplxOk c):A0T c:=A2d fun i h0 hi=>(h.2 i hi).2.1 h0
theorem CplxOk.small {c:List (List Int)} (h:CplxOk c):SmL c:=⟨by have:=h.1;omega,fun x hx=>by
 obtain⟨j,hj,rfl⟩:=List.getElem_of_mem hx;have:=(h.2 j hj).1.1.2;rw[A0y hj]at this;unfold Sm;omega⟩
theorem Aa0.val (c:List (List Int)) (s:List Int) (h:SmL c):∃ r:Int,Aa0.F (c,s,())=some ((r,()),())/\(r<0↔s∉c):=by
 have hn:=h.1;obtain⟨v,hv,r,hv',hr⟩:=Ev.loop (σ:=Unit) (R:=(Int×Unit)×Unit) (fun k i _=>Aa0.l2 k c s (i:Int)) c.length (fun i _=>∀ j,j<i->c.getD j []≠s) (fun v=>∃ r:Int,v=((r,()),())/\(r<0↔s∉c))
   (fun i _ hi hI=>by
     have E:=fun k=>Aa0.l2_eq k c s (i:Int);obtain⟨b,hb,hb'⟩:=Ah0.same (c.getD i []) s (h.2 _ (A0z _ hi));simp only[if_pos (ltI.2 hi),if_pos (idxI.2 hi),Int.toNat_natCast,hb,Option.bind_some,A0x (show i<4611686018427387904 by omega)]at E;cases b with
     | true =>
       have hm:s∈c:=hb'.1 rfl▸A0z [] hi;exact .inl ⟨_,(Ev.const _).succ fun k=>by rw[E,if_pos rfl],_,rfl,by simp[hm]⟩
     | false =>
       refine .inr ⟨(),fun j hj=>?_,Goes.succ fun k=>by rw[E,if_neg (by simp)]⟩;by_cases hji:j=i
       . rw[hji];exact fun e=>absurd (hb'.2 e) (by simp)
       . exact hI j (by omega))
   (fun _ hI=>⟨_,(Ev.const _).succ fun k=>by rw[Aa0.l2_eq,if_neg (by simp)],_,rfl,by
     have:s∉c:=fun hm=>by
       obtain⟨j,hj,e⟩:=List.getElem_of_mem hm;exact hI j hj (by rw[A0y hj];exact e)
     simp[this]⟩) 0 () (Nat.zero_le _) (by intro j hj;omega)
 subst hv';exact⟨r,Aa0.of _ _ (hv.of_eq fun k=>rfl),hr⟩
theorem Aa0.val2 (c:List (List Int)) (n:Nat) (hn:n<c.length) (hs:A0T c) (h:SmL c):Aa0.F (c,c.getD n [],())=some (((n:Int),()),()):=by
 have hl:=h.1;obtain⟨v,hv,hv'⟩:=Ev.loop (σ:=Unit) (R:=(Int×Unit)×Unit) (fun k i _=>Aa0.l2 k c (c.getD n []) (i:Int)) c.length (fun i _=>i≤n) (fun v=>v=(((n:Int),()),()))
   (fun i _ hi hI=>by
     have E:=fun k=>Aa0.l2_eq k c (c.getD n []) (i:Int);obtain⟨b,hb,hb'⟩:=Ah0.same (c.getD i []) (c.getD n []) (h.2 _ (A0z _ hi));simp only[if_pos (ltI.2 hi),if_pos (idxI.2 hi),Int.toNat_natCast,hb,Option.bind_some,A0x (show i<4611686018427387904 by omega)]at E;cases b with
     | true =>
       have:=A0h hs hi hn (hb'.1 rfl);exact .inl ⟨_,(Ev.const _).succ fun k=>by rw[E,if_pos rfl],by rw[this]⟩
     | false =>
       refine .inr ⟨(),?_,Goes.succ fun k=>by rw[E,if_neg (by simp)]⟩;have:i≠n:=fun e=>absurd (hb'.2 (by rw[e])) (by simp);omega)
   (fun _ hI=>by omega) 0 () (Nat.zero_le _) (Nat.zero_le _)
 subst hv';exact Aa0.of _ _ (hv.of_eq fun k=>rfl)
theorem cutA (s:List Int) (k:Nat):cutL s (0:Int) (k:Int)=s.take k:=by simp[cutL]
theorem cutB (s:List Int) (k:Nat):cutL s ((k:Nat):Int) (s.length:Int)=s.drop k:=by simp[cutL]
theorem Ah1.val (s:List Int) (k:Nat) (hk:k<s.length) (hs:s.length≤1048576):Ah1.F (s,(k:Int),())=some ((A0F s k,()),()):=by
 rw[Ah1.eq,Ah1.T,if_pos (by omega),cutA,Ad1.eq,Ad1.T,if_pos (by simp only[List.length_nil,List.length_take,bigA];omega)];simp only[Option.bind_some];rw[A0x (by omega),if_pos (by omega),cutB,if_pos (by simp only[List.nil_append,List.length_take,List.length_drop,bigA];omega)];rfl
theorem Ag5.val2 (a b:List Int) (ha:a.length≤1048576) (hb:b.length≤1048576):Ag5.F ([a,b],())=some ((a++b,()),()):=by
 have w1:IntKind.i64.wrap (0+(a.length:Int))=(a.length:Int):=by rw[A0B (by omega) (by omega)];omega
 have w2:IntKind.i64.wrap ((a.length:Int)+(b.length:Int))=(a.length:Int)+(b.length:Int):=A0B (by omega) (by omega);have w3:IntKind.i64.wrap ((0:Int)+1)=1:=A0B (by omega) (by omega);have w4:IntKind.i64.wrap ((1:Int)+1)=2:=A0B (by omega) (by omega);refine Ag5.of _ ⟨6,fun k hk=>?_⟩;obtain⟨k,rfl⟩:∃ j,k=j+1+1+1+1+1+1:=⟨k-6,by omega⟩;show Ag5.T (k+1+1+1+1+1+1) [a,b]=_;have e0:((([a,b]:List (List Int)).length:Nat):Int)=2:=rfl;rw[Ag5.T,e0,Ag5.l3_eq,if_pos (by decide),if_pos (by rw[e0];decide)];simp only[Int.toNat_zero,List.getD_cons_zero,w1,w3];rw[if_neg (by simp only[decide_eq_true_eq];omega),Ag5.l3_eq,if_pos (by decide),if_pos (by rw[e0];decide)];simp only[show(1:Int).toNat=1 from rfl,List.getD_cons_succ,List.getD_cons_zero,w2,w4];rw[if_neg (by simp only[decide_eq_true_eq];omega),Ag5.l3_eq,if_neg (by decide),if_pos (by simp only[bigN];omega),e0,Ag5.l11_eq,if_pos (by decide),if_pos (by rw[e0];decide)];simp only[Int.toNat_zero,List.getD_cons_zero,w3];rw[if_pos (by simp only[List.length_nil,bigA];omega),Ag5.l11_eq,if_pos (by decide),if_pos (by rw[e0];decide)];simp only[show(1:Int).toNat=1 from rfl,List.getD_cons_succ,List.getD_cons_zero,w4,List.nil_append];rw[if_pos (by simp only[bigA];omega),Ag5.l11_eq,if_neg (by decide)]
def A0S (s:List Int):List (List Int):=if 1<s.length then(List.range s.length).map (A0F s)else[]
theorem Ae1.val (s:List Int) (hs:s.length≤1048576):Ae1.F (s,())=some ((A0S s,()),()):=by
 by_cases h1:1<s.length
 . obtain⟨r,hr,hg⟩:=Goes.loop (R:=(List (List Int)×Unit)×Unit) (fun k i (x:List (List Int))=>Ae1.l3 k s s.length (i:Int) x) s.length (fun i x=>x=(List.range i).map (A0F s)) (fun i x hi hx=>⟨_,rfl,Goes.succ fun k=>by
     rw[Ae1.l3_eq,if_pos (ltI.2 hi),if_pos (by simp;omega),if_pos (by omega),A0x (by omega),if_pos (by omega),cutA,cutB,Ag5.val2 _ _ (by simp;omega) (by simp;omega)];simp only[Option.bind_some];rw[if_pos (by rw[hx];simp only[List.length_map,List.length_range,List.length_cons,List.length_nil,bigA];omega),hx,List.range_succ,List.map_append];rfl⟩) 0 [] (Nat.zero_le _) rfl
   have:A0S s=r:=by rw[A0S,if_pos h1,hr]
   rw[this];exact Ae1.of _ ((hg _ ((Ev.const _).succ fun k=>by rw[Ae1.l3_eq,if_neg (by simp)])).of_eq fun k=>rfl)
 . obtain⟨r,hr,hg⟩:=Goes.loop (R:=(List (List Int)×Unit)×Unit) (fun k i (x:List (List Int))=>Ae1.l3 k s s.length (i:Int) x) s.length (fun i x=>x=[]) (fun i x hi hx=>⟨_,hx,Goes.succ fun k=>by
     rw[Ae1.l3_eq,if_pos (ltI.2 hi),if_neg (by simp;omega),A0x (by omega)]⟩) 0 [] (Nat.zero_le _) rfl
   have:A0S s=r:=by rw[A0S,if_neg h1,hr]
   rw[this];exact Ae1.of _ ((hg _ ((Ev.const _).succ fun k=>by rw[Ae1.l3_eq,if_neg (by simp)])).of_eq fun k=>rfl)
theorem Ao2.val (s:List Int) (hs:s.length≤1048576):∃ v,Ao2.F (s,())=some ((v,()),())/\(v=true↔A1s s):=by
 obtain⟨v1,h1,h1'⟩:=Ah7.val s (by omega);have h2:=Ad4.val s (Ar0.cloG (())) (fun a=>!decide (0≤a/\a≤9)) (fun a _=>by
   show(Ar0.F (a,())).map (·.1)=_;rw[Ar0.eq,Ar0.T,Ar8.eq,Ar8.T,Ab5.val];rfl) (by omega)
 rw[Ao2.eq,Ao2.T,h1,h2];simp only[Option.bind_some];unfold A1s;by_cases g1:1≤s.length
 . by_cases g2:s.length≤4
   . rw[if_pos (by simp;omega),if_pos (by simp;omega)];cases v1 with
     | true =>
       refine⟨_,by rw[if_pos rfl],?_⟩;have hr:=h1'.1 rfl;simp only[Bool.not_eq_true',List.any_eq_false,Bool.not_eq_eq_eq_not,Bool.not_true,A0Q,g1,g2,hr,and_self,and_true,true_and];simp
     | false=>exact⟨false,by rw[if_neg (by simp)],by simp;intro _ _ _ hr;exact absurd (h1'.2 hr) (by simp)⟩
   . exact⟨false,by rw[if_pos (by simp;omega),if_neg (by simp;omega)],by simp;intro _ h;omega⟩
 . exact⟨false,by rw[if_neg (by simp;omega)],by simp;intro h;omega⟩
theorem Aq2.val (s:List Int) (hs:s.length≤1048576):∃ v,Aq2.F (s,())=some ((v,()),())/\(v=true↔A1s s):=by
 obtain⟨v1,h1,h1'⟩:=Am4.val s 0 9 (by omega);rw[Aq2.eq,Aq2.T,h1,Aa7.val];simp only[Option.bind_some];unfold A1s;by_cases g:1≤(s.length:Int)/\(s.length:Int)≤4
 . rw[if_pos (by simp only[decide_eq_true_eq];exact g)];exact⟨v1,rfl,h1'.trans ⟨fun h=>⟨by omega,h⟩,fun h=>h.2⟩⟩
 . exact⟨false,by rw[if_neg (by simp only[decide_eq_true_eq];exact g)],by simp;intro a b;omega⟩
theorem Aa4.val (c : List (List Int)) (h:SmL c):∃ v,Aa4.F (c,())=some ((v,()),())/\(v=true↔CplxOk c):=by
 by_cases hn:c.length≤48
 . obtain⟨v,hv,hv'⟩:=Ev.loop (σ:=Unit) (R:=(Bool×Unit)×Unit) (fun k i _=>Aa4.l4 k c (i:Int)) c.length (fun i _=>∀ j,j<i->A1s (c.getD j [])/\(0<j->cmpS (c.getD (j-1) []) (c.getD j [])<0)/\(1<(c.getD j []).length->∀ k,k<(c.getD j []).length->A0F (c.getD j []) k∈c)) (fun r=>∃ v,r=((v,()),())/\(v=true↔CplxOk c))
     (fun i _ hi hI=>by
       have hsm:(c.getD i []).length≤1048576:=h.2 _ (A0z _ hi);obtain⟨s,hs⟩:∃ s,c.getD i []=s:=⟨_,rfl⟩;have E:=fun k=>Aa4.l4_eq k c (i:Int);obtain⟨b,hb,hb'⟩:=Aq2.val s (hs▸hsm);rw[hs]at hsm;simp only[if_pos (ltI.2 hi),if_pos (idxI.2 hi),Int.toNat_natCast,hs,hb,Option.bind_some]at E;have bad:(¬ (A1s s/\(0<i->cmpS (c.getD (i-1) []) s<0)/\(1<s.length->∀ k,k<s.length->A0F s k∈c)))->∃ v,(((false,()),()):(Bool×Unit)×Unit)=((v,()),())/\(v=true↔CplxOk c):=fun hno=>⟨false,rfl,by simp;intro hc;exact hno (by have:=hc.2 i hi;rw[hs]at this;exact this)⟩;cases b with
       | false=>exact .inl ⟨_,(Ev.const _).succ fun k=>by rw[E];rfl,bad fun hc=>absurd (hb'.2 hc.1) (by simp)⟩
       | true =>
         have hsimp:=hb'.1 rfl;simp only[Bool.not_true,Bool.false_eq_true,if_false]at E;have inner:(∃ r,Ev (fun k=>Aa4.l10 k c (i:Int) s ((0:Nat):Int)) r/\r=((false,()),())/\¬ (1<s.length->∀ k,k<s.length->A0F s k∈c))∨((1<s.length->∀ k,k<s.length->A0F s k∈c)/\Goes (fun k=>Aa4.l10 k c (i:Int) s ((0:Nat):Int)) (fun k=>Aa4.l4 k c ((i+1:Nat):Int))):=by
           by_cases h1:1<s.length
           . by_cases hall:∀ k,k<s.length->A0F s k∈c
             . refine .inr ⟨fun _=>hall,?_⟩;obtain⟨_,_,hg⟩:=Goes.loop (σ:=Unit) (R:=(Bool×Unit)×Unit) (fun k j _=>Aa4.l10 k c (i:Int) s (j:Int)) s.length (fun _ _=>True) (fun j _ hj _=>⟨(),trivial,Goes.succ fun k=>by
                 obtain⟨r,hr,hr'⟩:=Aa0.val c (A0F s j) h;rw[Aa4.l10_eq,if_pos (ltI.2 hj),if_pos (by simp;omega),Ah1.val s j hj hsm];simp only[Option.bind_some,hr];rw[if_neg (by simp only[decide_eq_true_eq,hr'];exact fun hh=>hh (hall j hj)),A0x (by omega)]⟩) 0 () (Nat.zero_le _) trivial
               exact hg.trans (Goes.succ fun k=>by rw[Aa4.l10_eq,if_neg (by simp),A0x (by omega)])
             . left;obtain⟨v,hv,hv'⟩:=Ev.loop (σ:=Unit) (R:=(Bool×Unit)×Unit) (fun k j _=>Aa4.l10 k c (i:Int) s (j:Int)) s.length (fun j _=>∀ k,k<j->A0F s k∈c) (fun r=>r=((false,()),())) (fun j _ hj hJ=>by
                 obtain⟨r,hr,hr'⟩:=Aa0.val c (A0F s j) h;have E2:=fun k=>Aa4.l10_eq k c (i:Int) s (j:Int);simp only[if_pos (ltI.2 hj),if_pos (show decide ((s.length:Int)>1)=true by simp;omega),Ah1.val s j hj hsm,Option.bind_some,hr,A0x (show j<4611686018427387904 by omega)]at E2;by_cases hd:A0F s j∈c
                 . refine .inr ⟨(),fun k hk=>?_,Goes.succ fun k=>by rw[E2,if_neg (by simp only[decide_eq_true_eq,hr'];exact fun hh=>hh hd)]⟩;by_cases hkj:k=j
                   . rw[hkj];exact hd
                   . exact hJ k (by omega)
                 . exact .inl ⟨_,(Ev.const _).succ fun k=>by rw[E2,if_pos (by simp only[decide_eq_true_eq,hr'];exact hd)],rfl⟩) (fun _ hJ=>absurd hJ hall) 0 () (Nat.zero_le _) (by intro k hk;omega)
               exact⟨v,hv,hv',fun hh=>hall (hh h1)⟩
           . refine .inr ⟨fun hh=>absurd hh h1,Goes.succ fun k=>?_⟩;rw[Aa4.l10_eq];by_cases h0:(0:Nat)<s.length
             . rw[if_pos (ltI.2 h0),if_neg (by simp;omega),A0x (by omega)]
             . rw[if_neg (by simp only[decide_eq_true_eq];omega),A0x (by omega)]
         have pre:((0<i->cmpS (c.getD (i-1) []) s<0)/\∀ k,Aa4.l4 (k+1) c (i:Int)=Aa4.l10 k c (i:Int) s ((0:Nat):Int))∨((∀ k,Aa4.l4 (k+1) c (i:Int)=some ((false,()),()))/\¬ (0<i->cmpS (c.getD (i-1) []) s<0)):=by
           by_cases h0:0<i
           . have h1:i-1<c.length:=by omega
             simp only[if_pos (show decide ((i:Int)>0)=true by simp;omega),A3u h0 (show i<4611686018427387904 by omega),if_pos (idxI.2 h1),Int.toNat_natCast,Ai5.val _ s (h.2 _ (A0z _ h1)),Option.bind_some]at E;by_cases hlt:cmpS (c.getD (i-1) []) s<0
             . exact .inl ⟨fun _=>hlt,fun k=>by rw[E,if_neg (by simp only[decide_eq_true hlt];simp)];rfl⟩
             . exact .inr ⟨fun k=>by rw[E,if_pos (by simp only[decide_eq_false hlt];rfl)],fun hh=>hlt (hh h0)⟩
           . simp only[if_neg (show ¬ decide ((i:Int)>0)=true by simp;omega)]at E;exact .inl ⟨fun h=>absurd h h0,fun k=>by rw[E];rfl⟩
         rcases pre with⟨hlt,E3⟩|⟨E4,hno⟩
         . rcases inner with⟨r,hr,rfl,hno⟩|⟨hyes,hg⟩
           . exact .inl ⟨_,hr.succ E3,bad fun hc=>hno hc.2.2⟩
           . refine .inr ⟨(),fun j hj=>?_,(Goes.succ E3).trans hg⟩;by_cases hji:j=i
             . rw[hji,hs];exact⟨hsimp,hlt,hyes⟩
             . exact hI j (by omega)
         . exact .inl ⟨_,(Ev.const _).succ E4,bad fun hc=>hno hc.2.1⟩)
     (fun _ hI=>⟨_,(Ev.const _).succ fun k=>by rw[Aa4.l4_eq,if_neg (by simp)],true,rfl,by simp;exact⟨hn,hI⟩⟩) 0 () (Nat.zero_le _) (by intro j hj;omega)
   obtain⟨b,rfl,hb⟩:=hv';exact⟨b,Aa4.of _ (hv.of_eq fun k=>by rw[Aa4.T,if_neg (by simp;omega)];rfl),hb⟩
 . exact⟨false,Aa4.of _ ((Ev.const _).of_eq fun k=>by rw[Aa4.T,if_pos (by simp;omega)]),by simp;intro hc;exact hn hc.1⟩
theorem mem_faces {s f:List Int}:f∈A0S s↔1<s.length/\∃ k,k<s.length/\A0F s k=f:=by
 unfold A0S;by_cases h:1<s.length
 . rw[if_pos h];simp[h]
 . rw[if_neg h];simp[h]
theorem A2P {c:List (List Int)} {i m:Nat} (h:m<i):(c.take i).getD m []=c.getD m []:=by
 simp only[List.getD_eq_getElem?_getD,List.getElem?_take,h,if_true]
theorem A3Q {c:List (List Int)} {i m:Nat} (h:m<i) (hm:m<c.length):c.getD m []∈c.take i:=by
 rw[<-A2P h];exact A0z [] (by simp;omega)
def OkAt (c:List (List Int)) (j:Nat):Prop:=A1s (c.getD j [])/\(0<j->cmpS (c.getD (j-1) []) (c.getD j [])<0)/\∀ f∈A0S (c.getD j []),f∈c.take j
theorem A2s (c:List (List Int)):(c.length≤48/\∀ j,j<c.length->OkAt c j)↔CplxOk c:=by
 constructor
 . rintro⟨h1,h2⟩;refine⟨h1,fun i hi=>⟨(h2 i hi).1,(h2 i hi).2.1,fun hl k hk=>List.mem_of_mem_take ((h2 i hi).2.2 _ (mem_faces.2 ⟨hl,k,hk,rfl⟩))⟩⟩
 . intro h;refine⟨h.1,fun j hj=>⟨(h.2 j hj).1,(h.2 j hj).2.1,fun f hf=>?_⟩⟩;obtain⟨hl,k,hk,rfl⟩:=mem_faces.1 hf;have hm:=(h.2 j hj).2.2 hl k hk;obtain⟨m,hm1,e⟩:=List.getElem_of_mem hm;have e':c.getD m []=A0F (c.getD j []) k:=by rw[A0y hm1];exact e
   have hlen:=A0N hk;have hshort:cmpS (A0F (c.getD j []) k) (c.getD j [])<0:=A2V (by omega);by_cases hmj:m<j
   . rw[<-e'];exact A3Q hmj hm1
   . exfalso;by_cases hmj2:m=j
     . rw[hmj2]at e';rw[<-e',(A0Z _ _).2 rfl]at hshort;omega
     . have h3:=h.sorted j m (by omega) hm1;rw[e']at h3;have:=A0r _ _ _ hshort h3;rw[(A0Z _ _).2 rfl]at this;omega
theorem Ab2.val (c:List (List Int)) (h:SmL c):∃ v,Ab2.F (c,())=some ((v,()),())/\(v=true↔CplxOk c):=by
 have hn := h.1;obtain⟨v,hv,hv'⟩:=Ev.loop (σ:=Unit) (R:=(Bool×Unit)×Unit) (fun k i _=>Ab2.l2 k c c.length (i:Int) c) c.length (fun i _=>∀ j,j<i->OkAt c j) (fun r=>∃ v,r=((v,()),())/\(v=true↔c.length≤48/\∀ j,j<c.length->OkAt c j))
   (fun i _ hi hI=>by
     have hsm:(c.getD i []).length≤1048576:=h.2 _ (A0z _ hi);have hsorted:A0T (c.take i):=A2d fun m h0 hm=>by
       have hm':m<i:=by simp at hm;omega
       rw[A2P (by omega),A2P hm'];exact(hI m hm').2.1 h0
     have hsmall:SmL (c.take i):=⟨by simp;omega,fun x hx=>h.2 x (List.mem_of_mem_take hx)⟩;have hclo:∀ f:List Int,f.length≤1048576->Ao0.cloG (c,(i:Int),()) (f,())=some (decide (f∉c.take i),()):=fun f hf=>by
       show(Ao0.F (f,c,(i:Int),())).map (·.1)=_;obtain⟨r,hr,hr'⟩:=Aa5.val (c.take i) f hsorted hsmall hf;rw[Ao0.eq,Ao0.T,if_pos (by omega)];have:cutL c (0:Int) (i:Int)=c.take i:=by simp[cutL]
       rw[this,hr];simp only[Option.bind_some,Option.map_some,hr']
     obtain⟨s,hs⟩:∃ s,c.getD i []=s:=⟨_,rfl⟩;have E:=fun k=>Ab2.l2_eq k c c.length (i:Int) c;obtain⟨b,hb,hb'⟩:=Ao2.val s (hs▸hsm);rw[hs]at hsm;have hfl:∀ f∈A0S s,f.length≤1048576:=fun f hf=>by
       obtain⟨_,k,hk,rfl⟩:=mem_faces.1 hf;have:=A0N hk;omega
     have hcf:=An3.val (A0S s) (Ao0.cloG (c,(i:Int),())) (fun f=>decide (f∉c.take i)) (fun f hf=>hclo f (hfl f hf)) (by
       unfold A0S;split
       . simp;omega
       . simp)
     simp only[if_pos (ltI.2 hi),if_pos (idxI.2 hi),Int.toNat_natCast,hs,hb,Option.bind_some,Ae1.val s hsm,hcf,A0x (show i<4611686018427387904 by omega)]at E;have bad:¬ OkAt c i->∃ v,(((false,()),()):(Bool×Unit)×Unit)=((v,()),())/\(v=true↔c.length≤48/\∀ j,j<c.length->OkAt c j):=fun hno=>⟨false,rfl,by simp only[Bool.false_eq_true,false_iff];exact fun hc=>hno (hc.2 i hi)⟩;cases b with
     | false=>exact .inl ⟨_,(Ev.const _).succ fun k=>by rw[E];rfl,bad fun hc=>absurd (hb'.2 (hs▸hc.1)) (by simp)⟩
     | true =>
       have hsimp:=hb'.1 rfl;simp only[Bool.not_true,Bool.false_eq_true,if_false]at E;have pre:((0<i->cmpS (c.getD (i-1) []) s<0)/\∀ k,Ab2.l2 (k+1) c c.length (i:Int) c=if ((A0S s).any fun f=>decide (f∉c.take i))=true then some ((false,()),())else Ab2.l2 k c c.length ((i+1:Nat):Int) c)∨((∀ k,Ab2.l2 (k+1) c c.length (i:Int) c=some ((false,()),()))/\¬ (0<i->cmpS (c.getD (i-1) []) s<0)):=by
         by_cases h0:0<i
         . have h1:i-1<c.length:=by omega
           simp only[if_pos (show decide ((i:Int)>0)=true by simp;omega),A3u h0 (show i<4611686018427387904 by omega),if_pos (idxI.2 h1),Int.toNat_natCast,Ac9.val _ s (h.2 _ (A0z _ h1)) hsm,Option.bind_some]at E;by_cases hlt:cmpS (c.getD (i-1) []) s<0
           . exact .inl ⟨fun _=>hlt,fun k=>by rw[E,if_neg (by simp only[decide_eq_true_eq];omega)]⟩
           . exact .inr ⟨fun k=>by rw[E,if_pos (by simp only[decide_eq_true_eq];omega)],fun hh=>hlt (hh h0)⟩
         . simp only[if_neg (show ¬ decide ((i:Int)>0)=true by simp;omega)]at E;exact .inl ⟨fun h=>absurd h h0,fun k=>by rw[E]⟩
       rcases pre with⟨hlt,E3⟩|⟨E4,hno⟩
       . by_cases hf:∀ f∈A0S s,f∈c.take i
         . refine .inr ⟨(),fun j hj=>?_,Goes.succ fun k=>by rw[E3,if_neg (by simp only[List.any_eq_true,decide_eq_true_eq,not_exists,not_and,Classical.not_not];exact hf)]⟩;by_cases hji:j=i
           . rw[hji];exact⟨hs▸hsimp,fun h0=>by rw[hs];exact hlt h0,fun f hff=>hf f (hs▸hff)⟩
           . exact hI j (by omega)
         . refine .inl ⟨_,(Ev.const _).succ fun k=>by rw[E3,if_pos (by simp only[List.any_eq_true,decide_eq_true_eq];simpa using hf)],bad fun hc=>hf fun f hff=>hc.2.2 f (hs▸hff)⟩
       . exact .inl ⟨_,(Ev.const _).succ E4,bad fun hc=>hno (by have:=hc.2.1;rw[hs]at this;exact this)⟩)
   (fun _ hI=>⟨_,(Ev.const _).succ fun k=>by rw[Ab2.l2_eq,if_neg (by simp)],_,rfl,by simp only[decide_eq_true_eq];exact⟨fun h1=>⟨by omega,hI⟩,fun h1=>by omega⟩⟩) 0 () (Nat.zero_le _) (by intro j hj;omega)
 obtain⟨b,rfl,hb⟩:=hv';exact⟨b,Ab2.of _ (hv.of_eq fun k=>rfl),hb.trans (A2s c)⟩
def A0G (c:List (List Int)) (f:List Int):Nat:=c.findIdx fun x=>decide (x=f)
theorem A0C {c:List (List Int)} {f:List Int} (h:f∈c):A0G c f<c.length/\c.getD (A0G c f) []=f:=by
 have h1:A0G c f<c.length:=List.findIdx_lt_length_of_exists ⟨f,h,by simp⟩;refine⟨h1,?_⟩;rw[A0y h1];have:=List.findIdx_getElem (p:=fun x=>decide (x=f)) (xs:=c) (w:=h1);exact of_decide_eq_true this
def fcs (c:List (List Int)) (i:Nat):List Int:=(A0S (c.getD i [])).map fun f=>((A0G c f:Nat):Int)
theorem A0P (c:List (List Int)) (i:Nat):(fcs c i).length=if 1<(c.getD i []).length then(c.getD i []).length else 0:=by
 unfold fcs A0S;split<;>simp
theorem A3L {c:List (List Int)} (h:CplxOk c) {i:Nat} (hi:i<c.length) {x:Int} (hx:x∈fcs c i):∃ j:Nat,x=j/\j<c.length:=by
 simp only[fcs,List.mem_map]at hx;obtain⟨f,hf,rfl⟩:=hx;have:=((A2s c).2 h).2 i hi;exact⟨_,rfl,(A0C (List.mem_of_mem_take (this.2.2 f hf))).1⟩
theorem A1L {c:List (List Int)} (h:CplxOk c) {i:Nat} (hi:i<c.length) {f:List Int} (hf:f∈A0S (c.getD i [])):f∈c :=
 List.mem_of_mem_take ((((A2s c).2 h).2 i hi).2.2 f hf)
theorem A1X {c:List (List Int)} (h:CplxOk c) {f:List Int} (hf:f∈c):Aa0.F (c,f,())=some ((((A0G c f:Nat):Int),()),()):=by
 obtain⟨h1,h2⟩:=A0C hf;have:=Aa0.val2 c (A0G c f) h1 h.sorted h.small
 rwa [h2]at this
theorem A1M {c:List (List Int)} (h:CplxOk c) {f:List Int} (hf:f∈c):Aa5.F (c,f,())=some ((((A0G c f:Nat):Int),()),()):=by
 obtain⟨h1,h2⟩:=A0C hf;have:=Aa5.val2 c (A0G c f) h1 h.sorted h.small
 rwa [h2]at this
theorem Aa1.val (c:List (List Int)) (h:CplxOk c) (i:Nat) (hi:i<c.length):Aa1.F (c,(i:Int),())=some ((fcs c i,()),()):=by
 have h4:=(h.2 i hi).1.1.2;obtain⟨s,hs⟩:∃ s,c.getD i []=s:=⟨_,rfl⟩;rw[hs]at h4;have hmem:∀ f∈A0S s,f∈c:=fun f hf=>A1L h hi (hs▸hf);have hfc:fcs c i=(A0S s).map fun f=>((A0G c f:Nat):Int):=by rw[fcs,hs]
 refine Aa1.of _ _ (Ev.of_eq (N:=fun k=>Aa1.l4 k c s ((0:Nat):Int) []) ?_ fun k=>by rw[Aa1.T,if_pos (by omega)];simp only[Int.toNat_natCast,hs];rfl);by_cases h1:1<s.length
 . have hf:A0S s=(List.range s.length).map (A0F s):=by rw[A0S,if_pos h1]
   obtain⟨x,hx,hg⟩:=Goes.loop (R:=((List Int×Unit)×Unit)) (fun k j (x:List Int)=>Aa1.l4 k c s (j:Int) x) s.length (fun j x=>x=((List.range j).map (A0F s)).map fun f=>((A0G c f:Nat):Int)) (fun j x hj h2=>⟨_,rfl,Goes.succ fun k=>by
     have hm:A0F s j∈c:=hmem _ (by rw[hf];exact List.mem_map.2 ⟨j,List.mem_range.2 hj,rfl⟩);rw[Aa1.l4_eq,if_pos (ltI.2 hj),if_pos (by simp only[decide_eq_true_eq];omega),Ah1.val s j hj (by omega)];simp only[Option.bind_some,A1X h hm];rw[if_pos (by rw[h2];simp only[List.length_map,List.length_range,List.length_cons,List.length_nil,bigA];omega),A0x (by omega),h2,List.range_succ,List.map_append,List.map_append];rfl⟩) 0 [] (Nat.zero_le _) rfl
   rw[hfc,hf];refine hg _ ((Ev.const _).succ fun k=>?_);rw[Aa1.l4_eq,if_neg (by simp),hx]
 . have hf:A0S s=[]:=by rw[A0S,if_neg h1]
   rw[hfc,hf];refine(Ev.const _).succ fun k=>?_;rw[Aa1.l4_eq];by_cases h0:(0:Nat)<s.length
   . rw[if_pos (ltI.2 h0),if_neg (by simp only[decide_eq_true_eq];omega)];rfl
   . rw[if_neg (by simp only[decide_eq_true_eq];omega)];rfl
theorem A1y {c:List (List Int)} (h:CplxOk c) {i:Nat} (hi:i<c.length):(A0S (c.getD i [])).length≤4:=by
 have h4:=(h.2 i hi).1.1.2;unfold A0S;split
 . simpa using h4
 . simp
theorem Ab3.val (c:List (List Int)) (h:CplxOk c) (i:Nat) (hi:i<c.length):Ab3.F (c,(i:Int),())=some ((fcs c i,()),()):=by
 have h4:=(h.2 i hi).1.1.2;have h5:=A1y h hi;obtain⟨fs,hfs⟩:∃ fs,A0S (c.getD i [])=fs:=⟨_,rfl⟩;have hmem:∀ f∈fs,f∈c:=fun f hf=>A1L h hi (hfs▸hf);have hfc:fcs c i=fs.map fun f=>((A0G c f:Nat):Int):=by rw[fcs,hfs]
 rw[hfs]at h5;refine Ab3.of _ _ (Ev.of_eq (N:=fun k=>Ab3.l3 k (fs.length:Int) ((0:Nat):Int) c [] fs) ?_ fun k=>by rw[Ab3.T,if_pos (by omega)];simp only[Int.toNat_natCast];rw[Ae1.val _ (by omega),hfs];rfl);obtain⟨x,hx,hg⟩:=Goes.loop (R:=((List Int×Unit)×Unit)) (fun k j (x:List Int)=>Ab3.l3 k (fs.length:Int) (j:Int) c x fs) fs.length (fun j x=>x=(fs.take j).map fun f=>((A0G c f:Nat):Int)) (fun j x hj h2=>⟨_,rfl,Goes.succ fun k=>by
   rw[Ab3.l3_eq,if_pos (ltI.2 hj),if_pos (idxI.2 hj)];simp only[Int.toNat_natCast,A1M h (hmem _ (A0z [] hj)),Option.bind_some];rw[if_pos (by rw[h2];simp only[List.length_map,List.length_take,List.length_cons,List.length_nil,bigA];omega),A0x (by omega),h2,List.take_add_one,List.getElem?_eq_getElem hj,Option.toList_some,List.map_append,A0y hj];rfl⟩) 0 [] (Nat.zero_le _) rfl
 rw[List.take_of_length_le (Nat.le_refl _)]at hx;rw[hfc];refine hg _ ((Ev.const _).succ fun k=>?_);rw[Ab3.l3_eq,if_neg (by simp),hx]
def off (c:List (List Int)):Nat->Nat
 | 0=>0
 | s+1=>off c s+(fcs c s).length
def A3f (c:List (List Int)) (s:Nat):List A1i:=(List.range (fcs c s).length).map fun(j:Nat)=>((s:Int),(j:Int),(fcs c s).getD j 0)
def arr (c:List (List Int)) (n:Nat):List A1i:=(List.range n).flatMap (A3f c)
theorem A2j (c:List (List Int)) (n:Nat):arr c (n+1)=arr c n++A3f c n:=by simp[arr,List.range_succ]
theorem A0M (c:List (List Int)) (n:Nat):(arr c n).length=off c n:=by
 induction n with
 | zero=>rfl
 | succ n ih=>rw[A2j,List.length_append,ih,A3f,List.length_map,List.length_range,off]
theorem A1w {c:List (List Int)} (h:CplxOk c) {n:Nat} (hn:n≤c.length):off c n≤4*n:=by
 induction n with
 | zero=>exact Nat.le_refl _
 | succ n ih =>
   have h5:=A1y h (show n<c.length by omega);have:=ih (by omega);have e:(fcs c n).length=(A0S (c.getD n [])).length:=by simp[fcs]
   rw[off,e];omega
theorem A2v (c:List (List Int)) {n s j:Nat} (hs:s<n) (hj:j<(fcs c s).length):(arr c n).getD (off c s+j) (0,0,0)=((s:Int),(j:Int),(fcs c s).getD j 0):=by
 induction n with
 | zero=>omega
 | succ n ih =>
   rw[A2j,List.getD_eq_getElem?_getD];by_cases h:s<n
   . have hmono:∀ a b,a≤b->off c a≤off c b:=fun a b hab=>by
       induction hab with
       | refl=>exact Nat.le_refl _
       | step _ ih=>exact Nat.le_trans ih (Nat.le_add_right _ _)
     have h1:=hmono (s+1) n (by omega);rw[off]at h1;rw[List.getElem?_append_left (by rw[A0M];omega),<-List.getD_eq_getElem?_getD];exact ih h
   . obtain rfl:s=n:=by omega
     rw[List.getElem?_append_right (by rw[A0M];omega),A0M,show off c s+j-off c s=j by omega,A3f,List.getElem?_map,List.getElem?_range hj];rfl
theorem Ae0.val (c:List (List Int)) (h:CplxOk c):Ae0.F (c,())=some ((arr c c.length,()),()):=by
 have hn:=h.1;refine Ae0.of _ (Ev.of_eq (N:=fun k=>Ae0.l3 k (c.length:Int) ((0:Nat):Int) c []) ?_ fun k=>by rw[Ae0.T,As1.eq,As1.T];rfl);obtain⟨x,hx,hg⟩:=Goes.loop (R:=((List A1i×Unit)×Unit)) (fun k i (x:List A1i)=>Ae0.l3 k (c.length:Int) (i:Int) c x) c.length (fun i x=>x=arr c i) (fun i x hi h2=>by
   have hoff:=A1w h (show i≤c.length by omega);have h5:=A1y h hi;have e5:(fcs c i).length=(A0S (c.getD i [])).length:=by simp[fcs]
   refine⟨_,rfl,(Goes.succ fun k=>by rw[Ae0.l3_eq,if_pos (ltI.2 hi),Ab3.val c h i hi]).trans ?_⟩;obtain⟨y,hy,hg2⟩:=Goes.loop (R:=((List A1i×Unit)×Unit)) (fun k j (y:List A1i)=>Ae0.l6 k (i:Int) (c.length:Int) (i:Int) ((fcs c i).length:Int) (j:Int) c y (fcs c i)) (fcs c i).length (fun j y=>y=arr c i++(List.range j).map fun(j:Nat)=>((i:Int),(j:Int),(fcs c i).getD j 0)) (fun j y hj h3=>⟨_,rfl,Goes.succ fun k=>by
     rw[Ae0.l6_eq,if_pos (ltI.2 hj),if_pos (idxI.2 hj),if_pos (by rw[h3];simp only[List.length_append,List.length_map,List.length_range,List.length_cons,List.length_nil,A0M,bigA];omega),A0x (by omega),h3,List.range_succ,List.map_append,List.append_assoc];simp only[Int.toNat_natCast];rfl⟩) 0 x (Nat.zero_le _) (by simp[h2])
   refine hg2.trans (Goes.succ fun k=>?_);rw[Ae0.l6_eq,if_neg (by simp),A0x (by omega),hy,A2j];rfl) 0 [] (Nat.zero_le _) rfl
 refine hg _ ((Ev.const _).succ fun k=>?_);rw[Ae0.l3_eq,if_neg (by simp),hx]
theorem Ac3.val (c:List (List Int)) (h:CplxOk c) (s:Nat) (hs:s≤c.length) (j:Nat) (hj:j≤1000):Ac3.F (c,(s:Int),(j:Int),())=some ((((off c s+j:Nat):Int),()),()):=by
 have hn:=h.1;have hos:=A1w h hs;refine Ac3.of _ _ _ (Ev.of_eq (N:=fun k=>Ac3.l3 k c (s:Int) (j:Int) 0 ((0:Nat):Int)) ?_ fun k=>rfl);obtain⟨x,hx,hg⟩:=Goes.loop (R:=((Int×Unit)×Unit)) (fun k i (x:Int)=>Ac3.l3 k c (s:Int) (j:Int) x (i:Int)) s (fun i x=>x=(off c i:Int)) (fun i x hi h2=>⟨_,rfl,Goes.succ fun k=>by
   have hic:i<c.length:=by omega
   have hoff:=A1w h (show i≤c.length by omega);have h4:=(h.2 i hic).1.1.2;rw[Ac3.l3_eq,if_pos (ltI.2 hi),if_pos (idxI.2 hic)];simp only[Int.toNat_natCast];rw[off,A0P];by_cases h1:1<(c.getD i []).length
   . rw[if_pos (by simp only[decide_eq_true_eq];omega),if_pos (idxI.2 hic),if_pos h1,A0B (by omega) (by omega),A0x (by omega),h2];congr 1
   . rw[if_neg (by simp only[decide_eq_true_eq];omega),if_neg h1,A0x (by omega),h2];rfl⟩) 0 0 (Nat.zero_le _) rfl
 refine hg _ ((Ev.const _).succ fun k=>?_);rw[Ac3.l3_eq,if_neg (by simp),hx,A0B (by omega) (by omega)];congr 3
def A0w (c:List (List Int)) (d:Int) (i:Nat):List Int:=((List.range i).filter fun j=>((c.getD j []).length:Int)==d+1).map fun(j:Nat)=>(j:Int)
theorem A0R (c:List (List Int)) (d:Int) (i:Nat):A0w c d (i+1)=if ((c.getD i []).length:Int)==d+1 then A0w c d i++[(i:Int)]else A0w c d i:=by
 simp only[A0w,List.range_succ,List.filter_append,List.map_append];split
 . rename_i h;rw[List.filter_cons_of_pos (by exact h)];simp
 . rename_i h;rw[List.filter_cons_of_neg (by exact h)];simp
theorem A0D (c:List (List Int)) (d:Int) (i:Nat):(A0w c d i).length≤i:=by
 simp only[A0w,List.length_map];exact Nat.le_trans (List.length_filter_le _ _) (by simp)
theorem A2J {c:List (List Int)} {d:Int} {i:Nat} {x:Int} (h:x∈A0w c d i):∃ j:Nat,x=j/\j<i:=by
 simp only[A0w,List.mem_map,List.mem_filter,List.mem_range]at h;obtain⟨j,⟨h1,-⟩,rfl⟩:=h;exact⟨j,rfl,h1⟩
theorem Aa3.val (c:List (List Int)) (d:Int) (hd:-1≤d/\d≤1000) (hn:c.length≤1048576):Aa3.F (c,d,())=some ((A0w c d c.length,()),()):=by
 refine Aa3.of _ _ ?_;obtain⟨s,hs,hg⟩:=Goes.loop (R:=((List Int×Unit)×Unit)) (fun k i (x:List Int)=>Aa3.l3 k c d (i:Int) x) c.length (fun i x=>x=A0w c d i) (fun i x hi h2=>⟨_,rfl,Goes.succ fun k=>by
   have hl:=A0D c d i;rw[Aa3.l3_eq,if_pos (ltI.2 hi),if_pos (idxI.2 hi),A0B (x:=d+1) (by omega) (by omega),A0R];simp only[Int.toNat_natCast];by_cases h:(((c.getD i []).length:Int)==d+1)=true
   . rw[if_pos h,if_pos h,if_pos (by rw[h2];simp only[List.length_cons,List.length_nil,bigA];omega),A0x (by omega),h2]
   . rw[if_neg h,if_neg h,A0x (by omega),h2]⟩) 0 [] (Nat.zero_le _) rfl
 refine Ev.of_eq (hg _ ((Ev.const _).succ fun k=>?_)) fun k=>rfl;rw[Aa3.l3_eq,if_neg (by simp),hs]
theorem Ac5.val (c:List (List Int)) (d:Int) (hd:-1≤d/\d≤1000) (hn:c.length≤1048576):Ac5.F (c,d,())=some ((A0w c d c.length,()),()):=by
 refine Ac5.of _ _ ?_;obtain⟨s,hs,hg⟩:=Goes.loop (R:=((List Int×Unit)×Unit)) (fun k i (x:List Int)=>Ac5.l3 k d c (c.length:Int) (i:Int) x) c.length (fun i x=>x=A0w c d i) (fun i x hi h2=>⟨_,rfl,Goes.succ fun k=>by
   have hl:=A0D c d i;rw[Ac5.l3_eq,if_pos (ltI.2 hi),if_pos (idxI.2 hi),A0B (x:=d+1) (by omega) (by omega),A0R,Ab4.eq,Ab4.T];simp only[Int.toNat_natCast,Option.bind_some];by_cases h:(((c.getD i []).length:Int)==d+1)=true
   . rw[if_pos h,if_pos h,if_pos (by rw[h2];simp only[List.length_cons,List.length_nil,bigA];omega),A0x (by omega),h2]
   . rw[if_neg h,if_neg h,A0x (by omega),h2]⟩) 0 [] (Nat.zero_le _) rfl
 refine Ev.of_eq (hg _ ((Ev.const _).succ fun k=>?_)) fun k=>rfl;rw[Ac5.l3_eq,if_neg (by simp),hs]
def sumL (st:List Int) (js:List Int):Int:=js.foldl (fun acc j=>IntKind.i64.wrap (acc+st.getD j.toNat 0)) 0
theorem Ac0.val (c:List (List Int)) (st:List Int) (d:Int) (hd:-1≤d/\d≤1000) (hn:c.length≤1048576) (hs:st.length=c.length):Ac0.F (c,st,d,())=some ((sumL st (A0w c d c.length),()),()):=by
 have hl:=A0D c d c.length;refine Ac0.of _ _ _ (Ev.of_eq (N:=fun k=>Ac0.l4 k st 0 ((0:Nat):Int) (A0w c d c.length)) ?_ fun k=>by rw[Ac0.T,Aa3.val c d hd hn];rfl);refine Goes.foldl (L:=fun k i s=>Ac0.l4 k st s (i:Int) (A0w c d c.length)) (A0w c d c.length) 0 (fun acc j=>IntKind.i64.wrap (acc+st.getD j.toNat 0)) (fun k i s hi=>?_) 0 _ ((Ev.const _).succ fun k=>by rw[Ac0.l4_eq,if_neg (by simp)];rfl);obtain⟨j,hj,hjc⟩:=A2J (A0z (0:Int) hi);rw[Ac0.l4_eq,if_pos (ltI.2 hi),if_pos (idxI.2 hi)];simp only[Int.toNat_natCast];rw[if_pos (by rw[hj];omega),A0x (by omega)]
theorem Ab0.val (c:List (List Int)) (p:Int) (st:List Int) (ms:List MatV) (d:Int) (hd:-1≤d/\d≤1000) (hn:c.length≤1048576) (hs:st.length=c.length):Ab0.F ((c,(p,(st,ms))),d,())=some ((sumL st (A0w c d c.length),()),()):=by
 have hl:=A0D c d c.length;refine Ab0.of _ _ _ _ _ (Ev.of_eq (N:=fun k=>Ab0.l3 k 0 (A0w c d c.length).length ((0:Nat):Int) c p st ms (A0w c d c.length)) ?_ fun k=>by rw[Ab0.T,Ac5.val c d hd hn];rfl);refine Goes.foldl (L:=fun k i s=>Ab0.l3 k s (A0w c d c.length).length (i:Int) c p st ms (A0w c d c.length)) (A0w c d c.length) 0 (fun acc j=>IntKind.i64.wrap (acc+st.getD j.toNat 0)) (fun k i s hi=>?_) 0 _ ((Ev.const _).succ fun k=>by rw[Ab0.l3_eq,if_neg (by simp)];rfl);obtain⟨j,hj,hjc⟩:=A2J (A0z (0:Int) hi);rw[Ab0.l3_eq,if_pos (ltI.2 hi),if_pos (idxI.2 hi)];simp only[Int.toNat_natCast];rw[if_pos (by rw[hj];omega),A0x (by omega)]
def vts (c:List (List Int)):List Int:=(c.filter fun s=>s.length==1).map fun s=>s.getD 0 0
theorem A3x (c:List (List Int)) {i:Nat} (hi:i<c.length):vts (c.take (i+1))=vts (c.take i)++(if (c.getD i []).length=1 then[(c.getD i []).getD 0 0]else[]):=by
 unfold vts;rw[List.take_add_one,List.getElem?_eq_getElem hi,Option.toList_some,List.filter_append,List.map_append,A0y hi];congr 1;by_cases h:c[i].length=1<;>simp[h]
theorem A4N (c:List (List Int)) (i:Nat):(vts (c.take i)).length≤i:=by
 unfold vts;rw[List.length_map];exact Nat.le_trans (List.length_filter_le _ _) (by simp;omega)
theorem Ae2.val (c:List (List Int)) (hn:c.length≤1048576):Ae2.F (c,())=some ((vts c,()),()):=by
 refine Ae2.of _ ?_;obtain⟨s,hs,hg⟩:=Goes.loop (R:=((List Int×Unit)×Unit)) (fun k i (x:List Int)=>Ae2.l3 k c (c.length:Int) (i:Int) x) c.length (fun i x=>x=vts (c.take i)) (fun i x hi h2=>⟨_,rfl,Goes.succ fun k=>by
   have hl:=A4N c i;rw[Ae2.l3_eq,if_pos (ltI.2 hi),if_pos (idxI.2 hi)];simp only[Int.toNat_natCast];rw[A3x c hi,A0x (by omega),<-h2];by_cases h1:(c.getD i []).length=1
   . rw[if_pos (by simp only[beq_iff_eq];omega),if_pos (by omega),if_pos (by rw[h2];simp only[List.length_cons,List.length_nil,bigA];omega),if_pos h1];rfl
   . rw[if_neg (by simp only[beq_iff_eq];omega),if_neg h1,List.append_nil]⟩) 0 [] (Nat.zero_le _) rfl
 rw[List.take_of_length_le (Nat.le_refl _)]at hs;refine Ev.of_eq (hg _ ((Ev.const _).succ fun k=>?_)) fun k=>rfl;rw[Ae2.l3_eq,if_neg (by simp),hs]
theorem A4k (c:List (List Int)):(A0w c 0 c.length).length=(vts c).length:=by
 have key:∀ i,i≤c.length->(A0w c 0 i).length=(vts (c.take i)).length:=by
   intro i;induction i with
   | zero=>intro _;rfl
   | succ i ih =>
     intro hi;rw[A0R,A3x c (by omega)];by_cases h1:(c.getD i []).length=1
     . rw[if_pos (by simp only[beq_iff_eq];omega),if_pos h1,List.length_append,List.length_append,ih (by omega)];rfl
     . rw[if_neg (by simp only[beq_iff_eq];omega),if_neg h1,List.append_nil,ih (by omega)]
 have:=key c.length (Nat.le_refl _)
 rwa [List.take_of_length_le (Nat.le_refl _)]at this
theorem A3z {c:List (List Int)} (h:CplxOk c):∀ (n:Nat) (s:List Int),s∈c->s.length≤n->∀ v∈s,[v]∈c:=by
 intro n;induction n with
 | zero=>intro s hs hl v hv;have:s=[]:=List.length_eq_zero_iff.1 (by omega);subst this;simp at hv
 | succ n ih =>
   intro s hs hl v hv;by_cases h1:1<s.length
   . obtain⟨i,hi,hic⟩:∃ i,i<c.length/\c.getD i []=s:=by
       obtain⟨i,hi,rfl⟩:=List.getElem_of_mem hs;exact⟨i,hi,A0y hi⟩
     obtain⟨j,hj,hjv⟩:=List.getElem_of_mem hv;obtain⟨k,hk,hkj⟩:∃ k,k<s.length/\k≠j:=by
       by_cases e:j=0
       . exact⟨1,h1,by omega⟩
       . exact⟨0,by omega,by omega⟩
     have hmem:A0F s k∈c:=A1L h hi (by rw[hic];exact mem_faces.2 ⟨h1,k,hk,rfl⟩);refine ih (A0F s k) hmem (by rw[A0N hk];omega) v ?_;unfold A0F;rw[List.mem_append];by_cases h2:j<k
     . left;rw[List.mem_take_iff_getElem];exact⟨j,by omega,hjv⟩
     . right;rw[List.mem_drop_iff_getElem];refine⟨j-(k+1),by omega,?_⟩;rw[<-hjv];congr 1;omega
   . cases s with
     | nil=>simp at hv
     | cons a t =>
       have:t=[]:=List.length_eq_zero_iff.1 (by simp only[List.length_cons]at h1;omega);subst this;simp only[List.mem_singleton]at hv;subst hv;exact hs
theorem A2Z:∀ {c:List (List Int)},(∀ s∈c,1≤s.length)->c.Pairwise (fun x y=>x.length≤y.length)->∃ B,c=(c.filter fun s=>s.length==1)++B/\∀ s∈B,s.length≠1
 | [],_,_=>⟨[],rfl,by simp⟩
 | x :: c,h1,h2=>by
   rw[List.pairwise_cons]at h2;obtain⟨B,hB,hB'⟩:=A2Z (fun s hs=>h1 s (by simp[hs])) h2.2;by_cases hx:x.length=1
   . exact⟨B,by rw[List.filter_cons,if_pos (by simpa using hx),List.cons_append,<-hB],hB'⟩
   . have hall:∀ s∈x::c,s.length≠1:=fun s hs=>by
       have hx1:=h1 x (by simp);simp only[List.mem_cons]at hs;rcases hs with rfl|hs
       . exact hx
       . have:=h2.1 s hs;omega
     have hf:(x::c).filter (fun s=>s.length==1)=[]:=by
       rw[List.filter_eq_nil_iff];intro s hs;simpa using hall s hs
     exact⟨x::c,by rw[hf];rfl,hall⟩
def idxV (xs:List Int) (v:Int):Nat:=xs.findIdx fun x=>decide (x=v)
theorem A2r {xs:List Int} {v:Int} (h:v∈xs):idxV xs v<xs.length:=List.findIdx_lt_length_of_exists ⟨v,h,by simp⟩
theorem A1u (v:Int):∀ {A:List (List Int)} (B:List (List Int)),(∀ s∈A,s.length=1)->[v]∈A->A0G (A++B) [v]=idxV (A.map fun s=>s.getD 0 0) v
 | [],_,_,h=>by simp at h
 | s :: A,B,h1,h2=>by
   have hs:=h1 s (by simp);obtain⟨a,rfl⟩:∃ a,s=[a]:=by
     cases s with
     | nil=>simp at hs
     | cons a t=>exact⟨a,by rw[List.length_eq_zero_iff.1 (show t.length=0 by simpa using hs)]⟩
   unfold A0G idxV;rw[List.cons_append,List.map_cons,List.findIdx_cons,List.findIdx_cons];by_cases e:a=v
   . subst e;simp
   . have h3:[v]∈A:=by
       simp only[List.mem_cons,List.cons.injEq,and_true]at h2;exact h2.resolve_left fun hh=>e hh.symm
     have ih:=A1u v B (fun s hs=>h1 s (by simp[hs])) h3;unfold A0G idxV at ih;have d1:decide ([a]=[v])=false:=by simp[e]
     have d2:decide (([a]:List Int).getD 0 0=v)=false:=by simp[e]
     rw[d1,d2,cond_false,cond_false,ih]
theorem A3M {c:List (List Int)} (h:CplxOk c) {v:Int} (hv:[v]∈c):A0G c [v]=idxV (vts c) v/\v∈vts c:=by
 have hpw:c.Pairwise (fun x y=>x.length≤y.length):=by
   rw[List.pairwise_iff_getElem];intro i j hi hj hij;have:=h.sorted i j hij hj;rw[A0y hi,A0y hj]at this;refine Classical.byContradiction fun hc=>?_;have h2:=A2V (a:=c[j]) (b:=c[i]) (by omega);have h3:=A0r _ _ _ this h2;have h4:=(A0Z c[i] c[i]).2 rfl;omega
 obtain⟨B,hB,hB'⟩:=A2Z (fun s hs=>by
   obtain⟨i,hi,rfl⟩:=List.getElem_of_mem hs;have:=(h.2 i hi).1.1.1
   rwa [A0y hi]at this) hpw
 have hA:[v]∈c.filter fun s=>s.length==1:=List.mem_filter.2 ⟨hv,rfl⟩;refine⟨?_,?_⟩
 . unfold vts
   conv=>lhs;rw[hB]
   exact A1u v B (fun s hs=>by simpa using(List.mem_filter.1 hs).2) hA
 . unfold vts;rw[List.mem_map];exact⟨[v],hA,rfl⟩
theorem Ae9.val (xs:List Int) (v:Int) (hn:xs.length≤1048576) (hv:v∈xs):Ae9.F (xs,v,())=some ((((idxV xs v:Nat):Int),()),()):=by
 refine Ae9.of _ _ ?_;have hlt:=A2r hv;obtain⟨x,-,hg⟩:=Goes.loop (σ:=Unit) (R:=((Int×Unit)×Unit)) (fun k i _=>Ae9.l2 k xs v (xs.length:Int) (i:Int)) (idxV xs v) (fun _ _=>True) (fun i _ hi _=>⟨(),trivial,Goes.succ fun k=>by
   have hne:xs[i]'(by omega)≠v:=by simpa using List.not_of_lt_findIdx hi
   rw[Ae9.l2_eq,if_pos (ltI.2 (by omega)),if_pos (idxI.2 (by omega))];simp only[Int.toNat_natCast];rw[if_neg (by
     rw[A0y (by omega)];simp only[beq_iff_eq];exact fun e=>hne e.symm),A0x (by omega)]⟩) 0 () (Nat.zero_le _) trivial
 refine Ev.of_eq (hg _ ((Ev.const _).succ fun k=>?_)) fun k=>rfl;have heq:xs[idxV xs v]=v:=of_decide_eq_true (List.findIdx_getElem (xs:=xs) (p:=fun x=>decide (x=v)) (w:=hlt));rw[Ae9.l2_eq,if_pos (ltI.2 hlt),if_pos (idxI.2 hlt)];simp only[Int.toNat_natCast];rw[if_pos (by
   rw[A0y hlt];simp only[beq_iff_eq];exact heq.symm)]
def imgL (c:List (List Int)) (im s:List Int):List Int:=s.map fun v=>im.getD (idxV (vts c) v) 0
def imgS (c:List (List Int)) (im s:List Int):List Int:=setI (imgL c im s)
theorem Aj9.val (c:List (List Int)) (im s:List Int) (h:CplxOk c) (hs:s∈c) (hs4:s.length≤4) (hl:im.length=(vts c).length):Aj9.F (c,im,s,())=some ((imgS c im s,()),()):=by
 have hn:=h.1;have hvl:=A4N c c.length;rw[List.take_of_length_le (Nat.le_refl _)]at hvl;refine Aj9.of _ _ _ ?_;obtain⟨x,hx,hg⟩:=Goes.loop (R:=((List Int×Unit)×Unit)) (fun k i (x:List Int)=>Aj9.l4 k im s (s.length:Int) (i:Int) (vts c) x) s.length (fun i x=>x=imgL c im (s.take i)) (fun i x hi h2=>⟨_,rfl,Goes.succ fun k=>by
   obtain⟨-,hm⟩:=A3M h (A3z h 4 s hs hs4 _ (A0z 0 hi));have hlt:=A2r hm;rw[Aj9.l4_eq,if_pos (ltI.2 hi),if_pos (idxI.2 hi)];simp only[Int.toNat_natCast,Ae9.val _ _ (show(vts c).length≤1048576 by omega) hm,Option.bind_some];rw[if_pos (idxI.2 (by omega)),if_pos (by rw[h2];simp only[imgL,List.length_map,List.length_take,List.length_cons,List.length_nil,bigA];omega),A0x (by omega),h2,imgL,imgL,List.take_add_one,List.getElem?_eq_getElem hi,Option.toList_some,List.map_append,A0y hi];rfl⟩) 0 [] (Nat.zero_le _) rfl
 rw[List.take_of_length_le (Nat.le_refl _)]at hx;have hxl:x.length=s.length:=by rw[hx];simp[imgL]
 refine Ev.of_eq (hg _ ((Ev.const _).succ fun k=>?_)) fun k=>?_
 . rw[Aj9.l4_eq,if_neg (by simp),Aq8.val _ (by omega)];simp only[Option.bind_some];rw[Aq6.val _ (by rw[List.length_mergeSort];omega),hx];rfl
 . rw[Aj9.T,Ae2.val c (by omega)];rfl
theorem cut_one (s:List Int) {i:Nat} (hi:i<s.length):cutL s (i:Int) ((i+1:Nat):Int)=[s.getD i 0]:=by
 unfold cutL;simp only[Int.toNat_natCast];rw[A0y hi];apply List.ext_getElem
 . simp;omega
 . intro j h1 h2;have:j=0:=by simpa using h2
   subst this;simp
theorem Am9.val (c:List (List Int)) (im s:List Int) (h:CplxOk c) (hs:s∈c) (hs4:s.length≤4) (hl:im.length=(vts c).length):Am9.F (c,im,s,())=some ((imgS c im s,()),()):=by
 have hn:=h.1;refine Am9.of _ _ _ ?_;obtain⟨x,⟨hx,hxl⟩,hg⟩:=Goes.loop (R:=((List Int×Unit)×Unit)) (fun k i (x:List Int)=>Am9.l3 k c im s (i:Int) x) s.length (fun i x=>x=(imgL c im (s.take i)).foldl (fun a n=>putL a n false) []/\x.length≤i) (fun i x hi ⟨h2,h3⟩=>by
   have hv:=A3z h 4 s hs hs4 _ (A0z 0 hi);obtain⟨hidx,hm⟩:=A3M h hv;have hlt:=A2r hm;refine⟨putL x (im.getD (idxV (vts c) (s.getD i 0)) 0) false,⟨?_,by have:=A4b (im.getD (idxV (vts c) (s.getD i 0)) 0) x false;omega⟩,Goes.succ fun k=>?_⟩
   . rw[imgL,List.take_add_one,List.getElem?_eq_getElem hi,Option.toList_some,List.map_append,List.foldl_append,<-imgL,<-h2,A0y hi];rfl
   . rw[Am9.l3_eq,if_pos (ltI.2 hi),A0x (by omega),if_pos (by omega),cut_one s hi];simp only[A1X h hv,Option.bind_some,hidx];rw[if_pos (idxI.2 (by omega))];simp only[Int.toNat_natCast,Am3.val x _ (by omega),Option.bind_some]) 0 [] (Nat.zero_le _) ⟨rfl,by simp⟩
 rw[List.take_of_length_le (Nat.le_refl _)]at hx;refine Ev.of_eq (hg _ ((Ev.const _).succ fun k=>?_)) fun k=>rfl;rw[Am9.l3_eq,if_neg (by simp),hx,A4G];rfl
def A3e (c b:List (List Int)) (im:List Int):Prop:=im.length=(vts c).length/\∀ s∈c,imgS c im s∈b
theorem cplx4 {c:List (List Int)} (h:CplxOk c) {s:List Int} (hs:s∈c):s.length≤4:=by
 obtain⟨i,hi,rfl⟩:=List.getElem_of_mem hs;have:=(h.2 i hi).1.1.2
 rwa [A0y hi]at this
theorem Ab9.val (xs:List Int) (h:xs.length≤1048576):Ab9.F (xs,())=some ((xs,()),()):=by
 rw[Ab9.eq,Ab9.T];have hb:([]:List Int).length+xs.length≤bigA:=by simp only[List.length_nil,bigA];omega
 by_cases h0:0<xs.length
 . rw[if_pos h0,if_pos hb];rfl
 . have:xs=[]:=List.eq_nil_of_length_eq_zero (by omega);subst this;rw[if_neg h0];exact b2X rfl (by rw[if_pos hb];rfl)
theorem Al5.val (xs:List (List Int)) (h:SmL xs):Al5.F (xs,())=some ((xs,()),()):=by
 have hn:=h.1;refine Al5.of _ ?_;obtain⟨s,hs,hg⟩:=Goes.loop (R:=((List (List Int)×Unit)×Unit)) (fun k i (x:List (List Int))=>Al5.l3 k xs (xs.length:Int) (i:Int) x) xs.length (fun i x=>x=xs.take i) (fun i x hi h2=>⟨_,rfl,Goes.succ fun k=>by
   rw[Al5.l3_eq,if_pos (ltI.2 hi),if_pos (idxI.2 hi)];simp only[Int.toNat_natCast,Ab9.val _ (h.2 _ (A0z [] hi)),Option.bind_some];rw[if_pos (by rw[h2];simp only[List.length_take,List.length_cons,List.length_nil,bigA];omega),A0x (by omega),h2,List.take_add_one,List.getElem?_eq_getElem hi,Option.toList_some,A0y hi]⟩) 0 [] (Nat.zero_le _) rfl
 rw[List.take_of_length_le (Nat.le_refl _)]at hs;refine Ev.of_eq (hg _ ((Ev.const _).succ fun k=>?_)) fun k=>rfl;rw[Al5.l3_eq,if_neg (by simp),hs]
theorem Ac2.same (xs ys:List Int) (h:Sm xs):∃ b,Ac2.F (xs,ys,())=some ((b,()),())/\(b=true↔xs=ys):=by
 have hn:xs.length≤1048576:=h;by_cases hl:xs.length=ys.length
 . obtain⟨b,hb,hb'⟩:=A1z (fun k i=>Ac2.l4 k xs ys xs.length (i:Int)) xs ys 0 hl (fun i hi=>⟨xs.getD i 0==ys.getD i 0,by simp,fun k=>by
     rw[Ac2.l4_eq,if_pos (ltI.2 hi),if_pos (idxI.2 hi),if_pos (idx2 (hl▸hi))];simp only[Int.toNat_natCast];rw[A0x (by omega)];rfl⟩) (fun k=>by rw[Ac2.l4_eq,if_neg (by simp)])
   exact⟨b,Ac2.of _ _ (hb.of_eq fun k=>by rw[Ac2.T,if_neg (by simp[hl])];rfl),hb'⟩
 . exact⟨false,Ac2.of _ _ ((Ev.const _).of_eq fun k=>by rw[Ac2.T,if_pos (by simp;omega)]),by simp;intro e;exact hl (by rw[e])⟩
theorem A4C:∀ a b:List Int,ordL a b=lexc a b
 | [],[]=>rfl
 | [],_::_=>rfl
 | _::_,[]=>rfl
 | a::x,b::y=>by
   simp only[ordL,lexc,A4C x y];rcases A0H a b with⟨h,e⟩|⟨h,e⟩|⟨h,e⟩<;>rw[e]
   . rw[if_pos h];rfl
   . rw[if_neg (by omega),if_neg (by omega)];rfl
   . rw[if_neg (by omega),if_pos h];rfl
theorem A2L (a b:List Int):ordS a b=cmpS a b:=by
 unfold ordS cmpS;rw[A4C];rcases A0H a.length b.length with⟨h,e⟩|⟨h,e⟩|⟨h,e⟩<;>rw[e]
 . rw[if_pos (by omega)];rfl
 . rw[if_neg (by omega),if_neg (by omega)];rfl
 . rw[if_neg (by omega),if_pos (by omega)];rfl
abbrev LtS (x y:List Int):Prop:=ordS x y<0
theorem LtS.irrefl (x:List Int):¬ LtS x x:=fun h=>by have:=a5m x x;simp only[LtS]at h;omega
theorem LtS.of_le {x y:List Int} (h:¬ LtS y x) (hne:x≠y):LtS x y:=by
 have h1:=a5m x y;have h2:=a9D y x;simp only[LtS]at *;rcases Int.lt_trichotomy (ordS y x) 0 with h3|h3|h3
 . exact absurd h3 h
 . exact absurd (h2 h3).symm hne
 . exact h1.2 h3
theorem sortedS_pw {xs:List (List Int)}:A0T xs↔xs.Pairwise LtS:=by
 rw[List.pairwise_iff_getElem];constructor
 . intro h i j hi hj hij;have:=h i j hij hj;rw[A0y hi,A0y hj,<-A2L]at this;exact this
 . intro h i j hij hj;have:=h i j (by omega) hj hij;rw[A0y (by omega),A0y hj,<-A2L];exact this
theorem A1p:∀ {xs ys:List (List Int)},xs.Pairwise LtS->ys.Pairwise LtS->(∀ s,s∈xs↔s∈ys)->xs=ys
 | [],ys,_,_,h=>by
   cases ys with
   | nil=>rfl
   | cons y ys=>exact absurd ((h y).2 (by simp)) (by simp)
 | x::xs,[],_,_,h=>absurd ((h x).1 (by simp)) (by simp)
 | x :: xs,y::ys,hx,hy,h=>by
   rw[List.pairwise_cons]at hx hy;have e:x=y:=by
     have h1:=(h x).1 (by simp);have h2:=(h y).2 (by simp);simp only[List.mem_cons]at h1 h2;rcases h1 with rfl|h1
     . rfl
     . rcases h2 with rfl|h2
       . rfl
       . exact absurd (a7R x y x (hx.1 y h2) (hy.1 x h1)) (LtS.irrefl x)
   subst e;rw[A1p hx.2 hy.2 fun s=>?_];constructor
   . intro hs;have:=(h s).1 (by simp[hs]);simp only[List.mem_cons]at this;rcases this with rfl|this
     . exact absurd (hx.1 s hs) (LtS.irrefl s)
     . exact this
   . intro hs;have:=(h s).2 (by simp[hs]);simp only[List.mem_cons]at this;rcases this with rfl|this
     . exact absurd (hy.1 s hs) (LtS.irrefl s)
     . exact this
theorem A1A (s:List Int):∀ (l:List (List Int)) (p:List Int),s∈p::a2N p l↔s∈p::l
 | [],p=>by simp[a2N]
 | x::l,p=>by
   have h1:=A1A s l p;have h2:=A1A s l x;simp only[List.mem_cons]at *;simp only[a2N];split
   . rename_i e;subst e;rw[h1];simp
   . rw[List.mem_cons,h2]
theorem A4v (s:List Int) (l:List (List Int)):s∈a8z l↔s∈l:=by
 cases l with
 | nil=>simp[a8z]
 | cons x l=>exact A1A s l x
theorem A1Q:∀ (l:List (List Int)) (p:List Int),(p::l).Pairwise (fun a b=>¬ LtS b a)->(p::a2N p l).Pairwise LtS
 | [],p,_=>by simp[a2N]
 | x :: l,p,h=>by
   rw[List.pairwise_cons,List.pairwise_cons]at h;simp only[a2N];split
   . rename_i e;subst e;exact A1Q l x (List.pairwise_cons.2 ⟨h.2.1,h.2.2⟩)
   . rename_i hne;have ih:=A1Q l x (List.pairwise_cons.2 ⟨h.2.1,h.2.2⟩);have hpx:LtS p x:=LtS.of_le (h.1 x (by simp)) (Ne.symm hne);refine List.pairwise_cons.2 ⟨fun y hy=>?_,ih⟩;simp only[List.mem_cons]at hy;rcases hy with rfl|hy
     . exact hpx
     . exact a7R p x y hpx ((List.pairwise_cons.1 ih).1 y hy)
theorem A4R {l:List (List Int)} (h:l.Pairwise (fun a b=>¬ LtS b a)):(a8z l).Pairwise LtS:=by
 cases l with
 | nil=>simp[a8z]
 | cons x l=>exact A1Q l x h
def A2H (xs:List (List Int)):List (List Int):=a8z (b4O ordS xs)
theorem A1o (xs:List (List Int)):(b4O ordS xs).Perm xs:=List.mergeSort_perm _ _
theorem A0s (s:List Int) (xs:List (List Int)):s∈A2H xs↔s∈xs:=by rw[A2H,A4v,(A1o xs).mem_iff]
theorem A3Z (xs:List (List Int)):(A2H xs).Pairwise LtS:=by
 refine A4R ?_;have h:=List.pairwise_mergeSort (le:=fun x y=>!Go.Proofs.ltOf ordS y x) (fun x y z h1 h2=>?_) (fun x y=>?_) xs
 . refine List.Pairwise.imp ?_ h;intro a b hab;simpa[Go.Proofs.ltOf]using hab
 . simp only[Go.Proofs.ltOf,Bool.not_eq_true',decide_eq_false_iff_not]at *;intro h3;rcases Int.lt_trichotomy (ordS y x) 0 with h|h|h
   . exact h1 h
   . have:=a9D y x h;subst this;exact h2 h3
   . exact h2 (a7R z x y h3 ((a5m x y).2 h))
 . simp only[Go.Proofs.ltOf,Bool.or_eq_true,Bool.not_eq_true',decide_eq_false_iff_not];have:=a5m x y;omega
theorem A3q {xs:List (List Int)} (h:A0T xs):A2H xs=xs:=A1p (A3Z xs) (sortedS_pw.1 h) fun s=>A0s s xs
theorem Aq7.val (xs:List (List Int)) (h:SmL xs):Aq7.F (xs,Ac9.cloG (()),())=some ((),(b4O ordS xs,())):=by
 unfold Aq7.F sortF;rw[if_pos];refine⟨fun x hx y hy=>?_,by have:=h.1;show xs.length<_;omega⟩;show(Ac9.F (x,y,())).map (·.1)=_;rw[Ac9.val x y (h.2 x hx) (h.2 y hy),A2L];rfl
theorem Aq5.val (xs:List (List Int)) (h:SmL xs):Aq5.F (xs,Ac2.cloG (()),())=some ((a8z xs,()),()):=by
 unfold Aq5.F compF;rw[if_pos];refine⟨fun x hx y _=>?_,by have:=h.1;show xs.length<_;omega⟩;have hxs:Sm x:=by
   simp only[List.mem_cons]at hx;rcases hx with rfl|hx
   . simp[Sm]
   . exact h.2 x hx
 obtain⟨b,hb,hb'⟩:=Ac2.same x y hxs;show(Ac2.F (x,y,())).map (·.1)=_;rw[hb];have:b=decide (x=y):=Bool.eq_iff_iff.2 (hb'.trans (by simp));rw[this];rfl
theorem SmL.perm {xs ys:List (List Int)} (h:SmL xs) (hp:ys.Perm xs):SmL ys:=⟨by rw[hp.length_eq];exact h.1,fun x hx=>h.2 x (hp.mem_iff.1 hx)⟩
theorem Ad7.val (xs:List (List Int)) (h:SmL xs):Ad7.F (xs,())=some ((A2H xs,()),()):=by
 rw[Ad7.eq,Ad7.T,Al5.val xs h];simp only[Option.bind_some,Aq7.val xs h,Aq5.val _ (h.perm (A1o xs))];rfl
theorem Ad7.same (xs:List (List Int)) (h:SmL xs) (hs:A0T xs):Ad7.F (xs,())=some ((xs,()),()):=by rw[Ad7.val xs h,A3q hs]
theorem Ak6.val (xs:List Int) (n:Int) (hn:xs.length<4611686018427387904):Ak6.F (xs,n,())=some ((decide (n∈xs),()),()):=by
 obtain⟨v,hv,hv'⟩:=Ev.loop (σ:=Unit) (R:=(Bool×Unit)×Unit) (fun k i _=>Ak6.l2 k xs n (i:Int)) xs.length (fun i _=>∀ j,j<i->xs.getD j 0≠n) (fun r=>r=((decide (n∈xs),()),()))
   (fun i s hi hI=>by
     have E:=fun k=>Ak6.l2_eq k xs n (i:Int);simp only[if_pos (ltI.2 hi),if_pos (idxI.2 hi),Int.toNat_natCast,A0x (show i<4611686018427387904 by omega)]at E;by_cases h:xs.getD i 0=n
     . exact .inl ⟨_,(Ev.const _).succ fun k=>by rw[E,if_pos (by simp only[h,beq_self_eq_true])],by
         have:n∈xs:=h▸A0z 0 hi;simp[this]⟩
     . refine .inr ⟨(),fun j hj=>?_,Goes.succ fun k=>by rw[E,if_neg (by simp only[beq_iff_eq];exact h)]⟩;by_cases hji:j=i
       . rw[hji];exact h
       . exact hI j (by omega))
   (fun s hI=>⟨_,(Ev.const _).succ fun k=>by rw[Ak6.l2_eq,if_neg (by simp)],by
     have:n∉xs:=fun hm=>by
       obtain⟨j,hj,e⟩:=List.getElem_of_mem hm;exact hI j hj (by rw[A0y hj];exact e)
     simp[this]⟩) 0 () (Nat.zero_le _) (by intro j hj;omega)
 subst hv';exact Ak6.of _ _ (hv.of_eq fun k=>rfl)
theorem Ap9.val (xs:List Int) (n:Int) (hn:xs.length<4611686018427387904):Ap9.F (xs,n,())=some ((decide (n∈xs),()),()):=by
 obtain⟨v,hv,hv'⟩:=Ev.loop (σ:=Unit) (R:=(Int×Unit)×Unit) (fun k i _=>Ae9.l2 k xs n xs.length (i:Int)) xs.length (fun i _=>∀ j,j<i->xs.getD j 0≠n) (fun r=>∃ q:Int,r=((q,()),())/\decide (q≥0)=decide (n∈xs))
   (fun i s hi hI=>by
     have E:=fun k=>Ae9.l2_eq k xs n xs.length (i:Int);simp only[if_pos (ltI.2 hi),if_pos (idxI.2 hi),Int.toNat_natCast,A0x (show i<4611686018427387904 by omega)]at E;by_cases h:n=xs.getD i 0
     . exact .inl ⟨_,(Ev.const _).succ fun k=>by rw[E,if_pos (by simp only[←h,beq_self_eq_true])],_,rfl,by
         have:n∈xs:=h▸A0z 0 hi;simp[this]⟩
     . refine .inr ⟨(),fun j hj=>?_,Goes.succ fun k=>by rw[E,if_neg (by simp only[beq_iff_eq];exact h)]⟩;by_cases hji:j=i
       . rw[hji];exact fun e=>h e.symm
       . exact hI j (by omega))
   (fun s hI=>⟨_,(Ev.const _).succ fun k=>by rw[Ae9.l2_eq,if_neg (by simp)],_,rfl,by
     have:n∉xs:=fun hm=>by
       obtain⟨j,hj,e⟩:=List.getElem_of_mem hm;exact hI j hj (by rw[A0y hj];exact e)
     simp[this]⟩) 0 () (Nat.zero_le _) (by intro j hj;omega)
 obtain⟨q,rfl,hq⟩:=hv';rw[Ap9.eq,Ap9.T,Ae9.of _ _ (hv.of_eq fun k=>rfl)];simp only[Option.bind_some,hq]
def A1P (p:Int):Prop:=(2≤p/\p≤251)/\∀ i:Nat,2≤i->(i:Int)*i≤p->p.tmod i≠0
theorem A3d {i:Nat} (h:i≤1000):IntKind.i64.wrap ((i:Int)*(i:Int))=(i:Int)*(i:Int):=by
 have:i*i≤1000*1000:=Nat.mul_le_mul h h;have e:(i:Int)*(i:Int)=((i*i:Nat):Int):=by simp
 rw[e];exact A0B (by omega) (by omega)
theorem A2a (L:Nat->Int->Option ((Bool×Unit)×Unit)) (p:Int) (hp:2≤p/\p≤251) (hL:∀ k i,L (k+1) i=if (decide ((IntKind.i64.wrap (i*i))≤p))=true then(if i=0 then none else if ((p.tmod i)==(0:Int))=true then some ((false,()),())else L k (IntKind.i64.wrap (i+(1:Int))))else some ((true,()),())) :
   ∃ v,Ev (fun k=>L k 2) ((v,()),())/\(v=true↔A1P p):=by
 have big:∀ i:Nat,16≤i->p<(i:Int)*i:=fun i hi=>by
   have:16*16≤i*i:=Nat.mul_le_mul hi hi;have e:(i:Int)*(i:Int)=((i*i:Nat):Int):=by simp
   omega
 have key:∀ d i:Nat,16-i≤d->2≤i->i≤1000->(∀ j:Nat,2≤j->j<i->p.tmod j≠0)->∃ v,Ev (fun k=>L k (i:Int)) ((v,()),())/\(v=true↔A1P p):=by
   intro d;induction d with
   | zero =>
     intro i hd h2 hi hlow;refine⟨true,(Ev.const _).succ fun k=>by rw[hL,A3d hi,if_neg (by simp only[decide_eq_true_eq];have:=big i (by omega);omega)],by simp;exact⟨hp,fun j hj hjp=>hlow j hj (by
       by_cases h:j<i
       . exact h
       . have:=big j (by omega);omega)⟩⟩
   | succ d ih =>
     intro i hd h2 hi hlow;by_cases hsq:(i:Int)*i≤p
     . by_cases hm:p.tmod (i:Int)=0
       . exact⟨false,(Ev.const _).succ fun k=>by rw[hL,A3d hi,if_pos (by simp only[decide_eq_true_eq];exact hsq),if_neg (by omega),if_pos (by simp only[beq_iff_eq];exact hm)],by simp;intro hc;exact hc.2 i h2 hsq hm⟩
       . have hi16:i<16:=by
           by_cases h:i<16
           . exact h
           . have:=big i (by omega);omega
         obtain⟨v,hv,hv'⟩:=ih (i+1) (by omega) (by omega) (by omega) (fun j hj hji=>by
           by_cases h:j=i
           . rw[h];exact hm
           . exact hlow j hj (by omega))
         exact⟨v,hv.succ fun k=>by rw[hL,A3d hi,if_pos (by simp only[decide_eq_true_eq];exact hsq),if_neg (by omega),if_neg (by simp only[beq_iff_eq];exact hm),A0x (by omega)],hv'⟩
     . refine⟨true,(Ev.const _).succ fun k=>by rw[hL,A3d hi,if_neg (by simp only[decide_eq_true_eq];exact hsq)],by simp;exact⟨hp,fun j hj hjp=>hlow j hj (by
         by_cases h:j<i
         . exact h
         . exfalso;have:i*i≤j*j:=Nat.mul_le_mul (by omega) (by omega);have e1:(i:Int)*(i:Int)=((i*i:Nat):Int):=by simp
           have e2:(j:Int)*(j:Int)=((j*j:Nat):Int):=by simp
           omega)⟩⟩
 exact key 16 2 (by omega) (by omega) (by omega) fun j hj hj2=>by omega
theorem Ai3.val (p:Int):∃ v,Ai3.F (p,())=some ((v,()),())/\(v=true↔A1P p):=by
 by_cases hp:2≤p/\p≤251
 . obtain⟨v,hv,hv'⟩:=A2a (fun k i=>Ai3.l4 k p i) p hp (fun k i=>Ai3.l4_eq k p i);exact⟨v,Ai3.of _ (hv.of_eq fun k=>by rw[Ai3.T,Aa7.val];simp only[Option.bind_some];rw[if_neg (by rw[decide_eq_true hp];simp)]),hv'⟩
 . exact⟨false,Ai3.of _ ((Ev.const _).of_eq fun k=>by rw[Ai3.T,Aa7.val];simp only[Option.bind_some];rw[if_pos (by rw[decide_eq_false hp];rfl)]),by simp;intro h;exact hp h.1⟩
theorem Af0.val (p:Int):∃ v,Af0.F (p,())=some ((v,()),())/\(v=true↔A1P p):=by
 by_cases hp:2≤p/\p≤251
 . obtain⟨v,hv,hv'⟩:=A2a (fun k i=>Af0.l4 k p i) p hp (fun k i=>Af0.l4_eq k p i);exact⟨v,Af0.of _ (hv.of_eq fun k=>by rw[Af0.T,Ab5.val];simp only[Option.bind_some];rw[if_neg (by rw[decide_eq_true hp];simp)]),hv'⟩
 . exact⟨false,Af0.of _ ((Ev.const _).of_eq fun k=>by rw[Af0.T,Ab5.val];simp only[Option.bind_some];rw[if_pos (by rw[decide_eq_false hp];rfl)]),by simp;intro h;exact hp h.1⟩
theorem Ah5.val (xs:List Int) (p:Int) (hn:xs.length<4611686018427387904):∃ v,Ah5.F (xs,p,())=some ((v,()),())/\(v=true↔A0Q 0 (IntKind.i64.wrap (p-1)) xs):=by
 rw[Ah5.eq,Ah5.T,Ad4.val xs _ (fun a=>!decide (0≤a/\a≤IntKind.i64.wrap (p-1))) (fun a _=>by
   show(Ar6.F (a,p,())).map (·.1)=_;rw[Ar6.eq,Ar6.T,Ar7.eq,Ar7.T,Ab5.val];rfl) hn]
 refine⟨_,rfl,?_⟩;simp only[Bool.not_eq_true',List.any_eq_false,Bool.not_eq_eq_eq_not,Bool.not_true,A0Q];simp
def MatOk (m:MatV):Prop:=A1P m.1/\(0≤m.2.1/\m.2.1≤32)/\(0≤m.2.2.1/\m.2.2.1≤32)/\(m.2.2.2.length:Int)=m.2.1*m.2.2.1/\A0Q 0 (m.1-1) m.2.2.2
theorem A4X {a b:Int} (ha:0≤a/\a≤32) (hb:0≤b/\b≤32):0≤a*b/\a*b≤1024:=by
 obtain⟨a,rfl⟩:=Int.eq_ofNat_of_zero_le ha.1;obtain⟨b,rfl⟩:=Int.eq_ofNat_of_zero_le hb.1;have:a*b≤32*32:=Nat.mul_le_mul (by omega) (by omega);have e:(a:Int)*(b:Int)=((a*b:Nat):Int):=by simp
 omega
theorem Ag7.val (xs:List Int) (n p:Int) (hn:xs.length<4611686018427387904):∃ v,Ag7.F (xs,n,p,())=some ((v,()),())/\(v=true↔(xs.length:Int)=n/\A0Q 0 (IntKind.i64.wrap (p-1)) xs):=by
 obtain⟨v,hv,hv'⟩:=Ev.allP (L:=fun k i=>Ag7.l2 k xs n p (i:Int)) (a:=()) (b:=()) (n:=xs.length) (fun i=>0≤xs.getD i 0/\xs.getD i 0≤IntKind.i64.wrap (p-1)) ((xs.length:Int)==n) (fun i hi=>by
   have E:=fun k=>Ag7.l2_eq k xs n p (i:Int);simp only[if_pos (ltI.2 hi),if_pos (idxI.2 hi),Int.toNat_natCast,Aa7.val,Option.bind_some,A0x (show i<4611686018427387904 by omega)]at E;by_cases h:0≤xs.getD i 0/\xs.getD i 0≤IntKind.i64.wrap (p-1)
   . exact .inl ⟨h,fun k=>by rw[E,if_neg (by rw[decide_eq_true h];simp)]⟩
   . exact .inr ⟨h,fun k=>by rw[E,if_pos (by rw[decide_eq_false h];rfl)]⟩) ((Ev.const _).succ fun k=>by rw[Ag7.l2_eq,if_neg (by simp)]) 0 (Nat.zero_le _)
 refine⟨v,Ag7.of _ _ _ (hv.of_eq fun k=>rfl),hv'.trans ?_⟩;rw[allIn_iff];simp only[beq_iff_eq];exact⟨fun⟨h1,h2⟩=>⟨h1,fun i hi=>h2 i (Nat.zero_le _) hi⟩,fun⟨h1,h2⟩=>⟨h1,fun i _ hi=>h2 i hi⟩⟩
theorem Aq0.val (m:MatV) (hn:m.2.2.2.length<4611686018427387904):∃ v,Aq0.F (m,())=some ((v,()),())/\(v=true↔MatOk m):=by
 obtain⟨p,r,c,xs⟩:=m;obtain⟨v1,h1,h1'⟩:=Ai3.val p;rw[Aq0.eq,Aq0.T,Aj5.eq,Aj5.T,h1];simp only[Option.bind_some,Aa7.val];unfold MatOk;cases v1 with
 | false=>exact⟨false,by rw[if_neg (by simp)],by simp;intro h;exact absurd (h1'.2 h) (by simp)⟩
 | true =>
   have hp:=h1'.1 rfl;have hpr:=hp.1;by_cases hr:0≤r/\r≤32
   . by_cases hc:0≤c/\c≤32
     . have hm:=A4X hr hc;obtain⟨v2,h2,h2'⟩:=Ag7.val xs (IntKind.i64.wrap (r*c)) p hn;rw[A0B (x:=r*c) (by omega) (by omega),A0B (x:=p-1) (by omega) (by omega)]at h2';refine⟨v2,by rw[if_pos rfl,if_pos (by simp only[decide_eq_true_eq];exact hr),if_pos (by simp only[decide_eq_true_eq];exact hc),h2];rfl,h2'.trans ?_⟩;exact⟨fun h=>⟨hp,hr,hc,h.1,h.2⟩,fun h=>⟨h.2.2.2.1,h.2.2.2.2⟩⟩
     . exact⟨false,by rw[if_pos rfl,if_pos (by simp only[decide_eq_true_eq];exact hr),if_neg (by simp only[decide_eq_true_eq];exact hc)],by simp only[Bool.false_eq_true,false_iff];exact fun h=>hc h.2.2.1⟩
   . exact⟨false,by rw[if_pos rfl,if_neg (by simp only[decide_eq_true_eq];exact hr)],by simp only[Bool.false_eq_true,false_iff];exact fun h=>hr h.2.1⟩
theorem Ao1.val (m:MatV) (hn:m.2.2.2.length<4611686018427387904):∃ v,Ao1.F (m,())=some ((v,()),())/\(v=true↔MatOk m):=by
 obtain⟨p,r,c,xs⟩:=m;obtain⟨v1,h1,h1'⟩:=Af0.val p;rw[Ao1.eq,Ao1.T,h1,Ao7.eq,Ao7.T,Ao7.eq,Ao7.T,Ab4.eq,Ab4.T];simp only[Option.bind_some,Ab5.val];unfold MatOk;cases v1 with
 | false=>exact⟨false,by rw[if_neg (by simp)],by simp;intro h;exact absurd (h1'.2 h) (by simp)⟩
 | true =>
   have hp:=h1'.1 rfl;have hpr:=hp.1;by_cases hr:0≤r/\r≤32
   . by_cases hc:0≤c/\c≤32
     . have hm:=A4X hr hc;obtain⟨v2,h2,h2'⟩:=Ah5.val xs p hn;rw[A0B (x:=p-1) (by omega) (by omega)]at h2';rw[if_pos rfl,if_pos (by simp only[decide_eq_true_eq];exact hr),if_pos (by simp only[decide_eq_true_eq];exact hc),A0B (x:=r*c) (by omega) (by omega)];by_cases hl:(xs.length:Int)=r*c
       . exact⟨v2,by rw[if_pos (by simp only[beq_iff_eq];exact hl),h2];rfl,h2'.trans ⟨fun h=>⟨hp,hr,hc,hl,h⟩,fun h=>h.2.2.2.2⟩⟩
       . exact⟨false,by rw[if_neg (by simp only[beq_iff_eq];exact hl)],by simp only[Bool.false_eq_true,false_iff];exact fun h=>hl h.2.2.2.1⟩
     . exact⟨false,by rw[if_pos rfl,if_pos (by simp only[decide_eq_true_eq];exact hr),if_neg (by simp only[decide_eq_true_eq];exact hc)],by simp only[Bool.false_eq_true,false_iff];exact fun h=>hc h.2.2.1⟩
   . exact⟨false,by rw[if_pos rfl,if_neg (by simp only[decide_eq_true_eq];exact hr)],by simp only[Bool.false_eq_true,false_iff];exact fun h=>hr h.2.1⟩
def A0p (R C:Nat) (g:Nat->Nat->Int):List Int:=(List.range R).flatMap fun i=>(List.range C).map (g i)
theorem A1m (R C:Nat) (g:Nat->Nat->Int):A0p (R+1) C g=A0p R C g++(List.range C).map (g R):=by simp[A0p,List.range_succ]
theorem A0K (R C:Nat) (g:Nat->Nat->Int):(A0p R C g).length=R*C:=by
 induction R with
 | zero=>simp[A0p]
 | succ R ih=>rw[A1m,List.length_append,ih,List.length_map,List.length_range,Nat.add_mul,Nat.one_mul]
theorem A2W (R C:Nat) (g:Nat->Nat->Int) {i j:Nat} (hi:i<R) (hj:j<C):(A0p R C g).getD (i*C+j) 0=g i j:=by
 induction R with
 | zero=>omega
 | succ R ih =>
   rw[A1m];by_cases h:i<R
   . have hlt:i*C+j<(A0p R C g).length:=by
       rw[A0K];have:=Nat.mul_le_mul_right C (show i+1≤R by omega);rw[Nat.add_mul,Nat.one_mul]at this;omega
     rw[List.getD_eq_getElem?_getD,List.getElem?_append_left hlt,<-List.getD_eq_getElem?_getD];exact ih h
   . obtain rfl:i=R:=by omega
     rw[List.getD_eq_getElem?_getD,List.getElem?_append_right (by rw[A0K];omega),A0K,show i*C+j-i*C=j by omega,List.getElem?_map,List.getElem?_range hj];rfl
theorem A4U (R C:Nat) (g:Nat->Nat->Int) (hR:R≤32) (hC:C≤32):(A0p R C g).length≤1024:=by
 rw[A0K];exact Nat.mul_le_mul hR hC
theorem Ab8.val (p:Int) (R C:Nat) (f:Int×Int×Unit->Option (Int×Unit)) (g:Nat->Nat->Int) (hR:R≤32) (hC:C≤32) (hf:∀ i j,i<R->j<C->f ((i:Int),(j:Int),())=some (g i j,())) :
   Ab8.F (p,(R:Int),(C:Int),f,())=some (((p,(R:Int),(C:Int),A0p R C g),()),()):=by
 refine Ab8.of _ _ _ _ ?_;obtain⟨s,hs,hg⟩:=Goes.loop (R:=((MatV×Unit)×Unit)) (fun k i (s:List Int)=>Ab8.l3 k (C:Int) f (R:Int) (i:Int) 0 0 0 [] p (R:Int) (C:Int) s) R (fun i s=>s=A0p i C g) (fun i s hi h2=>by
   refine⟨_,rfl,(Goes.succ fun k=>by rw[Ab8.l3_eq,if_pos (ltI.2 hi)]).trans ?_⟩;obtain⟨s2,hs2,hg2⟩:=Goes.loop (R:=((MatV×Unit)×Unit)) (fun k j (x:List Int)=>Ab8.l6 k (C:Int) f (i:Int) (R:Int) (i:Int) (C:Int) (j:Int) 0 0 0 [] p (R:Int) (C:Int) x) C (fun j x=>x=A0p i C g++(List.range j).map (g i)) (fun j x hj h3=>⟨_,rfl,Goes.succ fun k=>by
     rw[Ab8.l6_eq,if_pos (ltI.2 hj),hf i j hi hj];simp only[Option.bind_some];have:=A4U i C g (by omega) hC;rw[if_pos (by rw[h3];simp only[List.length_append,List.length_map,List.length_range,List.length_cons,List.length_nil,bigA];omega),A0x (by omega),h3,List.range_succ,List.map_append,List.append_assoc];rfl⟩) 0 s (Nat.zero_le _) (by simp[h2])
   refine hg2.trans (Goes.succ fun k=>?_);rw[Ab8.l6_eq,if_neg (by simp),A0x (by omega),hs2,A1m]) 0 [] (Nat.zero_le _) rfl
 refine Ev.of_eq (hg _ ((Ev.const _).succ fun k=>?_)) fun k=>rfl;rw[Ab8.l3_eq,if_neg (by simp),hs]
def A1f (m:MatV):MatV:=(m.1,m.2.2.1,m.2.1,A0p m.2.2.1.toNat m.2.1.toNat fun i j=>m.2.2.2.getD (j*m.2.2.1.toNat+i) 0)
theorem A0o {r c i j:Nat} (hr:r≤32) (hc:c≤32) (hi:i<r) (hj:j<c):IntKind.i64.wrap (IntKind.i64.wrap ((i:Int)*(c:Int))+(j:Int))=((i*c+j:Nat):Int)/\i*c+j<r*c:=by
 have h1:i*c≤32*32:=Nat.mul_le_mul (by omega) hc;have e:(i:Int)*(c:Int)=((i*c:Nat):Int):=by simp
 have h2:=Nat.mul_le_mul_right c (show i+1≤r by omega);rw[Nat.add_mul,Nat.one_mul]at h2;refine⟨?_,by omega⟩;rw[e,A0B (x:=((i*c:Nat):Int)) (by omega) (by omega),A0B (by omega) (by omega)];omega
theorem Ao9.val (m:MatV) (h:MatOk m):Ao9.F (m,())=some ((A1f m,()),()):=by
 obtain⟨p,r,c,xs⟩:=m;obtain⟨-,hr,hc,hl,-⟩:=h;obtain⟨r,rfl⟩:=Int.eq_ofNat_of_zero_le hr.1;obtain⟨c,rfl⟩:=Int.eq_ofNat_of_zero_le hc.1;have hl':xs.length=r*c:=by
   have e:(r:Int)*(c:Int)=((r*c:Nat):Int):=by simp
   have hl2:(xs.length:Int)=(r:Int)*(c:Int):=hl;omega
 have hr':r≤32:=by have:=hr.2;simp only[]at this;omega
 have hc':c≤32:=by have:=hc.2;simp only[]at this;omega
 rw[Ao9.eq,Ao9.T,Ab8.val p c r _ (fun i j=>xs.getD (j*c+i) 0) hc' hr' (fun i j hi hj=>by
   show(As2.F ((i:Int),(j:Int),(p,(r:Int),(c:Int),xs),())).map (·.1)=_;obtain⟨e1,e2⟩:=A0o hr' hc' hj hi;rw[As2.eq,As2.T,Ai9.eq,Ai9.T,e1,if_pos (by omega)];simp only[Option.bind_some,Int.toNat_natCast];rfl)]
 rfl
theorem A4f {m:MatV} (h:MatOk m):MatOk (A1f m):=by
 obtain⟨p,r,c,xs⟩:=m;obtain⟨hp,hr,hc,hl,ha⟩:=h;obtain⟨r,rfl⟩:=Int.eq_ofNat_of_zero_le hr.1;obtain⟨c,rfl⟩:=Int.eq_ofNat_of_zero_le hc.1;refine⟨hp,hc,hr,?_,?_⟩
 . show((A0p c r _).length:Int)=(c:Int)*(r:Int);rw[A0K];simp
 . intro a ham;simp only[A1f,A0p,List.mem_flatMap,List.mem_map,List.mem_range,Int.toNat_natCast]at ham;obtain⟨i,hi,j,hj,rfl⟩:=ham;have hr':r≤32:=by have:=hr.2;simp only[]at this;omega
   have hc':c≤32:=by have:=hc.2;simp only[]at this;omega
   obtain⟨-,e2⟩:=A0o hr' hc' hj hi;have hl2:(xs.length:Int)=(r:Int)*(c:Int):=hl;have e:(r:Int)*(c:Int)=((r*c:Nat):Int):=by simp
   have hl3:xs.length=r*c:=by rw[e]at hl2;exact Int.ofNat_inj.1 hl2
   exact ha _ (A0z 0 (by rw[hl3];exact e2))
theorem A2o {R C:Nat} {g:Nat->Nat->Int} {ys:List Int} (hl:ys.length=R*C) (h:∀ i j,i<R->j<C->ys.getD (i*C+j) 0=g i j):ys=A0p R C g:=by
 refine List.ext_getElem (by rw[hl,A0K]) fun n h1 h2=>?_;rw[<-A0y (d:=0) h1,<-A0y (d:=0) h2];by_cases hC:C=0
 . subst hC;rw[hl]at h1;omega
 have hn:n<R*C:=by omega
 have hi:n/C<R:=Nat.div_lt_of_lt_mul (by rw[Nat.mul_comm];exact hn);have hj:n%C<C:=Nat.mod_lt _ (by omega);have e:n/C*C+n%C=n:=by rw[Nat.mul_comm];exact Nat.div_add_mod n C
 rw[<-e,h _ _ hi hj,A2W _ _ _ hi hj]
def sumN (f:Nat->Int):Nat->Int
 | 0=>0
 | n+1=>sumN f n+f n
theorem A4K {f:Nat->Int} {n:Nat} {B:Nat} (h:∀ k,k<n->0≤f k/\f k≤(B:Int)):0≤sumN f n/\sumN f n≤((n*B:Nat):Int):=by
 induction n with
 | zero=>simp[sumN]
 | succ n ih =>
   have h1:=ih fun k hk=>h k (by omega);have h2:=h n (by omega);rw[Nat.add_mul,Nat.one_mul];simp only[sumN];omega
theorem A1r {f g:Nat->Int} {n:Nat} (h:∀ k,k<n->f k=g k):sumN f n=sumN g n:=by
 induction n with
 | zero=>rfl
 | succ n ih=>simp only[sumN];rw[ih fun k hk=>h k (by omega),h n (by omega)]
theorem A1t {p a b:Int} (hp:2≤p/\p≤251) (ha:0≤a/\a≤p-1) (hb:0≤b/\b≤p-1):0≤a*b/\a*b≤((62500:Nat):Int):=by
 obtain⟨a,rfl⟩:=Int.eq_ofNat_of_zero_le ha.1;obtain⟨b,rfl⟩:=Int.eq_ofNat_of_zero_le hb.1;have:a*b≤250*250:=Nat.mul_le_mul (by omega) (by omega);have e:(a:Int)*(b:Int)=((a*b:Nat):Int):=by simp
 omega
theorem A2Q {a p:Int} (h:0≤a):a.tmod p=a%p:=Int.tmod_eq_emod_of_nonneg h
theorem A3R {a p:Int} (hp:2≤p):0≤a%p/\a%p≤p-1:=by
 have h1:=Int.emod_nonneg a (show p≠0 by omega);have h2:=Int.emod_lt_of_pos a (show 0<p by omega);omega
theorem A0A {lo hi:Int} {xs:List Int} (h:A0Q lo hi xs) {i:Nat} (hi':i<xs.length):lo≤xs.getD i 0/\xs.getD i 0≤hi:=allIn_iff.1 h i hi'
def dotE (xs ys:List Int) (k:Nat):Int:=xs.getD k 0*ys.getD k 0
theorem Af9.val (xs ys:List Int) (p:Int) (hp:2≤p/\p≤251) (hx:A0Q 0 (p-1) xs) (hy:A0Q 0 (p-1) ys) (hl:xs.length≤ys.length) (hn:xs.length≤1048576) :
   Af9.F (xs,ys,p,())=some ((sumN (dotE xs ys) xs.length%p,()),()):=by
 refine Af9.of _ _ _ ?_;obtain⟨s,hs,hg⟩:=Goes.loop (R:=((Int×Unit)×Unit)) (fun k i (s:Int)=>Af9.l3 k xs ys p s (xs.length:Int) (i:Int)) xs.length (fun i s=>s=sumN (dotE xs ys) i%p) (fun i s hi h2=>⟨_,rfl,Goes.succ fun k=>by
   have hm:=A1t hp (A0A hx hi) (A0A hy (show i<ys.length by omega));have hme:=A3R (a:=sumN (dotE xs ys) i) hp.1;rw[Af9.l3_eq,if_pos (ltI.2 hi),if_pos (idxI.2 hi),if_pos (idxI.2 (show i<ys.length by omega)),if_neg (by omega),A0x (by omega),h2];simp only[Int.toNat_natCast];rw[A0B (x:=xs.getD i 0*ys.getD i 0) (by omega) (by omega),A0B (by omega) (by omega),A2Q (by omega),Int.emod_add_emod];rfl⟩) 0 0 (Nat.zero_le _) (by simp[sumN])
 refine Ev.of_eq (hg _ ((Ev.const _).succ fun k=>?_)) fun k=>rfl;rw[Af9.l3_eq,if_neg (by simp),hs]
theorem Goes.fillSet {R:Type} (L3:Nat->Nat->List Int->Option R) (L6:Nat->Nat->Nat->List Int->Option R) (M N Z:Nat) (g:Nat->Nat->Int) (pos:Nat->Nat->Nat)
   (hpos:∀ i j,i<M->j<N->pos i j<Z) (inj:∀ i j i' j',i<M->j<N->i'<M->j'<N->pos i j=pos i' j'->i=i'/\j=j')
   (hin:∀ i x,i<M->x.length=Z->Goes (fun k=>L3 k i x) (fun k=>L6 k i 0 x))
   (hstep:∀ i j x,i<M->j<N->x.length=Z->Goes (fun k=>L6 k i j x) (fun k=>L6 k i (j+1) (x.set (pos i j) (g i j))))
   (hout:∀ i x,i<M->x.length=Z->Goes (fun k=>L6 k i N x) (fun k=>L3 k (i+1) x)) (x0:List Int) (h0:x0.length=Z) :
   ∃ y,y.length=Z/\(∀ i j,i<M->j<N->y.getD (pos i j) 0=g i j)/\(∀ q,(∀ i j,i<M->j<N->pos i j≠q)->y.getD q 0=x0.getD q 0)/\Goes (fun k=>L3 k 0 x0) (fun k=>L3 k M y):=by
 have gs:∀ (l:List Int) (q:Nat) (v:Int) (s:Nat),q<l.length->(l.set q v).getD s 0=if s=q then v else l.getD s 0:=fun l q v s hq=>by
   simp only[List.getD_eq_getElem?_getD,List.getElem?_set];by_cases hqs:q=s
   . subst hqs;simp[hq]
   . simp[hqs,Ne.symm hqs]
 obtain⟨y,⟨h1,h2,h3⟩,hg⟩:=Goes.loop (R:=R) (fun k i x=>L3 k i x) M (fun i x=>x.length=Z/\(∀ a b,a<i->b<N->x.getD (pos a b) 0=g a b)/\∀ q,(∀ a b,a<M->b<N->pos a b≠q)->x.getD q 0=x0.getD q 0) (fun i x hi ⟨h1,h2,h3⟩=>by
   obtain⟨x',⟨h4,h5,h6,h7⟩,hg2⟩:=Goes.loop (R:=R) (fun k j x=>L6 k i j x) N (fun j x=>x.length=Z/\(∀ a b,a<i->b<N->x.getD (pos a b) 0=g a b)/\(∀ b,b<j->x.getD (pos i b) 0=g i b)/\∀ q,(∀ a b,a<M->b<N->pos a b≠q)->x.getD q 0=x0.getD q 0) (fun j x hj ⟨k1,k2,k3,k4⟩=>by
     have hp:=hpos i j hi hj;refine⟨_,⟨by simp[k1],fun a b ha hb=>?_,fun b hb=>?_,fun q hq=>?_⟩,hstep i j x hi hj k1⟩
     . rw[gs _ _ _ _ (by omega),if_neg (fun he=>by have:=(inj _ _ _ _ (by omega) hb hi hj he).1;omega)];exact k2 a b ha hb
     . rw[gs _ _ _ _ (by omega)];by_cases hbj:b=j
       . rw[if_pos (by rw[hbj]),hbj]
       . rw[if_neg (fun he=>hbj (inj _ _ _ _ hi (by omega) hi hj he).2)];exact k3 b (by omega)
     . rw[gs _ _ _ _ (by omega),if_neg (fun he=>hq i j hi hj he.symm)];exact k4 q hq) 0 x (Nat.zero_le _) ⟨h1,h2,fun b hb=>by omega,h3⟩
   refine⟨x',⟨h4,fun a b ha hb=>?_,h7⟩,((hin i x hi h1).trans hg2).trans (hout i x' hi h4)⟩;by_cases hai:a=i
   . rw[hai];exact h6 b hb
   . exact h5 a b (by omega) hb) 0 x0 (Nat.zero_le _) ⟨h0,fun a b ha=>by omega,fun _ _=>rfl⟩
 exact⟨y,h1,h2,h3,hg⟩
theorem rowInj {C:Nat} (a b a' b':Nat) (hb:b<C) (hb':b'<C) (he:a*C+b=a'*C+b'):a=a'/\b=b':=by
 have h1:(a*C+b)/C=a:=by rw[Nat.mul_comm,Nat.mul_add_div (by omega),Nat.div_eq_of_lt hb];omega
 have h2:(a'*C+b')/C=a':=by rw[Nat.mul_comm,Nat.mul_add_div (by omega),Nat.div_eq_of_lt hb'];omega
 have h3:a=a':=by rw[<-h1,<-h2,he]
 subst h3;exact⟨rfl,by omega⟩
theorem A3G {R C i j:Nat} (hi:i<R) (hj:j<C):i*C+j<R*C:=by
 have h2:=Nat.mul_le_mul_right C (show i+1≤R by omega);rw[Nat.add_mul,Nat.one_mul]at h2;omega
theorem MatOk.nat {m:MatV} (h:MatOk m):∃ R C:Nat,m.2.1=(R:Int)/\m.2.2.1=(C:Int)/\R≤32/\C≤32/\m.2.2.2.length=R*C/\(2≤m.1/\m.1≤251)/\A0Q 0 (m.1-1) m.2.2.2:=by
 obtain⟨p,r,c,xs⟩:=m;obtain⟨hp,hr,hc,hl,ha⟩:=h;obtain⟨r,rfl⟩:=Int.eq_ofNat_of_zero_le hr.1;obtain⟨c,rfl⟩:=Int.eq_ofNat_of_zero_le hc.1;have hl2:(xs.length:Int)=(r:Int)*(c:Int):=hl;have e:(r:Int)*(c:Int)=((r*c:Nat):Int):=by simp
 have hr2:(r:Int)≤32:=hr.2;have hc2:(c:Int)≤32:=hc.2;exact⟨r,c,rfl,rfl,by omega,by omega,by rw[e]at hl2;exact Int.ofNat_inj.1 hl2,hp.1,ha⟩
def rowL (xs:List Int) (C i:Nat):List Int:=(xs.take ((i+1)*C)).drop (i*C)
theorem A0Y {xs:List Int} {R C i:Nat} (hl:xs.length=R*C) (hi:i<R):(rowL xs C i).length=C:=by
 have h2:=Nat.mul_le_mul_right C (show i+1≤R by omega);have e:(i+1)*C=i*C+C:=by rw[Nat.add_mul,Nat.one_mul]
 simp only[rowL,List.length_drop,List.length_take];omega
theorem A1H {xs:List Int} {C i k:Nat} (hk:k<C):(rowL xs C i).getD k 0=xs.getD (i*C+k) 0:=by
 have e:(i+1)*C=i*C+C:=by rw[Nat.add_mul,Nat.one_mul]
 simp only[rowL,List.getD_eq_getElem?_getD,List.getElem?_drop,List.getElem?_take];rw[if_pos (by omega)]
theorem A2B {xs:List Int} {C i:Nat} {x:Int} (h:x∈rowL xs C i):x∈xs:=List.mem_of_mem_take (List.mem_of_mem_drop h)
theorem rowWrap {R C i:Nat} (hR:R≤4096) (hC:C≤1024) (hi:i<R):IntKind.i64.wrap ((i:Int)*(C:Int))=((i*C:Nat):Int)/\IntKind.i64.wrap ((IntKind.i64.wrap ((i:Int)+1))*(C:Int))=(((i+1)*C:Nat):Int)/\i*C≤(i+1)*C/\(i+1)*C≤R*C:=by
 have h1:(i+1)*C≤4096*1024:=Nat.mul_le_mul (by omega) hC;have h0:i*C≤(i+1)*C:=Nat.mul_le_mul_right C (by omega);have e:(i:Int)*(C:Int)=((i*C:Nat):Int):=by simp
 have e2:((i+1:Nat):Int)*(C:Int)=(((i+1)*C:Nat):Int):=by simp
 refine⟨?_,?_,h0,Nat.mul_le_mul_right C (by omega)⟩
 . rw[e,A0B (by omega) (by omega)]
 . rw[A0x (by omega),e2,A0B (by omega) (by omega)]
theorem Ae6.val (p:Int) (R C:Nat) (xs:List Int) (hR:R≤4096) (hC:C≤1024) (hl:xs.length=R*C) (i:Nat) (hi:i<R) (r:Int):Ae6.F ((p,r,(C:Int),xs),(i:Int),())=some ((rowL xs C i,()),()):=by
 obtain⟨e1,e2,e3,e4⟩:=rowWrap hR hC hi;rw[Ae6.eq,Ae6.T,e1,e2,if_pos (by omega)];simp only[cutL,Int.toNat_natCast,rowL]
def A3S (xs:List Int) (R C:Nat):List (List Int):=(List.range R).map (rowL xs C)
theorem Al8.val (p:Int) (R C:Nat) (xs:List Int) (hR:R≤4096) (hC:C≤1024) (hl:xs.length=R*C):Al8.F ((p,(R:Int),(C:Int),xs),())=some ((A3S xs R C,()),()):=by
 refine Al8.of _ _ _ _ ?_;obtain⟨s,hs,hg⟩:=Goes.loop (R:=((List (List Int)×Unit)×Unit)) (fun k i (s:List (List Int))=>Al8.l3 k (R:Int) (i:Int) p (R:Int) (C:Int) xs s) R (fun i s=>s=(List.range i).map (rowL xs C)) (fun i s hi h2=>⟨_,rfl,Goes.succ fun k=>by
   have hrl:=A0Y hl hi;rw[Al8.l3_eq,if_pos (ltI.2 hi),Ae6.val p R C xs hR hC hl i hi];simp only[Option.bind_some];rw[Ab9.val _ (by omega)];simp only[Option.bind_some];rw[if_pos (by rw[h2];simp only[List.length_map,List.length_range,List.length_cons,List.length_nil,bigA];omega),A0x (by omega),h2,List.range_succ,List.map_append];rfl⟩) 0 [] (Nat.zero_le _) rfl
 refine Ev.of_eq (hg _ ((Ev.const _).succ fun k=>?_)) fun k=>rfl;rw[Al8.l3_eq,if_neg (by simp),hs];rfl
theorem A3t (xs:List Int) {R C i:Nat} (hi:i<R):(A3S xs R C).getD i []=rowL xs C i:=by
 simp[A3S,List.getD_eq_getElem?_getD,hi]
theorem A3H (xs:List Int) (R C:Nat):(A3S xs R C).length=R:=by simp[A3S]
def mulM (a b:MatV):MatV:=(a.1,a.2.1,b.2.2.1,A0p a.2.1.toNat b.2.2.1.toNat fun i j=>sumN (fun k=>a.2.2.2.getD (i*a.2.2.1.toNat+k) 0*b.2.2.2.getD (k*b.2.2.1.toNat+j) 0) a.2.2.1.toNat%a.1)
theorem A4q {a b:MatV} (ha:MatOk a) (hb:MatOk b):MatOk (mulM a b):=by
 obtain⟨R,C,h1,h2,h3,h4,h5,h6,h7⟩:=ha.nat;obtain⟨R',C',k1,k2,k3,k4,k5,k6,k7⟩:=hb.nat;refine⟨ha.1,ha.2.1,hb.2.2.1,?_,fun x hx=>?_⟩
 . simp only[mulM,A0K,h1,k2,Int.toNat_natCast];simp
 . simp only[mulM,A0p,List.mem_flatMap,List.mem_map]at hx;obtain⟨i,_,j,_,rfl⟩:=hx;exact A3R h6.1
theorem Ao5.val (p:Int) (R C:Nat) (xs:List Int) (hm:MatOk (p,(R:Int),(C:Int),xs)):Ao5.F ((p,(R:Int),(C:Int),xs),())=some ((A3S (A1f (p,(R:Int),(C:Int),xs)).2.2.2 C R,()),()):=by
 have hR:(R:Int)≤32:=hm.2.1.2;have hC:(C:Int)≤32:=hm.2.2.1.2;have ht:=Ao9.val _ hm;rw[Ao5.eq,Ao5.T,ht];simp only[Option.bind_some];have:=Al8.val p C R (A1f (p,(R:Int),(C:Int),xs)).2.2.2 (by omega) (by omega) (by simp only[A1f,A0K,Int.toNat_natCast]);rw[show A1f (p,(R:Int),(C:Int),xs)=(p,(C:Int),(R:Int),(A1f (p,(R:Int),(C:Int),xs)).2.2.2)from rfl,this];rfl
theorem A4M (p:Int) (R C:Nat) (xs:List Int) {i j:Nat} (hi:i<C) (hj:j<R):(A1f (p,(R:Int),(C:Int),xs)).2.2.2.getD (i*R+j) 0=xs.getD (j*C+i) 0:=by
 simp only[A1f,Int.toNat_natCast];rw[A2W _ _ _ hi hj]
theorem Ag0.val (a b:MatV) (ha:MatOk a) (hb:MatOk b) (hp:a.1=b.1) (hs:a.2.2.1=b.2.1):Ag0.F (a,b,())=some ((mulM a b,()),()):=by
 obtain⟨R,C,h1,h2,h3,h4,h5,h6,h7⟩:=ha.nat;obtain⟨R',C',k1,k2,k3,k4,k5,k6,k7⟩:=hb.nat;obtain⟨p,r,c,xs⟩:=a;obtain⟨q,r',c',ys⟩:=b;simp only[]at h1 h2 h5 h6 h7 k1 k2 k5 k6 k7 hp hs;subst h1 h2 k1 k2 hp;obtain rfl:C=R':=by omega
 have htk:=A4f hb;have hal:A0Q 0 (p-1) (A1f (p,(C:Int),(C':Int),ys)).2.2.2:=htk.2.2.2.2;rw[Ag0.eq,Ag0.T,Ao5.val p C C' ys hb];simp only[Option.bind_some];rw[Ab8.val p R C' _ (fun i j=>sumN (fun k=>xs.getD (i*C+k) 0*ys.getD (k*C'+j) 0) C%p) h3 k4 (fun i j hi hj=>by
   show(As0.F ((i:Int),(j:Int),(p,(R:Int),(C:Int),xs),A3S (A1f (p,(C:Int),(C':Int),ys)).2.2.2 C' C,())).map (·.1)=_;have l1:=A0Y h5 hi;have l2:(rowL (A1f (p,(C:Int),(C':Int),ys)).2.2.2 C j).length=C:=A0Y (R:=C') (by simp only[A1f,A0K,Int.toNat_natCast]) hj;rw[As0.eq,As0.T,Ae6.val p R C xs (by omega) (by omega) h5 i hi];simp only[Option.bind_some,Int.toNat_natCast];rw[if_pos (by rw[A3H];omega),A3t _ hj,Af9.val _ _ p h6 (fun x hx=>h7 x (A2B hx)) (fun x hx=>hal x (A2B hx)) (by omega) (by omega)];simp only[Option.bind_some,Option.map_some,l1];congr 3;refine A1r fun k hk=>?_;rw[dotE,A1H hk,A1H hk,A4M p C C' ys hj hk])]
 simp only[Option.bind_some,mulM,Int.toNat_natCast]
theorem Ad5.val (p:Int) (R C:Nat) (hR:R≤1024) (hC:C≤1024):Ad5.F (p,(R:Int),(C:Int),())=some (((p,(R:Int),(C:Int),List.replicate (R*C) 0),()),()):=by
 have h1:R*C≤1024*1024:=Nat.mul_le_mul hR hC;have e:(R:Int)*(C:Int)=((R*C:Nat):Int):=by simp
 rw[Ad5.eq,Ad5.T,e,A0B (by omega) (by omega),if_pos (by simp only[bigN];omega)];simp only[Int.toNat_natCast]
theorem Ad2.val (a b:MatV) (ha:MatOk a) (hb:MatOk b) (hp:a.1=b.1) (hs:a.2.2.1=b.2.1):Ad2.F (a,b,())=some ((mulM a b,()),()):=by
 obtain⟨R,C,h1,h2,h3,h4,h5,h6,h7⟩:=ha.nat;obtain⟨R',C',k1,k2,k3,k4,k5,k6,k7⟩:=hb.nat;obtain⟨p,r,c,xs⟩:=a;obtain⟨q,r',c',ys⟩:=b;simp only[]at h1 h2 h5 h6 h7 k1 k2 k5 k6 k7 hp hs;subst h1 h2 k1 k2 hp;obtain rfl:C=R':=by omega
 obtain⟨f,hf⟩:∃ f:Nat->Nat->Nat->Int,f=fun i j k=>xs.getD (i*C+k) 0*ys.getD (k*C'+j) 0:=⟨_,rfl⟩;have hfb:∀ i j k,i<R->j<C'->k<C->0≤f i j k/\f i j k≤((62500:Nat):Int):=fun i j k hi hj hk=>by
   rw[hf];have e1:=A3G hi hk;have e2:=A3G hk hj;exact A1t h6 (A0A h7 (by omega)) (A0A k7 (by omega))
 have hsb:∀ i j n,i<R->j<C'->n≤C->0≤sumN (f i j) n/\sumN (f i j) n≤2000000:=fun i j n hi hj hn=>by
   have:=A4K (f:=f i j) (n:=n) fun k hk=>hfb i j k hi hj (by omega);omega
 obtain⟨y,hy1,hy2,-,hg⟩:=Goes.fillSet (R:=((MatV×Unit)×Unit)) (fun k i x=>Ad2.l3 k p (R:Int) (C:Int) xs p (C:Int) (C':Int) ys (i:Int) 0 0 0 [] p (R:Int) (C':Int) x)
   (fun k i j x=>Ad2.l6 k p (R:Int) (C:Int) xs p (C:Int) (C':Int) ys (i:Int) (j:Int) 0 0 0 [] p (R:Int) (C':Int) x) R C' (R*C') (fun i j=>sumN (f i j) C%p) (fun i j=>i*C'+j)
   (fun i j hi hj=>A3G hi hj) (fun i j i' j' _ hj _ hj' he=>rowInj _ _ _ _ hj hj' he)
   (fun i x hi hx=>Goes.succ fun k=>by rw[Ad2.l3_eq,if_pos (ltI.2 hi)];rfl)
   (fun i j x hi hj hx=>by
     refine(Goes.succ fun k=>by rw[Ad2.l6_eq,if_pos (ltI.2 hj)]).trans ?_;obtain⟨s,hs,hg⟩:=Goes.loop (R:=((MatV×Unit)×Unit)) (fun n k (s:Int)=>Ad2.l10 n p (R:Int) (C:Int) xs p (C:Int) (C':Int) ys (i:Int) (j:Int) s (k:Int) 0 0 0 [] p (R:Int) (C':Int) x) C (fun k s=>s=sumN (f i j) k) (fun k s hk h8=>⟨_,rfl,Goes.succ fun n=>by
       obtain⟨e1,e2⟩:=A0o h3 h4 hi hk;obtain⟨e3,e4⟩:=A0o h4 k4 hk hj;have b1:=hfb i j k hi hj hk;have b2:=hsb i j k hi hj (by omega);rw[Ad2.l10_eq,if_pos (ltI.2 hk),e1,if_pos (by omega),e3,if_pos (by omega),A0x (by omega),h8];simp only[Int.toNat_natCast];have ef:xs.getD (i*C+k) 0*ys.getD (k*C'+j) 0=f i j k:=by rw[hf]
       rw[ef,A0B (x:=f i j k) (by omega) (by omega),A0B (by omega) (by omega)];rfl⟩) 0 0 (Nat.zero_le _) rfl
     refine hg.trans (Goes.succ fun n=>?_);obtain⟨e5,e6⟩:=A0o h3 k4 hi hj;have b2:=hsb i j C hi hj (Nat.le_refl _);rw[Ad2.l10_eq,if_neg (by simp),if_neg (by omega),e5,if_pos (by omega),A0x (by omega),hs,A2Q b2.1];simp only[Int.toNat_natCast])
   (fun i x hi hx=>Goes.succ fun k=>by rw[Ad2.l6_eq,if_neg (by simp),A0x (by omega)]) (List.replicate (R*C') 0) (by simp)
 have hy:y=A0p R C' fun i j=>sumN (fun k=>xs.getD (i*C+k) 0*ys.getD (k*C'+j) 0) C%p:=A2o hy1 fun i j hi hj=>by rw[hy2 i j hi hj,hf]
 refine Ad2.of _ _ _ _ _ _ _ _ (Ev.of_eq (hg _ ((Ev.const _).succ fun k=>?_)) fun k=>?_)
 . rw[Ad2.l3_eq,if_neg (by simp),hy];simp only[mulM,Int.toNat_natCast]
 . rw[Ad2.T,Ad5.val p R C' (by omega) (by omega)];rfl
def A2x (p:Int) (n:Nat):MatV:=(p,(n:Int),(n:Int),A0p n n fun i j=>if i=j then 1 else 0)
theorem Ap1.val (p:Int) (n:Nat) (hn:n≤3):Ap1.F (p,(n:Int),())=some ((A2x p n,()),()):=by
 rw[Ap1.eq,Ap1.T,Ab8.val p n n _ (fun i j=>if i=j then 1 else 0) (by omega) (by omega) (fun i j _ _=>?_)]
 . rfl
 . show(As3.F ((i:Int),(j:Int),())).map (·.1)=_;rw[As3.eq,As3.T];by_cases h:i=j
   . rw[if_pos (by simp[h]),if_pos h];rfl
   . rw[if_neg (by simp;omega),if_neg h];rfl
theorem Ak7.val (p:Int) (n:Nat) (hn:n≤3):Ak7.F (p,(n:Int),())=some ((A2x p n,()),()):=by
 have z:=Ad5.val p n n (by omega) (by omega);have hw:∀ i:Nat,i<n->IntKind.i64.wrap (IntKind.i64.wrap ((i:Int)*(n:Int))+(i:Int))=((i*n+i:Nat):Int):=fun i hi=>(A0o (r:=n) (c:=n) (by omega) (by omega) hi hi).1;refine Ak7.of _ _ ?_;obtain⟨s,⟨h1,h2⟩,hg⟩:=Goes.loop (R:=((MatV×Unit)×Unit)) (fun k i (s:List Int)=>Ak7.l3 k (n:Int) (i:Int) 0 0 0 [] p (n:Int) (n:Int) s) n (fun i s=>s.length=n*n/\∀ a b,a<n->b<n->s.getD (a*n+b) 0=if a=b/\a<i then 1 else 0) (fun i s hi ⟨h1,h2⟩=>by
   have hb:i*n+i<n*n:=(A0o (r:=n) (c:=n) (by omega) (by omega) hi hi).2;refine⟨s.set (i*n+i) 1,⟨by simp[h1],fun a b ha hb'=>?_⟩,Goes.succ fun k=>?_⟩
   . by_cases e:i*n+i=a*n+b
     . have hab:a=i/\b=i:=by
         have h3:(i*n+i)/n=i:=by rw[Nat.mul_comm,Nat.mul_add_div (by omega),Nat.div_eq_of_lt hi];rfl
         have h4:(a*n+b)/n=a:=by rw[Nat.mul_comm,Nat.mul_add_div (by omega),Nat.div_eq_of_lt hb'];rfl
         have:a=i:=by rw[<-h4,<-e,h3]
         subst this;exact⟨rfl,by omega⟩
       rw[<-e,List.getD_eq_getElem?_getD,List.getElem?_set_self (by omega),if_pos ⟨by omega,by omega⟩];rfl
     . rw[List.getD_eq_getElem?_getD,List.getElem?_set_ne e,<-List.getD_eq_getElem?_getD,h2 a b ha hb'];have:¬ (a=i/\b=i):=fun hh=>e (by rw[hh.1,hh.2]);by_cases q:a=b/\a<i
       . rw[if_pos q,if_pos ⟨q.1,by omega⟩]
       . rw[if_neg q,if_neg (by omega)]
   . rw[Ak7.l3_eq,if_pos (ltI.2 hi),hw i hi,if_pos (idxI.2 (by omega)),A0x (by omega)];rfl) 0 (List.replicate (n*n) 0) (Nat.zero_le _) ⟨by simp,fun a b ha hb=>by
     rw[if_neg (by omega),List.getD_eq_getElem?_getD];simp only[List.getElem?_replicate];split<;>rfl⟩
 refine Ev.of_eq (hg _ ((Ev.const _).succ fun k=>?_)) fun k=>?_
 . rw[Ak7.l3_eq,if_neg (by simp)];have:s=A0p n n fun i j=>if i=j then 1 else 0:=A2o h1 fun i j hi hj=>by
     rw[h2 i j hi hj];by_cases e:i=j
     . rw[if_pos ⟨e,hi⟩,if_pos e]
     . rw[if_neg (fun hh=>e hh.1),if_neg e]
   rw[this];rfl
 . rw[Ak7.T,z];rfl
theorem A4g {p:Int} (hp:A1P p) {n:Nat} (hn:n≤3):MatOk (A2x p n):=by
 refine⟨hp,⟨by simp[A2x],by simp[A2x];omega⟩,⟨by simp[A2x],by simp[A2x];omega⟩,by simp[A2x,A0K],fun x hx=>?_⟩;have h2:=hp.1.1;simp only[A2x,A0p,List.mem_flatMap,List.mem_map]at hx;obtain⟨i,-,j,-,rfl⟩:=hx;show 0≤_/\_≤p-1;split<;>omega
theorem st_nat' {st:List Int} (h:A0Q 0 3 st) (k:Nat):((st.getD k 0).toNat:Int)=st.getD k 0/\(st.getD k 0).toNat≤3:=by
 by_cases hk:k<st.length
 . have:=h _ (A0z 0 hk);omega
 . rw[List.getD_eq_getElem?_getD,List.getElem?_eq_none (by omega)];simp
def A3J (c:List (List Int)) (st:List Int):Prop:=st.length=c.length/\A0Q 0 3 st/\∀ k:Nat,k<4->sumL st (A0w c k c.length)≤32
theorem Ai6.val (c:List (List Int)) (st:List Int) (hn:c.length≤1048576) (hs:st.length≤1048576):∃ v,Ai6.F (c,st,())=some ((v,()),())/\(v=true↔A3J c st):=by
 obtain⟨v1,h1,h1'⟩:=Ag7.val st (c.length:Int) 4 (by omega);rw[A0B (x:=(4:Int)-1) (by omega) (by omega)]at h1';cases v1 with
 | false=>exact⟨false,Ai6.of _ _ ((Ev.const _).of_eq fun k=>by rw[Ai6.T,h1];rfl),by simp only[Bool.false_eq_true,false_iff];exact fun h=>absurd (h1'.2 ⟨by have:=h.1;omega,h.2.1⟩) (by simp)⟩
 | true =>
   obtain⟨hl,ha⟩:=h1'.1 rfl;obtain⟨v,hv,hv'⟩:=Ev.allP (L:=fun k i=>Ai6.l4 k c st (i:Int)) (a:=()) (b:=()) (n:=4) (fun i=>sumL st (A0w c i c.length)≤32) true (fun i hi=>by
     have E:=fun k=>Ai6.l4_eq k c st (i:Int);simp only[if_pos (show decide ((i:Int)≤3)=true by simp;omega),Ac0.val c st (i:Int) (by omega) hn (by omega),Option.bind_some,A0x (show i<4611686018427387904 by omega)]at E;by_cases h:sumL st (A0w c i c.length)≤32
     . exact .inl ⟨h,fun k=>by rw[E,if_neg (by simp only[decide_eq_true_eq];omega)]⟩
     . exact .inr ⟨h,fun k=>by rw[E,if_pos (by simp only[decide_eq_true_eq];omega)]⟩) ((Ev.const _).succ fun k=>by rw[Ai6.l4_eq,if_neg (by simp)]) 0 (Nat.zero_le _)
   exact⟨v,Ai6.of _ _ (hv.of_eq fun k=>by rw[Ai6.T,h1];rfl),hv'.trans ⟨fun⟨_,h⟩=>⟨by omega,ha,fun k hk=>h k (Nat.zero_le _) hk⟩,fun h=>⟨rfl,fun k _ hk=>h.2.2 k hk⟩⟩⟩
theorem Af8.val (c:List (List Int)) (st:List Int) (hn:c.length≤1048576) (hs:st.length≤1048576):∃ v,Af8.F (c,st,())=some ((v,()),())/\(v=true↔A3J c st):=by
 by_cases hl:st.length=c.length
 . have hcf:=Ad4.val st (Ar1.cloG (())) (fun a=>!decide (0≤a/\a≤3)) (fun a _=>by
     show(Ar1.F (a,())).map (·.1)=_;rw[Ar1.eq,Ar1.T,Ab5.val];rfl) (by omega)
   by_cases ha:A0Q 0 3 st
   . have hany:(st.any fun a=>!decide (0≤a/\a≤3))=false:=by
       simp only[List.any_eq_false];intro x hx;simp only[Bool.not_eq_true',decide_eq_false_iff_not,Classical.not_not];exact ha x hx
     obtain⟨v,hv,hv'⟩:=Ev.allP (L:=fun k i=>Af8.l4 k st (i:Int) c) (a:=()) (b:=()) (n:=4) (fun i=>sumL st (A0w c i c.length)≤32) true (fun i hi=>by
       have E:=fun k=>Af8.l4_eq k st (i:Int) c;simp only[if_pos (show decide ((i:Int)<4)=true by simp;omega),Ab0.val c 0 st [] (i:Int) (by omega) hn (by omega),Option.bind_some,A0x (show i<4611686018427387904 by omega)]at E;by_cases h:sumL st (A0w c i c.length)≤32
       . exact .inl ⟨h,fun k=>by rw[E,if_neg (by simp only[decide_eq_true_eq];omega)]⟩
       . exact .inr ⟨h,fun k=>by rw[E,if_pos (by simp only[decide_eq_true_eq];omega)]⟩) ((Ev.const _).succ fun k=>by rw[Af8.l4_eq,if_neg (by simp)]) 0 (Nat.zero_le _)
     exact⟨v,Af8.of _ _ (hv.of_eq fun k=>by rw[Af8.T,if_neg (by simp[hl]),hcf,hany];rfl),hv'.trans ⟨fun⟨_,h⟩=>⟨hl,ha,fun k hk=>h k (Nat.zero_le _) hk⟩,fun h=>⟨rfl,fun k _ hk=>h.2.2 k hk⟩⟩⟩
   . have hany:(st.any fun a=>!decide (0≤a/\a≤3))=true:=by
       refine Classical.byContradiction fun hc=>ha fun x hx=>?_;simp only[Bool.not_eq_true,List.any_eq_false,Bool.not_eq_true',decide_eq_false_iff_not,Classical.not_not]at hc;exact hc x hx
     exact⟨false,Af8.of _ _ ((Ev.const _).of_eq fun k=>by rw[Af8.T,if_neg (by simp[hl]),hcf,hany];rfl),by simp only[Bool.false_eq_true,false_iff];exact fun h=>ha h.2.1⟩
 . exact⟨false,Af8.of _ _ ((Ev.const _).of_eq fun k=>by rw[Af8.T,if_pos (by simp;omega)]),by simp only[Bool.false_eq_true,false_iff];exact fun h=>hl h.1⟩
def A3v (c:List (List Int)) (p:Int) (st:List Int) (m:MatV) (i j:Nat):Prop:=MatOk m/\m.1=p/\m.2.1=st.getD i 0/\m.2.2.1=st.getD ((fcs c i).getD j 0).toNat 0
def A3U (s:ShfV) (i:Nat):Prop:=∀ j,j<(fcs s.1 i).length->A3v s.1 s.2.1 s.2.2.1 (s.2.2.2.getD (off s.1 i+j) (0,0,0,[])) i j
def A0v (s:ShfV):Prop:=CplxOk s.1/\A1P s.2.1/\A3J s.1 s.2.2.1/\s.2.2.2.length=off s.1 s.1.length/\∀ i,i<s.1.length->A3U s i
theorem A4Y (c:List (List Int)) {a b:Nat} (h:a≤b):off c a≤off c b:=by
 induction h with
 | refl=>exact Nat.le_refl _
 | step _ ih=>exact Nat.le_trans ih (Nat.le_add_right _ _)
theorem A2Y {c:List (List Int)} {i j:Nat} (hi:i<c.length) (hj:j<(fcs c i).length):off c i+j<off c c.length:=by
 have:=A4Y c (show i+1≤c.length by omega);rw[off]at this;omega
theorem Aq4.val (c:List (List Int)) (p:Int) (st:List Int) (ms:List MatV) (m:MatV) (h:CplxOk c) (hst:st.length=c.length) (hm:m.2.2.2.length<4611686018427387904) (i j:Nat) (hi:i<c.length) (hj:j<(fcs c i).length) :
   ∃ v,Aq4.F ((c,(p,(st,ms))),(i:Int),(j:Int),m,())=some ((v,()),())/\(v=true↔A3v c p st m i j):=by
 obtain⟨q,r,cc,xs⟩:=m;obtain⟨v1,h1,h1'⟩:=Aq0.val (q,r,cc,xs) hm;obtain⟨x,hx,hxc⟩:=A3L h hi (A0z (0:Int) hj);rw[Aq4.eq,Aq4.T,Aa1.val c h i hi];simp only[Option.bind_some];rw[if_pos (by omega),h1];simp only[Option.bind_some,Int.toNat_natCast];unfold A3v;cases v1 with
 | false=>exact⟨false,by rw[if_neg (by simp)],by simp only[Bool.false_eq_true,false_iff];exact fun hh=>absurd (h1'.2 hh.1) (by simp)⟩
 | true =>
   have hmat:=h1'.1 rfl;rw[if_pos rfl];by_cases e1:q=p
   . rw[if_pos (by simp[e1]),if_pos (by omega)];by_cases e2:r=st.getD i 0
     . rw[if_pos (by simp only[beq_iff_eq];exact e2),if_pos (by rw[hx];omega)];exact⟨_,rfl,by simp only[beq_iff_eq];exact⟨fun e3=>⟨hmat,e1,e2,e3⟩,fun hh=>hh.2.2.2⟩⟩
     . exact⟨false,by rw[if_neg (by simp only[beq_iff_eq];exact e2)],by simp only[Bool.false_eq_true,false_iff];exact fun hh=>e2 hh.2.2.1⟩
   . exact⟨false,by rw[if_neg (by simp only[beq_iff_eq];exact e1)],by simp only[Bool.false_eq_true,false_iff];exact fun hh=>e1 hh.2.1⟩
theorem Ab1.val (s:ShfV) (hsm:SmSh s):∃ v,Ab1.F (s,())=some ((v,()),())/\(v=true↔A0v s):=by
 obtain⟨c,p,st,ms⟩:=s;obtain⟨hc,hst,hms⟩:=hsm;have hc:SmL c:=hc;have hst:st.length≤1048576:=hst;have hms:SmMs ms:=hms;unfold A0v;simp only[];obtain⟨v1,h1,h1'⟩:=Aa4.val c hc;obtain⟨v2,h2,h2'⟩:=Ai3.val p;obtain⟨v3,h3,h3'⟩:=Ai6.val c st hc.1 hst;have h2p:Aj5.F (p,())=some ((v2,()),()):=by rw[Aj5.eq,Aj5.T,h2];rfl
 cases v1 with
 | false=>exact⟨false,Ab1.of _ _ _ _ ((Ev.const _).of_eq fun k=>by rw[Ab1.T,h1];rfl),by simp only[Bool.false_eq_true,false_iff];exact fun hh=>absurd (h1'.2 hh.1) (by simp)⟩
 | true =>
 cases v2 with
 | false=>exact⟨false,Ab1.of _ _ _ _ ((Ev.const _).of_eq fun k=>by rw[Ab1.T,h1,h2p];rfl),by simp only[Bool.false_eq_true,false_iff];exact fun hh=>absurd (h2'.2 hh.2.1) (by simp)⟩
 | true =>
 cases v3 with
 | false=>exact⟨false,Ab1.of _ _ _ _ ((Ev.const _).of_eq fun k=>by rw[Ab1.T,h1,h2p,h3];rfl),by simp only[Bool.false_eq_true,false_iff];exact fun hh=>absurd (h3'.2 hh.2.2.1) (by simp)⟩
 | true =>
 have hcx:=h1'.1 rfl;have hstalk:=h3'.1 rfl;have hcl:=hcx.1;have hoff:=A1w hcx (Nat.le_refl c.length);have h4:Ar5.F (c,())=some ((((off c c.length:Nat):Int),()),()):=by
   have:=Ac3.val c hcx c.length (Nat.le_refl _) 0 (by omega);rw[Ar5.eq,Ar5.T,show(0:Int)=((0:Nat):Int)from rfl,this];rfl
 by_cases hlen:ms.length=off c c.length
 . obtain⟨v,hv,b,rfl,hb⟩:=Ev.loop (σ:=Unit) (R:=(Bool×Unit)×Unit) (fun k i _=>Ab1.l4 k c p st ms (i:Int)) c.length (fun i _=>∀ n,n<i->A3U (c,p,st,ms) n) (fun r=>∃ b,r=((b,()),())/\(b=true↔∀ n,n<c.length->A3U (c,p,st,ms) n))
     (fun i _ hi hI=>by
       have E4:∀ k,Ab1.l4 (k+1) c p st ms (i:Int)=Ab1.l7 k c p st ms (i:Int) ((0:Nat):Int):=fun k=>by rw[Ab1.l4_eq,if_pos (ltI.2 hi)];rfl
       have hlc:=(hcx.2 i hi).1.1;have step:∀ j,j<(fcs c i).length->∃ v,(v=true↔A3v c p st (ms.getD (off c i+j) (0,0,0,[])) i j)/\∀ k,Ab1.l7 (k+1) c p st ms (i:Int) (j:Int)=if (!v)=true then some ((false,()),())else Ab1.l7 k c p st ms (i:Int) ((j+1:Nat):Int):=fun j hj=>by
         have hlt:=A2Y hi hj;have hj2:=hj;rw[A0P]at hj2;have h1l:1<(c.getD i []).length:=by
           by_cases hh:1<(c.getD i []).length
           . exact hh
           . rw[if_neg hh]at hj2;omega
         rw[if_pos h1l]at hj2;have hml:(ms.getD (off c i+j) (0,0,0,[])).2.2.2.length<4611686018427387904:=by
           have:(ms.getD (off c i+j) (0,0,0,[])).2.2.2.length≤1048576:=hms.2 _ (A0z _ (by omega));omega
         obtain⟨v,hv,hv'⟩:=Aq4.val c p st ms (ms.getD (off c i+j) (0,0,0,[])) hcx hstalk.1 hml i j hi hj;refine⟨v,hv',fun k=>?_⟩;rw[Ab1.l7_eq,if_pos (idxI.2 hi)];simp only[Int.toNat_natCast];rw[if_pos (by simp only[decide_eq_true_eq];omega),if_pos (idxI.2 hi),if_pos (by simp only[decide_eq_true_eq];omega),Ac3.val c hcx i (by omega) j (by omega)];simp only[Option.bind_some,Int.toNat_natCast];rw[if_pos (by omega),hv];simp only[Option.bind_some];rw[A0x (by omega)]
       have stop:∀ k,Ab1.l7 (k+1) c p st ms (i:Int) (((fcs c i).length:Nat):Int)=Ab1.l4 k c p st ms ((i+1:Nat):Int):=fun k=>by
         rw[Ab1.l7_eq,if_pos (idxI.2 hi),A0P];simp only[Int.toNat_natCast];by_cases h1l:1<(c.getD i []).length
         . rw[if_pos h1l,if_neg (by simp),A0x (by omega)]
         . rw[if_neg h1l,if_pos (by simp only[decide_eq_true_eq];omega),if_pos (idxI.2 hi),if_neg (by simp only[decide_eq_true_eq];omega),A0x (by omega)]
       by_cases hP:A3U (c,p,st,ms) i
       . refine .inr ⟨(),fun n hn=>?_,(Goes.succ E4).trans ?_⟩
         . by_cases hni:n=i
           . rw[hni];exact hP
           . exact hI n (by omega)
         . obtain⟨_,_,hg⟩:=Goes.loop (σ:=Unit) (R:=(Bool×Unit)×Unit) (fun k j _=>Ab1.l7 k c p st ms (i:Int) (j:Int)) (fcs c i).length (fun _ _=>True) (fun j _ hj _=>⟨(),trivial,by
             obtain⟨v,hv,hv2⟩:=step j hj;have:v=true:=hv.2 (hP j hj);subst this;exact Goes.succ fun k=>by rw[hv2];rfl⟩) 0 () (Nat.zero_le _) trivial
           exact hg.trans (Goes.succ stop)
       . left;obtain⟨v,hv,hv'⟩:=Ev.loop (σ:=Unit) (R:=(Bool×Unit)×Unit) (fun k j _=>Ab1.l7 k c p st ms (i:Int) (j:Int)) (fcs c i).length (fun j _=>∀ n,n<j->A3v c p st (ms.getD (off c i+n) (0,0,0,[])) i n) (fun r=>r=((false,()),())) (fun j _ hj hJ=>by
           obtain⟨v,hv,hv2⟩:=step j hj;cases v with
           | false=>exact .inl ⟨_,(Ev.const _).succ fun k=>by rw[hv2];rfl,rfl⟩
           | true =>
             refine .inr ⟨(),fun n hn=>?_,Goes.succ fun k=>by rw[hv2];rfl⟩;by_cases hnj:n=j
             . rw[hnj];exact hv.1 rfl
             . exact hJ n (by omega)) (fun _ hJ=>absurd (fun j hj=>hJ j hj) hP) 0 () (Nat.zero_le _) (by intro n hn;omega)
         subst hv';exact⟨_,hv.succ E4,false,rfl,by simp only[Bool.false_eq_true,false_iff];exact fun hh=>hP (hh i hi)⟩)
     (fun _ hI=>⟨_,(Ev.const _).succ fun k=>by rw[Ab1.l4_eq,if_neg (by simp)],true,rfl,by simp only[true_iff];exact hI⟩) 0 () (Nat.zero_le _) (by intro n hn;omega)
   refine⟨b,Ab1.of _ _ _ _ (hv.of_eq fun k=>?_),hb.trans ⟨fun hh=>⟨hcx,h2'.1 rfl,hstalk,hlen,hh⟩,fun hh=>hh.2.2.2.2⟩⟩;rw[Ab1.T,h1,h2p,h3,h4];simp only[Option.bind_some,Bool.not_true,Bool.false_eq_true,if_false];rw[if_neg (by simp[hlen])];rfl
 . refine⟨false,Ab1.of _ _ _ _ ((Ev.const _).of_eq fun k=>?_),by simp only[Bool.false_eq_true,false_iff];exact fun hh=>hlen hh.2.2.2.1⟩;rw[Ab1.T,h1,h2p,h3,h4];simp only[Option.bind_some,Bool.not_true,Bool.false_eq_true,if_false];rw[if_pos (by simp;omega)]
theorem Ae5.same (m n:MatV) (h:SmM m):∃ b,Ae5.F (m,n,())=some ((b,()),())/\(b=true↔m=n):=by
 obtain⟨a,b,c,xs⟩:=m;obtain⟨a',b',c',ys⟩:=n;have hn:xs.length≤1048576:=h;simp only[Prod.mk.injEq];by_cases h1:a=a'
 . by_cases h2:b=b'
   . by_cases h3:c=c'
     . by_cases hl:xs.length=ys.length
       . obtain⟨e,he,he'⟩:=A1z (fun k i=>Ae5.l4 k a b c xs a' b' c' ys (i:Int)) xs ys 0 hl (fun i hi=>⟨xs.getD i 0==ys.getD i 0,by simp,fun k=>by
           rw[Ae5.l4_eq,if_pos (ltI.2 hi),if_pos (idxI.2 hi),if_pos (idx2 (hl▸hi))];simp only[Int.toNat_natCast];rw[A0x (by omega)];rfl⟩) (fun k=>by rw[Ae5.l4_eq,if_neg (by simp)])
         exact⟨e,Ae5.of _ _ _ _ _ _ _ _ (he.of_eq fun k=>by rw[Ae5.T,if_neg (by simp[h1]),if_neg (by simp[h2]),if_neg (by simp[h3]),if_neg (by simp[hl])];rfl),by simp[h1,h2,h3,he']⟩
       . exact⟨false,Ae5.of _ _ _ _ _ _ _ _ ((Ev.const _).of_eq fun k=>by rw[Ae5.T,if_neg (by simp[h1]),if_neg (by simp[h2]),if_neg (by simp[h3]),if_pos (by simp;omega)]),by simp[h1,h2,h3];intro e;exact hl (by rw[e])⟩
     . exact⟨false,Ae5.of _ _ _ _ _ _ _ _ ((Ev.const _).of_eq fun k=>by rw[Ae5.T,if_neg (by simp[h1]),if_neg (by simp[h2]),if_pos (by simp[h3])]),by simp[h3]⟩
   . exact⟨false,Ae5.of _ _ _ _ _ _ _ _ ((Ev.const _).of_eq fun k=>by rw[Ae5.T,if_neg (by simp[h1]),if_pos (by simp[h2])]),by simp[h2]⟩
 . exact⟨false,Ae5.of _ _ _ _ _ _ _ _ ((Ev.const _).of_eq fun k=>by rw[Ae5.T,if_pos (by simp[h1])]),by simp[h1]⟩
theorem An9.same (m n:MatV) (h:SmM m):∃ b,An9.F (m,n,())=some ((b,()),())/\(b=true↔m=n):=by
 obtain⟨a,b,c,xs⟩:=m;obtain⟨a',b',c',ys⟩:=n;obtain⟨e,he,he'⟩:=Ac2.same xs ys h;rw[An9.eq,An9.T,he];simp only[Option.bind_some,Prod.mk.injEq];by_cases h1:a=a'
 . by_cases h2:b=b'
   . by_cases h3:c=c'
     . exact⟨e,by rw[if_pos (by simp[h1]),if_pos (by simp[h2]),if_pos (by simp[h3])],by simp[h1,h2,h3,he']⟩
     . exact⟨false,by rw[if_pos (by simp[h1]),if_pos (by simp[h2]),if_neg (by simp[h3])],by simp[h3]⟩
   . exact⟨false,by rw[if_pos (by simp[h1]),if_neg (by simp[h2])],by simp[h2]⟩
 . exact⟨false,by rw[if_neg (by simp[h1])],by simp[h1]⟩
theorem Goes.find {R T:Type} {L:Nat->Nat->Option R} {M:Nat->Option R} {n:Nat} (i0:Nat) (f:Nat->Option T) (res:T->R)
   (hstep:∀ i,i0≤i->i<n->(f i=none/\Goes (fun k=>L k i) (fun k=>L k (i+1)))∨(∃ t,f i=some t/\Ev (fun k=>L k i) (res t)))
   (hend:Goes (fun k=>L k n) M) (i:Nat) (h0:i0≤i) (hi:i≤n) :
   ((List.range' i (n-i)).findSome? f=none/\Goes (fun k=>L k i) M)∨(∃ t,(List.range' i (n-i)).findSome? f=some t/\Ev (fun k=>L k i) (res t)):=by
 have key:∀ m i,i0≤i->i+m=n->((List.range' i m).findSome? f=none/\Goes (fun k=>L k i) M)∨(∃ t,(List.range' i m).findSome? f=some t/\Ev (fun k=>L k i) (res t)):=by
   intro m;induction m with
   | zero => intro i h0 hi;obtain rfl:i=n:=by omega
             exact .inl ⟨rfl,hend⟩
   | succ m ih =>
     intro i h0 hi;rw[List.range'_succ,List.findSome?_cons];rcases hstep i h0 (by omega)with⟨h1,h2⟩|⟨t,h1,h2⟩
     . rw[h1];rcases ih (i+1) (by omega) (by omega)with⟨h3,h4⟩|⟨t,h3,h4⟩
       . exact .inl ⟨h3,h2.trans h4⟩
       . exact .inr ⟨t,h3,h2 _ h4⟩
     . rw[h1];exact .inr ⟨t,rfl,h2⟩
 exact key (n-i) i h0 (by omega)
def A0q (s:ShfV) (i j:Nat):MatV:=s.2.2.2.getD (off s.1 i+j) (0,0,0,[])
theorem A2n {c:List (List Int)} (h:CplxOk c) {k i:Nat} (hk:k<c.length) (hi:i<(fcs c k).length):∃ f:Nat,(fcs c k).getD i 0=(f:Int)/\f<c.length/\c.getD f []=A0F (c.getD k []) i/\i<(c.getD k []).length/\1<(c.getD k []).length:=by
 rw[A0P]at hi;have h1:1<(c.getD k []).length:=by
   by_cases h1:1<(c.getD k []).length
   . exact h1
   . rw[if_neg h1]at hi;omega
 rw[if_pos h1]at hi;have hf:(A0S (c.getD k []))=(List.range (c.getD k []).length).map (A0F (c.getD k [])):=by rw[A0S,if_pos h1]
 have hm:A0F (c.getD k []) i∈A0S (c.getD k []):=by rw[hf];exact List.mem_map.2 ⟨i,List.mem_range.2 hi,rfl⟩
 obtain⟨h2,h3⟩:=A0C (A1L h hk hm);refine⟨_,?_,h2,h3,hi,h1⟩;rw[fcs,hf];obtain⟨s,hs⟩:∃ s,c.getD k []=s:=⟨_,rfl⟩;rw[hs]at hi ⊢;simp only[List.getD_eq_getElem?_getD,List.getElem?_map,List.getElem?_range hi,Option.map_some,Option.getD_some]
theorem Ah6.val (s:ShfV) (h:CplxOk s.1) (n:Nat) (hn:n≤s.1.length):Ah6.F (s,(n:Int),())=some ((((off s.1 n:Nat):Int),()),()):=by
 obtain⟨c,p,st,ms⟩:=s;have h:CplxOk c:=h;have hn:n≤c.length:=hn;have hcl:=h.1;have hos:=A1w h hn;have hcut:cutL c (0:Int) (n:Int)=c.take n:=by simp[cutL]
 have hlen:(c.take n).length=n:=by simp;omega
 refine Ah6.of _ _ _ _ _ (Ev.of_eq (N:=fun k=>Ah6.l3 k 0 (c.take n) (n:Int) ((0:Nat):Int)) ?_ fun k=>by rw[Ah6.T,if_pos (by omega),hcut,hlen];rfl);obtain⟨x,hx,hg⟩:=Goes.loop (R:=((Int×Unit)×Unit)) (fun k i (x:Int)=>Ah6.l3 k x (c.take n) (n:Int) (i:Int)) n (fun i x=>x=(off c i:Int)) (fun i x hi h2=>⟨_,rfl,Goes.succ fun k=>by
   have hic:i<c.length:=by omega
   have hoff:=A1w h (show i≤c.length by omega);have h4:=(h.2 i hic).1.1.2;have ht:(c.take n).getD i []=c.getD i []:=by simp only[List.getD_eq_getElem?_getD,List.getElem?_take,hi,if_true]
   rw[Ah6.l3_eq,if_pos (ltI.2 hi),if_pos (by rw[hlen];omega)];simp only[Int.toNat_natCast,ht];rw[off,A0P];by_cases h1:1<(c.getD i []).length
   . rw[if_pos (by simp only[decide_eq_true_eq];omega),Ab4.eq,Ab4.T,if_pos h1];simp only[Option.bind_some];rw[A0B (by omega) (by omega),A0x (by omega),h2];congr 1
   . rw[if_neg (by simp only[decide_eq_true_eq];omega),if_neg h1,A0x (by omega),h2];rfl⟩) 0 0 (Nat.zero_le _) rfl
 refine hg _ ((Ev.const _).succ fun k=>?_);rw[Ah6.l3_eq,if_neg (by simp),hx]
theorem Ab7.val (s:ShfV) (h:A0v s) (i j:Nat) (hi:i<s.1.length) (hj:j<(fcs s.1 i).length):Ab7.F (s,(i:Int),(j:Int),())=some ((A0q s i j,()),()):=by
 have h1:=Ah6.val s h.1 i (by omega);have h2:=A2Y hi hj;have h3:=h.2.2.2.1;have h4:=A1w h.1 (Nat.le_refl s.1.length);have h5:=h.1.1;have hT:Ab7.F (s,(i:Int),(j:Int),())=Ab7.T s.1 s.2.1 s.2.2.1 s.2.2.2 (i:Int) (j:Int):=Ab7.eq _ _ _ _ _ _;have hw:IntKind.i64.wrap (((off s.1 i:Nat):Int)+(j:Int))=((off s.1 i+j:Nat):Int):=by rw[A0B (by omega) (by omega)];omega
 have h1:Ah6.F ((s.1,(s.2.1,(s.2.2.1,s.2.2.2))),(i:Int),())=_:=h1;rw[hT,Ab7.T,h1];simp only[Option.bind_some,hw];rw[if_pos (by omega)];simp only[Int.toNat_natCast];rfl
theorem Aa2.val (s:ShfV) (h:A0v s) (i j:Nat) (hi:i<s.1.length) (hj:j<(fcs s.1 i).length):Aa2.F (s,(i:Int),(j:Int),())=some ((A0q s i j,()),()):=by
 have h2:=A2Y hi hj;have h3:=h.2.2.2.1;have h4:=A1w h.1 (Nat.le_refl s.1.length);have h5:=h.1.1;have h1:=Ac3.val s.1 h.1 i (by omega) j (by omega);have hT:Aa2.F (s,(i:Int),(j:Int),())=Aa2.T s.1 s.2.1 s.2.2.1 s.2.2.2 (i:Int) (j:Int):=Aa2.eq _ _ _ _ _ _;rw[hT,Aa2.T,h1];simp only[Option.bind_some];rw[if_pos (by omega)];simp only[Int.toNat_natCast];rfl
def fc (c:List (List Int)) (k i:Nat):Nat:=((fcs c k).getD i 0).toNat
def sqA (s:ShfV) (k i j:Nat):MatV:=mulM (A0q s k i) (A0q s (fc s.1 k i) (j-1))
def sqB (s:ShfV) (k i j:Nat):MatV:=mulM (A0q s k j) (A0q s (fc s.1 k j) i)
theorem A0f {s:ShfV} (h:A0v s) {i j:Nat} (hi:i<s.1.length) (hj:j<(fcs s.1 i).length):A3v s.1 s.2.1 s.2.2.1 (A0q s i j) i j:=h.2.2.2.2 i hi j hj
structure SqFit (s:ShfV) (k i j:Nat) (f:Nat):Prop where
 at_:(fcs s.1 k).getD i 0=(f:Int)
 fc_:fc s.1 k i=f
 lt:f<s.1.length
 jlt:j<(fcs s.1 f).length
 ilt:i<(fcs s.1 k).length
 dir:Ag0.F (A0q s k i,A0q s f j,())=some ((mulM (A0q s k i) (A0q s f j),()),())
 tim:Ad2.F (A0q s k i,A0q s f j,())=some ((mulM (A0q s k i) (A0q s f j),()),())
 ok:MatOk (mulM (A0q s k i) (A0q s f j))
theorem A4I {s:ShfV} (h:A0v s) {k i j:Nat} (hk:k<s.1.length) (h3:2<(s.1.getD k []).length) (hi:i<(s.1.getD k []).length) (hj:j+1<(s.1.getD k []).length):∃ f,SqFit s k i j f:=by
 have hil:i<(fcs s.1 k).length:=by rw[A0P,if_pos (by omega)];exact hi
 obtain⟨f,h1,h2,h4,h5,h6⟩:=A2n h.1 hk hil;have hfl:(s.1.getD f []).length=(s.1.getD k []).length-1:=by rw[h4];exact A0N hi
 have hjl:j<(fcs s.1 f).length:=by rw[A0P,if_pos (by omega)];omega
 have m1:=A0f h hk hil;have m2:=A0f h h2 hjl;have hp:(A0q s k i).1=(A0q s f j).1:=by rw[m1.2.1,m2.2.1]
 have hs:(A0q s k i).2.2.1=(A0q s f j).2.1:=by rw[m1.2.2.2,m2.2.2.1,h1];rfl
 exact⟨f,h1,by rw[fc,h1,Int.toNat_natCast],h2,hjl,hil,Ag0.val _ _ m1.1 m2.1 hp hs,Ad2.val _ _ m1.1 m2.1 hp hs,A4q m1.1 m2.1⟩
theorem MatOk.small {m:MatV} (h:MatOk m):SmM m:=by
 have:=A4X h.2.1 h.2.2.1;have:=h.2.2.2.1;unfold SmM Sm;omega
noncomputable def A2S (s:ShfV) (k i j:Nat):Option (Nat×Nat×Nat):=@ite _ (sqA s k i j=sqB s k i j) (Classical.propDecidable _) none (some (k,i,j))
noncomputable def A3I (s:ShfV) (k n i:Nat):Option (Nat×Nat×Nat):=(List.range' (i+1) (n-(i+1))).findSome? (A2S s k i)
noncomputable def A1g (s:ShfV) (k:Nat):Option (Nat×Nat×Nat):=if (s.1.getD k []).length<3 then none else(List.range' 0 ((s.1.getD k []).length-0)).findSome? (A3I s k (s.1.getD k []).length)
noncomputable def A1h (s:ShfV):Option (Nat×Nat×Nat):=(List.range' 0 (s.1.length-0)).findSome? (A1g s)
theorem Ac6.val (s:ShfV) (h:A0v s):Ac6.F (s,())=some ((match A1h s with|none=>(0,0,false,())|some (k,i,j)=>((k:Int),(fcs s.1 (fc s.1 k i)).getD (j-1) 0,true,())),()):=by
 have hcl:=h.1.1;have hT:∀ r,Ev (fun k=>Ac6.T k s.1 s.2.1 s.2.2.1 s.2.2.2) r->Ac6.F (s,())=some r:=fun r hr=>Ac6.of _ _ _ _ hr;have res:∀ t:Nat×Nat×Nat,((Int×Int×Bool×Unit)×Unit):=fun t=>(((t.1:Int),(fcs s.1 (fc s.1 t.1 t.2.1)).getD (t.2.2-1) 0,true,()),());have main:=Goes.find (R:=((Int×Int×Bool×Unit)×Unit)) (L:=fun n k=>Ac6.l2 n s.1 (s.1.length:Int) (k:Int) s.1 s.2.1 s.2.2.1 s.2.2.2) (M:=fun _=>some ((0,0,false,()),())) (n:=s.1.length) 0 (A1g s) (fun t:Nat×Nat×Nat=>(((t.1:Int),(fcs s.1 (fc s.1 t.1 t.2.1)).getD (t.2.2-1) 0,true,()),())) (fun k _ hk=>by
   have E:=fun n=>Ac6.l2_eq n s.1 (s.1.length:Int) (k:Int) s.1 s.2.1 s.2.2.1 s.2.2.2;simp only[if_pos (ltI.2 hk),if_pos (idxI.2 hk),Int.toNat_natCast,A0x (show k<4611686018427387904 by omega),Ab3.val s.1 h.1 k hk,Option.bind_some]at E;by_cases h3:(s.1.getD k []).length<3
   . exact .inl ⟨by rw[A1g,if_pos h3],Goes.succ fun n=>by rw[E,if_pos (by simp only[decide_eq_true_eq];omega)]⟩
   obtain⟨t,ht⟩:∃ t,s.1.getD k []=t:=⟨_,rfl⟩;have h4:=(h.1.2 k hk).1.1.2;rw[ht]at h4 h3;have hw:A1g s k=(List.range' 0 (t.length-0)).findSome? (A3I s k t.length):=by rw[A1g,ht,if_neg h3]
   rw[hw];simp only[ht]at E;have e0:Goes (fun n=>Ac6.l2 n s.1 (s.1.length:Int) (k:Int) s.1 s.2.1 s.2.2.1 s.2.2.2) (fun n=>Ac6.l8 n t (k:Int) s.1 (s.1.length:Int) (k:Int) (t.length:Int) ((0:Nat):Int) s.1 s.2.1 s.2.2.1 s.2.2.2 (fcs s.1 k)):=Goes.succ fun n=>by rw[E,if_neg (by simp only[decide_eq_true_eq];omega)];rfl
   have inner:=Goes.find (R:=((Int×Int×Bool×Unit)×Unit)) (L:=fun n i=>Ac6.l8 n t (k:Int) s.1 (s.1.length:Int) (k:Int) (t.length:Int) (i:Int) s.1 s.2.1 s.2.2.1 s.2.2.2 (fcs s.1 k)) (M:=fun n=>Ac6.l2 n s.1 (s.1.length:Int) ((k+1:Nat):Int) s.1 s.2.1 s.2.2.1 s.2.2.2) (n:=t.length) 0 (A3I s k t.length) (fun t:Nat×Nat×Nat=>(((t.1:Int),(fcs s.1 (fc s.1 t.1 t.2.1)).getD (t.2.2-1) 0,true,()),())) (fun i _ hi=>by
     have e1:Goes (fun n=>Ac6.l8 n t (k:Int) s.1 (s.1.length:Int) (k:Int) (t.length:Int) (i:Int) s.1 s.2.1 s.2.2.1 s.2.2.2 (fcs s.1 k)) (fun n=>Ac6.l11 n t (k:Int) (i:Int) ((i+1:Nat):Int) s.1 (s.1.length:Int) (k:Int) (t.length:Int) (i:Int) s.1 s.2.1 s.2.2.1 s.2.2.2 (fcs s.1 k)):=Goes.succ fun n=>by rw[Ac6.l8_eq,if_pos (ltI.2 hi),A0x (by omega)]
     have deep:=Goes.find (R:=((Int×Int×Bool×Unit)×Unit)) (L:=fun n j=>Ac6.l11 n t (k:Int) (i:Int) (j:Int) s.1 (s.1.length:Int) (k:Int) (t.length:Int) (i:Int) s.1 s.2.1 s.2.2.1 s.2.2.2 (fcs s.1 k)) (M:=fun n=>Ac6.l8 n t (k:Int) s.1 (s.1.length:Int) (k:Int) (t.length:Int) ((i+1:Nat):Int) s.1 s.2.1 s.2.2.1 s.2.2.2 (fcs s.1 k)) (n:=t.length) (i+1) (A2S s k i) (fun t:Nat×Nat×Nat=>(((t.1:Int),(fcs s.1 (fc s.1 t.1 t.2.1)).getD (t.2.2-1) 0,true,()),())) (fun j hij hj=>by
       obtain⟨f,F⟩:=A4I h hk (by rw[ht];omega) (show i<_ by rw[ht];omega) (show j-1+1<_ by rw[ht];omega);obtain⟨g,G⟩:=A4I h hk (by rw[ht];omega) (show j<_ by rw[ht];omega) (show i+1<_ by rw[ht];omega);have hA:sqA s k i j=mulM (A0q s k i) (A0q s f (j-1)):=by rw[sqA,F.fc_]
       have hB:sqB s k i j=mulM (A0q s k j) (A0q s g i):=by rw[sqB,G.fc_]
       obtain⟨b,hb,hb'⟩:=An9.same (mulM (A0q s k i) (A0q s f (j-1))) (mulM (A0q s k j) (A0q s g i)) F.ok.small;have E2:=fun n=>Ac6.l11_eq n t (k:Int) (i:Int) (j:Int) s.1 (s.1.length:Int) (k:Int) (t.length:Int) (i:Int) s.1 s.2.1 s.2.2.1 s.2.2.2 (fcs s.1 k);simp only[if_pos (ltI.2 hj),Ab7.val s h k i hk F.ilt,Ab7.val s h k j hk G.ilt,A3u (show 0<j by omega) (show j<4611686018427387904 by omega),Option.bind_some,if_pos (idxI.2 F.ilt),if_pos (idxI.2 G.ilt),Int.toNat_natCast,F.at_,G.at_,Ab7.val s h f (j-1) F.lt F.jlt,Ab7.val s h g i G.lt G.jlt,F.dir,G.dir,hb,Ab3.val s.1 h.1 f F.lt,if_pos (idxI.2 F.jlt),A0x (show j<4611686018427387904 by omega)]at E2;cases b with
       | true=>exact .inl ⟨by rw[A2S,if_pos (by rw[hA,hB];exact hb'.1 rfl)],Goes.succ fun n=>by rw[E2,if_neg (by simp)]⟩
       | false=>exact .inr ⟨(k,i,j),by rw[A2S,if_neg (by rw[hA,hB];exact fun e=>absurd (hb'.2 e) (by simp))],(Ev.const _).succ fun n=>by rw[E2,if_pos (by simp)];simp only[F.fc_]⟩) (Goes.succ fun n=>by rw[Ac6.l11_eq,if_neg (by simp),A0x (by omega)]) (i+1) (Nat.le_refl _) (by omega)
     rcases deep with⟨d1,d2⟩|⟨r,d1,d2⟩
     . exact .inl ⟨d1,e1.trans d2⟩
     . exact .inr ⟨r,d1,e1 _ d2⟩) (Goes.succ fun n=>by rw[Ac6.l8_eq,if_neg (by simp),A0x (by omega)]) 0 (Nat.le_refl _) (Nat.zero_le _)
   rcases inner with⟨d1,d2⟩|⟨r,d1,d2⟩
   . exact .inl ⟨d1,e0.trans d2⟩
   . exact .inr ⟨r,d1,e0 _ d2⟩) (Goes.succ fun n=>by rw[Ac6.l2_eq,if_neg (by simp)]) 0 (Nat.le_refl _) (Nat.zero_le _)
 rcases main with⟨d1,d2⟩|⟨⟨k,i,j⟩,d1,d2⟩
 . rw[A1h,d1];exact hT _ ((d2 _ (Ev.const _)).of_eq fun n=>rfl)
 . rw[A1h,d1];exact hT _ (d2.of_eq fun n=>rfl)
theorem A2O {xs:List Int} (h:A1S xs):∀ i j,i<j->j<xs.length->xs.getD i 0<xs.getD j 0:=by
 intro i j hij hj;induction j with
 | zero=>omega
 | succ j ih =>
   have h1:=h (j+1) (by omega) hj;simp only[Nat.add_sub_cancel]at h1;by_cases e:i=j
   . subst e;exact h1
   . have:=ih (by omega) (by omega);omega
theorem A1G {xs:List Int} (h:A1S xs):xs.Nodup:=by
 rw[List.nodup_iff_pairwise_ne,List.pairwise_iff_getElem];intro i j hi hj hij;have:=A2O h i j hij hj;rw[A0y hi,A0y hj]at this;omega
theorem A0t:∀ {xs ys:List Int},xs.Nodup->(∀ x∈xs,x∈ys)->xs.length≤ys.length
 | [],_,_,_=>Nat.zero_le _
 | x::xs,ys,hn,h=>by
   rw[List.nodup_cons]at hn;have hx:=h x (by simp);have:=A0t (xs:=xs) (ys:=ys.erase x) hn.2 fun y hy=>(List.mem_erase_of_ne (fun e:y=x=>hn.1 (e▸hy))).2 (h y (by simp[hy]));rw[List.length_erase_of_mem hx]at this;have h2:0<ys.length:=List.length_pos_of_mem hx;simp only[List.length_cons];omega
theorem A3s {xs ys:List Int} (hx:A1S xs) (hy:A1S ys) (h:∀ x∈xs,x∈ys) (hl:ys.length≤xs.length):xs=ys:=by
 have pw:∀ {zs:List Int},A1S zs->zs.Pairwise (·<·):=fun {zs} hz=>by
   rw[List.pairwise_iff_getElem];intro i j hi hj hij;have:=A2O hz i j hij hj
   rwa [A0y hi,A0y hj]at this
 have key:∀ (xs ys:List Int),xs.Pairwise (·<·)->ys.Pairwise (·<·)->(∀ x∈xs,x∈ys)->ys.length≤xs.length->xs=ys:=by
   intro xs;induction xs with
   | nil=>intro ys _ _ _ hl;exact(List.length_eq_zero_iff.1 (by simpa using hl)).symm
   | cons x xs ih =>
     intro ys hx hy h hl;cases ys with
     | nil=>exact absurd (h x (by simp)) (by simp)
     | cons y ys =>
       rw[List.pairwise_cons]at hx hy;by_cases e:x=y
       . subst e;rw[ih ys hx.2 hy.2 (fun z hz=>by
           have:=h z (by simp[hz]);simp only[List.mem_cons]at this;rcases this with rfl|this
           . have:=hx.1 z hz;omega
           . exact this) (by simpa using hl)]
       . have hxm:x∈ys:=by
           have:=h x (by simp);simp only[List.mem_cons]at this;exact this.resolve_left e
         have hsub:∀ z∈x::xs,z∈ys:=fun z hz=>by
           have h1:=h z hz;simp only[List.mem_cons]at h1 hz;rcases h1 with rfl|h1
           . have h3:=hy.1 x hxm;rcases hz with rfl|hz
             . omega
             . have:=hx.1 z hz;omega
           . exact h1
         have hnd:(x::xs).Nodup:=by
           rw[List.nodup_iff_pairwise_ne,List.pairwise_cons];exact⟨fun z hz=>by have:=hx.1 z hz;omega,hx.2.imp fun h=>by omega⟩
         have:=A0t hnd hsub;simp only[List.length_cons]at hl this;omega
 exact key xs ys (pw hx) (pw hy) h hl
theorem A4a {f t:List Int} (ht:t.Nodup) (hl:f.length<t.length):∃ j,j<t.length/\t.getD j 0∉f/\∀ i,i<j->t.getD i 0∈f:=by
 obtain⟨m,hm⟩:∃ m,m<t.length/\t.getD m 0∉f:=Classical.byContradiction fun hc=>by
   have:∀ x∈t,x∈f:=fun x hx=>by
     obtain⟨j,hj,rfl⟩:=List.getElem_of_mem hx;refine Classical.byContradiction fun hn=>hc ⟨j,hj,?_⟩
     rwa [A0y hj]
   have:=A0t ht this;omega
 have key:∀ m,(m<t.length/\t.getD m 0∉f)->∃ j,j<t.length/\t.getD j 0∉f/\∀ i,i<j->t.getD i 0∈f:=by
   intro m;induction m using Nat.strongRecOn with
   | ind m ih =>
     intro ⟨h1,h2⟩;by_cases h:∀ i,i<m->t.getD i 0∈f
     . exact⟨m,h1,h2,h⟩
     . obtain⟨i,hi⟩:=Classical.not_forall.1 h;obtain⟨hi,hi2⟩:=Classical.not_imp.1 hi;exact ih i hi ⟨by omega,hi2⟩
 exact key m hm
theorem A4T {f t:List Int} {j:Nat} (hj:j<t.length) (h:∀ x∈f,x∈t) (hn:t.getD j 0∉f):∀ x∈f,x∈A0F t j:=by
 intro x hx;obtain⟨i,hi,rfl⟩:=List.getElem_of_mem (h x hx);have hij:i≠j:=by
   rintro rfl;rw[A0y hi]at hn;exact hn hx
 unfold A0F;rw[List.mem_append];by_cases h2:i<j
 . left;rw[List.mem_take_iff_getElem];exact⟨i,by omega,rfl⟩
 . right;rw[List.mem_drop_iff_getElem];exact⟨i-(j+1),by omega,by congr 1;omega⟩
def StepOk (s:ShfV) (f i n:Nat) (m:MatV):Prop:=(n=0->m=A2x s.2.1 (s.2.2.1.getD f 0).toNat)/\(n=1->∃ j,j<(s.1.getD i []).length/\(s.1.getD i []).getD j 0∉s.1.getD f []/\m=mulM (A0q s i j) (A2x s.2.1 (s.2.2.1.getD f 0).toNat))
theorem A1k (s:ShfV) (h:A0v s) (f:Nat) (hf:f<s.1.length):∀ (n i:Nat),i<s.1.length->(s.1.getD i []).length=(s.1.getD f []).length+n->(∀ x∈s.1.getD f [],x∈s.1.getD i []) →
   ∃ m,StepOk s f i n m/\MatOk m/\m.1=s.2.1/\m.2.1=s.2.2.1.getD i 0/\m.2.2.1=s.2.2.1.getD f 0/\(∀ q,n<q->Ad3.R q (s,(f:Int),(i:Int),())=some ((m,()),()))/\∀ q,n<q->Ae3.R q (s,(f:Int),(i:Int),())=some ((m,()),()):=by
 have hn:=h.1.1;have hl:s.2.2.1.length=s.1.length:=h.2.2.1.1;have hp:=h.2.1;intro n;induction n with
 | zero =>
   intro i hi hlen hsub;have e:s.1.getD f []=s.1.getD i []:=A3s (h.1.2 f hf).1.2.2 (h.1.2 i hi).1.2.2 hsub (by omega);have e:f=i:=A0h h.1.sorted hf hi e;subst e;obtain⟨z1,z2⟩:=st_nat' h.2.2.1.2.1 f;have hu:=Ap1.val s.2.1 (s.2.2.1.getD f 0).toNat z2;have hu2:=Ak7.val s.2.1 (s.2.2.1.getD f 0).toNat z2;rw[z1]at hu hu2;refine⟨A2x s.2.1 (s.2.2.1.getD f 0).toNat,⟨fun _=>rfl,fun h=>by omega⟩,A4g hp z2,rfl,z1,z1,fun q hq=>?_,fun q hq=>?_⟩
   . obtain⟨q,rfl⟩:∃ p,q=p+1:=⟨q-1,by omega⟩;have hT:Ad3.R (q+1) (s,(f:Int),(f:Int),())=Ad3.T (Ad3.R q) s.1 s.2.1 s.2.2.1 s.2.2.2 (f:Int) (f:Int):=Ad3.eq _ _ _ _ _ _ _;rw[hT,Ad3.T,if_pos (by simp),if_pos (idxI.2 (by omega)),Int.toNat_natCast,hu];rfl
   . obtain⟨q,rfl⟩:∃ p,q=p+1:=⟨q-1,by omega⟩;refine Ae3.of (Ae3.R q) s.1 s.2.1 s.2.2.1 s.2.2.2 (f:Int) (f:Int) ((Ev.const _).of_eq fun k=>?_);rw[Ae3.T,if_pos (by simp),if_pos (idxI.2 (by omega)),Int.toNat_natCast,hu2];rfl
 | succ n ih =>
   intro i hi hlen hsub;have hti:=(h.1.2 i hi).1;have htf:=(h.1.2 f hf).1;have hne:f≠i:=by rintro rfl;omega
   obtain⟨j,hj,hj1,hj2⟩:=A4a (f:=s.1.getD f []) (t:=s.1.getD i []) (A1G hti.2.2) (by omega);have h1:1<(s.1.getD i []).length:=by have:=htf.1.1;omega
   have hfl:(fcs s.1 i).length=(s.1.getD i []).length:=by rw[A0P,if_pos h1]
   have hmem:A0F (s.1.getD i []) j∈A0S (s.1.getD i []):=mem_faces.2 ⟨h1,j,hj,rfl⟩;obtain⟨m1,m2⟩:=A0C (A1L h.1 hi hmem);obtain⟨M,hM⟩:∃ M,M=A0G s.1 (A0F (s.1.getD i []) j):=⟨_,rfl⟩;have hfj:(fcs s.1 i).getD j 0=(M:Int):=by
     have e1:fcs s.1 i=(List.range (s.1.getD i []).length).map fun k=>((A0G s.1 (A0F (s.1.getD i []) k):Nat):Int):=by
       unfold fcs A0S;rw[if_pos h1,List.map_map];rfl
     rw[e1,A0y (by simpa using hj),hM];simp only[List.getElem_map,List.getElem_range]
   rw[<-hM]at m1 m2;have hlenM:(s.1.getD M []).length=(s.1.getD f []).length+n:=by rw[m2,A0N hj];omega
   obtain⟨r,r0,r1,r2,r3,r4,r5,r6⟩:=ih M m1 hlenM (by rw[m2];exact A4T hj hsub hj1);obtain⟨k1,k2,k3,k4⟩:=h.2.2.2.2 i hi j (by omega);have k1:MatOk (A0q s i j):=k1;have k2:(A0q s i j).1=s.2.1:=k2;have k3:(A0q s i j).2.1=s.2.2.1.getD i 0:=k3;have k4:(A0q s i j).2.2.1=s.2.2.1.getD M 0:=by
     have:(A0q s i j).2.2.1=s.2.2.1.getD ((fcs s.1 i).getD j 0).toNat 0:=k4;rw[this,hfj,Int.toNat_natCast]
   have p1:=Ag0.val (A0q s i j) r k1 r1 (by rw[k2,r2]) (by rw[k4,r3]);have p2:=Ad2.val (A0q s i j) r k1 r1 (by rw[k2,r2]) (by rw[k4,r3]);refine⟨mulM (A0q s i j) r,⟨fun h=>by omega,fun h=>⟨j,hj,hj1,by rw[r0.1 (by omega)]⟩⟩,A4q k1 r1,k2,k3,r4,fun q hq=>?_,fun q hq=>?_⟩
   . obtain⟨q,rfl⟩:∃ p,q=p+1:=⟨q-1,by omega⟩;have hT:Ad3.R (q+1) (s,(f:Int),(i:Int),())=Ad3.T (Ad3.R q) s.1 s.2.1 s.2.2.1 s.2.2.2 (f:Int) (i:Int):=Ad3.eq _ _ _ _ _ _ _;obtain⟨w,hw,hw'⟩:=Ag6.val (s.1.getD i []) (Ar4.cloG (s.1.getD f [],())) (fun x=>!decide (x∈s.1.getD f [])) (fun x _=>by
       show(Ar4.F (x,s.1.getD f [],())).map (·.1)=_;rw[Ar4.eq,Ar4.T,Ap9.val _ x (by have:=htf.1.2;omega)];rfl) (by have:=hti.1.2;omega)
     have hwj:w=(j:Int):=by
       rcases hw' with⟨-,hall⟩|⟨j',a1,a2,a3,a4⟩
       . have:=hall _ (A0z 0 hj);simp only[Bool.not_eq_false',decide_eq_true_eq]at this;exact absurd this hj1
       . simp only[Bool.not_eq_true',decide_eq_false_iff_not]at a3;have:j'=j:=by
           rcases Nat.lt_trichotomy j' j with h|h|h
           . exact absurd (hj2 j' h) a3
           . exact h
           . have:=a4 j h;simp only[Bool.not_eq_false',decide_eq_true_eq]at this;exact absurd this hj1
         rw[a2,this]
     subst hwj;have d1:Ab7.F ((s.1,(s.2.1,(s.2.2.1,s.2.2.2))),(i:Int),(j:Int),())=_:=Ab7.val s h i j hi (by omega);have d2:Ad3.R q ((s.1,(s.2.1,(s.2.2.1,s.2.2.2))),(f:Int),(M:Int),())=_:=r5 q (by omega);rw[hT,Ad3.T,if_neg (by simp;omega),if_pos (idxI.2 hf),if_pos (idxI.2 hi)];simp only[Int.toNat_natCast,hw,Option.bind_some,Ab3.val s.1 h.1 i hi];rw[if_pos (idxI.2 (by omega)),d1];simp only[Option.bind_some,hfj,d2,p1]
   . obtain⟨q,rfl⟩:∃ p,q=p+1:=⟨q-1,by omega⟩;have d1:Aa2.F ((s.1,(s.2.1,(s.2.2.1,s.2.2.2))),(i:Int),(j:Int),())=_:=Aa2.val s h i j hi (by omega);have d2:Ae3.R q ((s.1,(s.2.1,(s.2.2.1,s.2.2.2))),(f:Int),(M:Int),())=_:=r6 q (by omega);refine Ae3.of (Ae3.R q) s.1 s.2.1 s.2.2.1 s.2.2.2 (f:Int) (i:Int) ?_;obtain⟨x,-,hg⟩:=Goes.loop (σ:=Unit) (R:=((MatV×Unit)×Unit)) (fun k m _=>Ae3.l5 (Ae3.R q) k s.1 s.2.1 s.2.2.1 s.2.2.2 (f:Int) (i:Int) (s.1.getD i []) (m:Int) 0 0 0 []) j (fun _ _=>True) (fun m _ hm _=>⟨(),trivial,Goes.succ fun k=>by
       rw[Ae3.l5_eq,if_pos (idxI.2 hf),if_pos (idxI.2 (by omega))];simp only[Int.toNat_natCast,Ak6.val _ _ (show(s.1.getD f []).length<4611686018427387904 by have:=htf.1.2;omega),Option.bind_some];rw[if_pos (decide_eq_true (hj2 m hm)),A0x (by have:=hti.1.2;omega)]⟩) 0 () (Nat.zero_le _) trivial
     refine Ev.of_eq (hg _ ((Ev.const _).succ fun k=>?_)) fun k=>?_
     . rw[Ae3.l5_eq,if_pos (idxI.2 hf),if_pos (idxI.2 hj)];simp only[Int.toNat_natCast,Ak6.val _ _ (show(s.1.getD f []).length<4611686018427387904 by have:=htf.1.2;omega),Option.bind_some];rw[if_neg (fun hh=>hj1 (of_decide_eq_true hh)),Aa1.val s.1 h.1 i hi];simp only[Option.bind_some];rw[if_pos (idxI.2 (by omega)),hfj,d2];simp only[Option.bind_some,d1,p2]
     . rw[Ae3.T,if_neg (by simp;omega),if_pos (idxI.2 hi),Int.toNat_natCast];rfl
theorem Ad1.val (xs:List Int) (h:xs.length≤1048576):Ad1.F (xs,())=some ((xs,()),()):=by
 rw[Ad1.eq,Ad1.T,if_pos (by simp only[List.length_nil,bigA];omega)];rfl
theorem Am8.val (c:List (List Int)) (h:CplxOk c):Am8.F (c,3,())=some ((c,()),()):=by
 have hn:=h.small.1;refine Am8.of _ _ ?_;obtain⟨s,hs,hg⟩:=Goes.loop (R:=((List (List Int)×Unit)×Unit)) (fun k i (x:List (List Int))=>Am8.l3 k c 3 (i:Int) [] x) c.length (fun i x=>x=c.take i) (fun i x hi h2=>⟨_,rfl,Goes.succ fun k=>by
   have h4:=(h.2 i hi).1.1.2;rw[Am8.l3_eq,if_pos (ltI.2 hi),if_pos (idxI.2 hi),A0B (x:=(3:Int)+1) (by omega) (by omega)];simp only[Int.toNat_natCast,Ad1.val _ (h.small.2 _ (A0z [] hi)),Option.bind_some];rw[if_pos (by simp only[decide_eq_true_eq];omega),if_pos (idxI.2 hi),if_pos (by rw[h2];simp only[List.length_take,List.length_cons,List.length_nil,bigA];omega),A0x (by omega),h2,List.take_add_one,List.getElem?_eq_getElem hi,Option.toList_some,A0y hi]⟩) 0 [] (Nat.zero_le _) rfl
 rw[List.take_of_length_le (Nat.le_refl _)]at hs;refine Ev.of_eq (hg _ ((Ev.const _).succ fun k=>?_)) fun k=>rfl;rw[Am8.l3_eq,if_neg (by simp),hs]
theorem Goes.push {A R:Type} (L:Nat->Nat->List A->Option R) (n:Nat) (f:Nat->A) (hstep:∀ i s,i<n->s.length=i->Goes (fun k=>L k i s) (fun k=>L k (i+1) (s++[f i]))):Goes (fun k=>L k 0 []) (fun k=>L k n ((List.range n).map f)):=by
 obtain⟨s,hs,hg⟩:=Goes.loop (R:=R) L n (fun i s=>s=(List.range i).map f) (fun i s hi h2=>⟨s++[f i],by rw[h2,List.range_succ,List.map_append];rfl,hstep i s hi (by rw[h2];simp)⟩) 0 [] (Nat.zero_le _) rfl;rw[<-hs];exact hg
theorem A1n {A:Type} {s:List A} {x:A} {i:Nat} (h:s.length=i) (hi:i<1048576):s.length+[x].length≤bigA:=by simp only[List.length_cons,List.length_nil,bigA];omega
theorem A0J {A:Type} (f:Nat->A) {n i:Nat} (d:A) (h:i<n):((List.range n).map f).getD i d=f i:=by simp[List.getD_eq_getElem?_getD,h]
theorem Al6.val (m:MatV) (h:m.2.2.2.length≤1048576):Al6.F (m,())=some ((m,()),()):=by
 have hT:Al6.F (m,())=Al6.T m.1 m.2.1 m.2.2.1 m.2.2.2:=Al6.eq _ _ _ _;rw[hT,Al6.T,Ab9.val _ h];rfl
def A2z (c:List (List Int)) (g:A1i->MatV):List MatV:=(arr c c.length).map g
theorem A1Z (c:List (List Int)) (g:A1i->MatV):(A2z c g).length=off c c.length:=by simp[A2z,A0M]
theorem A1C (c:List (List Int)) (g:A1i->MatV):A2z c g=(List.range (arr c c.length).length).map fun q=>g ((arr c c.length).getD q (0,0,0)):=by
 rw[A2z];apply List.ext_getElem
 . simp
 . intro i h1 h2;simp only[List.length_map]at h1;simp[h1]
theorem Aj2.val (c:List (List Int)) (p:Int) (st:List Int) (f:A1i×Unit->Option (MatV×Unit)) (g:A1i->MatV) (h:CplxOk c) (hst:st.length≤1048576)
   (hf:∀ e∈arr c c.length,f (e,())=some (g e,())/\(g e).2.2.2.length≤1048576):Aj2.F (c,p,st,f,())=some (((c,p,st,A2z c g),()),()):=by
 have ho:=A1w h (Nat.le_refl c.length);have hn:=h.1;refine Aj2.of _ _ _ _ ?_;have hp:=Goes.push (R:=((ShfV×Unit)×Unit)) (fun k i (s:List MatV)=>Aj2.l3 k f ((arr c c.length).length:Int) (i:Int) [] 0 [] [] c p st s (arr c c.length)) (arr c c.length).length (fun q=>g ((arr c c.length).getD q (0,0,0))) (fun i s hi hs=>Goes.succ fun k=>by
   obtain⟨h1,h2⟩:=hf _ (A0z (0,0,0) hi);rw[A0M]at hi;rw[Aj2.l3_eq,if_pos (by rw[A0M];exact ltI.2 hi),if_pos (by rw[A0M];omega)];simp only[Int.toNat_natCast,h1,Option.bind_some,Al6.val _ h2];rw[if_pos (A1n hs (by omega)),A0x (by omega)])
 refine Ev.of_eq (hp _ ((Ev.const _).succ fun k=>?_)) fun k=>?_
 . rw[Aj2.l3_eq,if_neg (by simp),<-A1C]
 . rw[Aj2.T,Ad7.same c h.small h.sorted,Ab9.val _ hst,Ae0.val c h];rfl
def newM (p:Int) (st:List Int) (e:A1i):MatV:=(p,st.getD e.1.toNat 0,st.getD e.2.2.toNat 0,List.replicate ((st.getD e.1.toNat 0).toNat*(st.getD e.2.2.toNat 0).toNat) 0)
theorem A4J {st:List Int} (h:A0Q 0 3 st) (k:Nat):((st.getD k 0).toNat:Int)=st.getD k 0/\(st.getD k 0).toNat≤3:=by
 by_cases hk:k<st.length
 . have:=h _ (A0z 0 hk);omega
 . rw[List.getD_eq_getElem?_getD,List.getElem?_eq_none (by omega)];simp
theorem Af4.val (c:List (List Int)) (p:Int) (st:List Int) (h:CplxOk c) (hl:st.length=c.length) (hst:A0Q 0 3 st):Af4.F (c,p,st,())=some (((c,p,st,A2z c (newM p st)),()),()):=by
 have hn:=h.1;refine Af4.of _ _ _ ?_;obtain⟨x,hx,hg⟩:=Goes.loop (R:=((ShfV×Unit)×Unit)) (fun k i (x:List MatV)=>Af4.l3 k c p st (i:Int) [] 0 [] [] c p st x) c.length (fun i x=>x=(arr c i).map (newM p st)) (fun i x hi h2=>by
   have hoff:=A1w h (show i≤c.length by omega);have h5:=A1y h hi;have e5:(fcs c i).length=(A0S (c.getD i [])).length:=by simp[fcs]
   refine⟨_,rfl,(Goes.succ fun k=>by rw[Af4.l3_eq,if_pos (ltI.2 hi),Aa1.val c h i hi]).trans ?_⟩;obtain⟨y,hy,hg2⟩:=Goes.loop (R:=((ShfV×Unit)×Unit)) (fun k j (y:List MatV)=>Af4.l7 k c p st (i:Int) (j:Int) [] 0 [] [] c p st y (fcs c i)) (fcs c i).length (fun j y=>y=(arr c i).map (newM p st)++(List.range j).map fun(j:Nat)=>newM p st ((i:Int),(j:Int),(fcs c i).getD j 0)) (fun j y hj h3=>⟨_,rfl,Goes.succ fun k=>by
     obtain⟨q,hq,hq'⟩:=A3L h hi (A0z 0 hj);obtain⟨z1,z1'⟩:=A4J hst i;obtain⟨z2,z2'⟩:=A4J hst q;have z:=Ad5.val p (st.getD i 0).toNat (st.getD q 0).toNat (by omega) (by omega);rw[z1,z2]at z;rw[Af4.l7_eq,if_pos (ltI.2 hj),if_pos (idxI.2 (by omega)),if_pos (idxI.2 hj)];simp only[Int.toNat_natCast];rw[hq,if_pos (idxI.2 (by omega))];simp only[Int.toNat_natCast,z,Option.bind_some];rw[if_pos (by rw[h3];simp only[List.length_append,List.length_map,List.length_range,List.length_cons,List.length_nil,A0M,bigA];omega),A0x (by omega),h3,List.range_succ,List.map_append,List.append_assoc];simp only[List.map_cons,List.map_nil,newM,hq,Int.toNat_natCast]⟩) 0 x (Nat.zero_le _) (by simp[h2])
   refine hg2.trans (Goes.succ fun k=>?_);rw[Af4.l7_eq,if_neg (by simp),A0x (by omega),hy,A2j,List.map_append,A3f,List.map_map];rfl) 0 [] (Nat.zero_le _) rfl
 refine Ev.of_eq (hg _ ((Ev.const _).succ fun k=>?_)) fun k=>?_
 . rw[Af4.l3_eq,if_neg (by simp),hx];rfl
 . rw[Af4.T,Am8.val c h,Ad1.val _ (by omega)];rfl
noncomputable def A0m (s:ShfV) (f i:Nat):MatV:=match Ad3.F (s,(f:Int),(i:Int),())with
 | some r=>r.1.1
 | none=>(0,0,0,[])
theorem A3r {s:ShfV} (h:A0v s) {f i:Nat} (hf:f<s.1.length) (hi:i<s.1.length) (hsub:∀ x∈s.1.getD f [],x∈s.1.getD i []) :
   MatOk (A0m s f i)/\Ad3.F (s,(f:Int),(i:Int),())=some ((A0m s f i,()),())/\Ae3.F (s,(f:Int),(i:Int),())=some ((A0m s f i,()),()):=by
 have htf:=(h.1.2 f hf).1;have hle:=A0t (A1G htf.2.2) hsub;obtain⟨m,m0,m1,m2,m3,m4,m5,m6⟩:=A1k s h f hf ((s.1.getD i []).length-(s.1.getD f []).length) i hi (by omega) hsub;have c1:Ad3.F (s,(f:Int),(i:Int),())=some ((m,()),()):=Ad3.ofR ⟨_,fun q hq=>m5 q (Nat.lt_of_succ_le hq)⟩;have c2:Ae3.F (s,(f:Int),(i:Int),())=some ((m,()),()):=Ae3.ofR ⟨_,fun q hq=>m6 q (Nat.lt_of_succ_le hq)⟩;have e:A0m s f i=m:=by unfold A0m;rw[c1]
 rw[e];exact⟨m1,c1,c2⟩
theorem A3i {t:List Int} {j:Nat}:∀ x∈A0F t j,x∈t:=by
 intro x hx;unfold A0F at hx;rw[List.mem_append]at hx;exact hx.elim List.mem_of_mem_take List.mem_of_mem_drop
theorem A4W (c:List (List Int)) (im:List Int) {s t:List Int} (h:∀ x∈s,x∈t):∀ x∈imgS c im s,x∈imgS c im t:=by
 intro x hx;have h1:=(A1d (imgL c im s)).2 x;have h2:=(A1d (imgL c im t)).2 x;rw[imgS,h2];rw[imgS,h1]at hx;unfold imgL at *;obtain⟨v,hv,rfl⟩:=List.mem_map.1 hx;exact List.mem_map.2 ⟨v,h v hv,rfl⟩
def plAt (s:ShfV) (c:List (List Int)) (im:List Int) (k:Nat):Nat:=A0G s.1 (imgS c im (c.getD k []))
def A0X (s:ShfV) (c:List (List Int)) (im:List Int):List Int:=(List.range c.length).map fun k=>((plAt s c im k:Nat):Int)
def A0I (s:ShfV) (c:List (List Int)) (im:List Int):List Int:=(List.range c.length).map fun k=>s.2.2.1.getD (plAt s c im k) 0
noncomputable def A1D (s:ShfV) (c:List (List Int)) (im:List Int):List MatV:=A2z c fun e=>A0m s (plAt s c im e.2.2.toNat) (plAt s c im e.1.toNat)
noncomputable def pulS (s:ShfV) (c:List (List Int)) (im:List Int):ShfV:=(c,s.2.1,A0I s c im,A1D s c im)
theorem A0u {s:ShfV} {c:List (List Int)} {im:List Int} (hm:A3e c s.1 im) {k:Nat} (hk:k<c.length):plAt s c im k<s.1.length/\s.1.getD (plAt s c im k) []=imgS c im (c.getD k []):=A0C (hm.2 _ (A0z [] hk))
theorem A2M {s:ShfV} (h:A0v s) (c:List (List Int)) (im:List Int):A0Q 0 3 (A0I s c im):=fun x hx=>by
 unfold A0I at hx;obtain⟨k,-,rfl⟩:=List.mem_map.1 hx;obtain⟨h1,h2⟩:=A4J h.2.2.1.2.1 (plAt s c im k);omega
theorem A2m {c:List (List Int)} (hc:CplxOk c) {k j:Nat} (hk:k<c.length) (hj:j<(fcs c k).length):∃ f:Nat,(fcs c k).getD j 0=(f:Int)/\f<c.length/\∀ x∈c.getD f [],x∈c.getD k []:=by
 have hfl:=A0P c k;have h1:1<(c.getD k []).length:=by
   by_cases h:1<(c.getD k []).length
   . exact h
   . rw[if_neg h]at hfl;omega
 rw[if_pos h1]at hfl;have hj':j<(c.getD k []).length:=by omega
 have hmem:A0F (c.getD k []) j∈A0S (c.getD k []):=mem_faces.2 ⟨h1,j,hj',rfl⟩;obtain⟨m1,m2⟩:=A0C (A1L hc hk hmem);refine⟨A0G c (A0F (c.getD k []) j),?_,m1,fun x hx=>?_⟩
 . have e1:fcs c k=(List.range (c.getD k []).length).map fun q=>((A0G c (A0F (c.getD k []) q):Nat):Int):=by
     unfold fcs A0S;rw[if_pos h1,List.map_map];rfl
   rw[e1,A0y (by simpa using hj')];simp only[List.getElem_map,List.getElem_range]
 . rw[m2]at hx;exact A3i x hx
theorem A4D {s:ShfV} {c:List (List Int)} {im:List Int} (h:A0v s) (hc:CplxOk c) (hm:A3e c s.1 im) {k j f:Nat} (hk:k<c.length) (hj:j<(fcs c k).length) (hf:(fcs c k).getD j 0=(f:Int)) :
   f < c.length/\MatOk (A0m s (plAt s c im f) (plAt s c im k))/\Ad3.F (s,((plAt s c im f:Nat):Int),((plAt s c im k:Nat):Int),())=some ((A0m s (plAt s c im f) (plAt s c im k),()),()) ∧
     Ae3.F (s,((plAt s c im f:Nat):Int),((plAt s c im k:Nat):Int),())=some ((A0m s (plAt s c im f) (plAt s c im k),()),()):=by
 obtain⟨f',e1,e2,e3⟩:=A2m hc hk hj;have:f=f':=by rw[hf]at e1;omega
 subst this;obtain⟨p1,p2⟩:=A0u hm e2;obtain⟨q1,q2⟩:=A0u hm hk;exact⟨e2,A3r h p1 q1 (by rw[p2,q2];exact A4W c im e3)⟩
theorem A2u (s:ShfV) (c:List (List Int)) (im:List Int) {k:Nat} (hk:k<c.length):(A0X s c im).getD k 0=((plAt s c im k:Nat):Int):=A0J _ 0 hk
theorem A0g (s:ShfV) (c:List (List Int)) (im:List Int):(A1D s c im).length=off c c.length:=A1Z _ _
theorem Aj1.val {s:ShfV} {c:List (List Int)} {im:List Int} (h:A0v s) (hc:CplxOk c) (hm:A3e c s.1 im) (e:A1i) (he:e∈arr c c.length) :
   Aj1.cloG (s,A0X s c im,()) (e,())=some (A0m s (plAt s c im e.2.2.toNat) (plAt s c im e.1.toNat),())/\(A0m s (plAt s c im e.2.2.toNat) (plAt s c im e.1.toNat)).2.2.2.length≤1048576:=by
 simp only[arr,List.mem_flatMap,List.mem_range,A3f,List.mem_map]at he;obtain⟨k,hk,j,hj,rfl⟩:=he;obtain⟨f,hf,hf',-⟩:=A2m hc hk hj;obtain⟨-,r1,r2,-⟩:=A4D h hc hm hk hj hf;have r2:Ad3.F ((s.1,(s.2.1,(s.2.2.1,s.2.2.2))),((plAt s c im f:Nat):Int),((plAt s c im k:Nat):Int),())=_:=r2;have hpl:(A0X s c im).length=c.length:=by simp[A0X]
 simp only[Int.toNat_natCast,hf];refine⟨?_,by have h2:=A4X r1.2.1 r1.2.2.1;have:=r1.2.2.2.1;omega⟩;show(Aj1.F (((k:Int),(j:Int),(f:Int)),s,A0X s c im,())).map (·.1)=_;have hT:Aj1.F (((k:Int),(j:Int),(f:Int)),s,A0X s c im,())=Aj1.T (k:Int) (j:Int) (f:Int) s.1 s.2.1 s.2.2.1 s.2.2.2 (A0X s c im):=Aj1.eq _ _ _ _ _ _ _ _;rw[hT,Aj1.T,if_pos (idxI.2 (by omega)),if_pos (idxI.2 (by omega))];simp only[Int.toNat_natCast,A2u s c im hf',A2u s c im hk,r2];rfl
theorem Ak0.val {s:ShfV} {c:List (List Int)} {im:List Int} (h:A0v s) (hc:CplxOk c) (hm:A3e c s.1 im):Ak0.F (s,c,im,())=some ((pulS s c im,()),()):=by
 have hn:=hc.1;have hl:=h.2.2.1.1;refine Ak0.of s.1 s.2.1 s.2.2.1 s.2.2.2 c im ?_;obtain⟨y,hy,hg⟩:=Goes.loop (R:=((ShfV×Unit)×Unit)) (fun k i (y:List Int×List Int)=>Ak0.l3 k im c (c.length:Int) (i:Int) s.1 s.2.1 s.2.2.1 s.2.2.2 c [] 0 [] [] y.1 y.2) c.length (fun i y=>y=((List.range i).map (fun k=>((plAt s c im k:Nat):Int)),(List.range i).map fun k=>s.2.2.1.getD (plAt s c im k) 0)) (fun i y hi h2=>⟨_,rfl,Goes.succ fun k=>by
   have hmem:=A0z ([]:List Int) hi;have himg:=Aj9.val c im _ hc hmem (cplx4 hc hmem) hm.1;obtain⟨p1,p2⟩:=A0u hm hi;have hs:=A1M h.1 (hm.2 _ hmem);rw[h2,Ak0.l3_eq,if_pos (ltI.2 hi),if_pos (idxI.2 hi)];simp only[Int.toNat_natCast,himg,Option.bind_some,hs];rw[if_pos (by simp only[List.length_map,List.length_range,List.length_cons,List.length_nil,bigA];omega),if_pos (idxI.2 (by unfold plAt at p1;omega)),if_pos (by simp only[List.length_map,List.length_range,List.length_cons,List.length_nil,bigA];omega),A0x (by omega),List.range_succ,List.map_append,List.map_append];rfl⟩) 0 ([],[]) (Nat.zero_le _) rfl
 have hso:=Aj2.val c s.2.1 (A0I s c im) (Aj1.cloG (s,A0X s c im,())) (fun e=>A0m s (plAt s c im e.2.2.toNat) (plAt s c im e.1.toNat)) hc (by simp[A0I];omega) (fun e he=>Aj1.val h hc hm e he);refine Ev.of_eq (hg _ ((Ev.const _).succ fun k=>?_)) fun k=>rfl;rw[hy,Ak0.l3_eq,if_neg (by simp)];have hso:Aj2.F (c,s.2.1,(List.range c.length).map (fun k=>s.2.2.1.getD (plAt s c im k) 0),Aj1.cloG ((s.1,(s.2.1,(s.2.2.1,s.2.2.2))),(List.range c.length).map (fun k=>((plAt s c im k:Nat):Int)),()),())=_:=hso;rw[hso];rfl
theorem Af3.val {s:ShfV} {c:List (List Int)} {im:List Int} (h:A0v s) (hc:CplxOk c) (hm:A3e c s.1 im):Af3.F (s,c,im,())=some ((pulS s c im,()),()):=by
 have hn:=hc.1;have hl:=h.2.2.1.1;have ho:=A1w hc (Nat.le_refl c.length);refine Af3.of s.1 s.2.1 s.2.2.1 s.2.2.2 c im ?_;obtain⟨y,hy,hg⟩:=Goes.loop (R:=((ShfV×Unit)×Unit)) (fun k i (y:List Int×List Int)=>Af3.l4 k s.1 s.2.1 s.2.2.1 s.2.2.2 c im (i:Int) [] 0 [] [] y.1 y.2) c.length (fun i y=>y=((List.range i).map (fun k=>((plAt s c im k:Nat):Int)),(List.range i).map fun k=>s.2.2.1.getD (plAt s c im k) 0)) (fun i y hi h2=>⟨_,rfl,Goes.succ fun k=>by
   have hmem:=A0z ([]:List Int) hi;have himg:=Am9.val c im _ hc hmem (cplx4 hc hmem) hm.1;obtain⟨p1,p2⟩:=A0u hm hi;have hs:=A1X h.1 (hm.2 _ hmem);rw[h2,Af3.l4_eq,if_pos (ltI.2 hi),if_pos (idxI.2 hi)];simp only[Int.toNat_natCast,himg,Option.bind_some,hs];rw[if_pos (by simp only[List.length_map,List.length_range,List.length_cons,List.length_nil,bigA];omega),if_pos (idxI.2 (by unfold plAt at p1;omega)),if_pos (by simp only[List.length_map,List.length_range,List.length_cons,List.length_nil,bigA];omega),A0x (by omega),List.range_succ,List.map_append,List.map_append];rfl⟩) 0 ([],[]) (Nat.zero_le _) rfl
 have hnew:Af4.F (c,s.2.1,A0I s c im,())=_:=Af4.val c s.2.1 (A0I s c im) hc (by simp[A0I]) (A2M h c im);have hpl:(A0X s c im).length=c.length:=by simp[A0X]
 obtain⟨x,⟨hx1,hx2⟩,hg3⟩:=Goes.loop (R:=((ShfV×Unit)×Unit)) (fun k i (x:List MatV)=>Af3.l11 k s.1 s.2.1 s.2.2.1 s.2.2.2 c (i:Int) [] 0 [] [] (A0X s c im) c s.2.1 (A0I s c im) x) c.length (fun i x=>x.length=off c c.length/\x.take (off c i)=(A1D s c im).take (off c i)) (fun i x hi ⟨q1,q2⟩=>by
   have e5:(fcs c i).length=(A0S (c.getD i [])).length:=by simp[fcs]
   have e6 := A1y hc hi;obtain⟨z,⟨hz1,hz2⟩,hg2⟩:=Goes.loop (R:=((ShfV×Unit)×Unit)) (fun k j (z:List MatV)=>Af3.l15 k s.1 s.2.1 s.2.2.1 s.2.2.2 c (i:Int) (j:Int) [] 0 [] [] (A0X s c im) c s.2.1 (A0I s c im) z (fcs c i)) (fcs c i).length (fun j z=>z.length=off c c.length/\z.take (off c i+j)=(A1D s c im).take (off c i+j)) (fun j z hj ⟨r1,r2⟩=>by
     obtain⟨f,hf,hf',-⟩:=A2m hc hi hj;obtain⟨-,k1,-,k3⟩:=A4D h hc hm hi hj hf;have k3:Ae3.F ((s.1,(s.2.1,(s.2.2.1,s.2.2.2))),((plAt s c im f:Nat):Int),((plAt s c im i:Nat):Int),())=_:=k3;have hlt:=A2Y hi hj;have hplace:=Ac3.val c hc i (by omega) j (by omega);refine⟨z.set (off c i+j) (A0m s (plAt s c im f) (plAt s c im i)),⟨by simp[r1],?_⟩,Goes.succ fun k=>?_⟩
     . rw[show off c i+(j+1)=off c i+j+1 by omega,List.take_add_one,List.take_add_one,List.take_set_of_le (Nat.le_refl _),r2];have e1:(A1D s c im)[off c i+j]? = some (A0m s (plAt s c im f) (plAt s c im i)):=by
         have e2:(A1D s c im).getD (off c i+j) (0,0,0,[])=A0m s (plAt s c im f) (plAt s c im i):=by
           rw[A1D,A1C,A0J _ _ (by rw[A0M];exact hlt),A2v c hi hj,hf];simp only[Int.toNat_natCast]
         rw[A0y (by rw[A0g];omega)]at e2;rw[<-e2,List.getElem?_eq_getElem (by rw[A0g];omega)]
       rw[e1,List.getElem?_set_self (by omega)]
     . rw[Af3.l15_eq,if_pos (ltI.2 hj),hplace];simp only[Option.bind_some];rw[if_pos (idxI.2 hj),Int.toNat_natCast j,hf,if_pos (idxI.2 (by omega)),if_pos (idxI.2 (by omega))];simp only[Int.toNat_natCast,A2u s c im hf',A2u s c im hi,k3,Option.bind_some];rw[if_pos (idxI.2 (by omega)),A0x (by omega)]) 0 x (Nat.zero_le _) ⟨q1,by simpa using q2⟩
   refine⟨z,⟨hz1,by rw[off];exact hz2⟩,(Goes.succ fun k=>?_).trans (hg2.trans (Goes.succ fun k=>?_))⟩
   . rw[Af3.l11_eq,if_pos (ltI.2 hi),Aa1.val c hc i hi];rfl
   . rw[Af3.l15_eq,if_neg (by simp),A0x (by omega)]) 0 (A2z c (newM s.2.1 (A0I s c im))) (Nat.zero_le _) ⟨A1Z _ _,by simp[off]⟩
 have hxe:x=A1D s c im:=by
   rw[List.take_of_length_le (by omega),List.take_of_length_le (by rw[A0g];exact Nat.le_refl _)]at hx2;exact hx2
 refine Ev.of_eq (hg _ (Ev.succ (hg3 _ ((Ev.const _).succ fun k=>?_)) fun k=>?_)) fun k=>rfl
 . rw[Af3.l11_eq,if_neg (by simp),hxe];rfl
 . rw[hy,Af3.l4_eq,if_neg (by simp)];have hnew:Af4.F (c,s.2.1,(List.range c.length).map (fun k=>s.2.2.1.getD (plAt s c im k) 0),())=_:=hnew;rw[hnew];rfl
def IsIn (p c:List (List Int)):Prop:=∀ s∈p,s∈c
theorem An0.val (p c:List (List Int)) (hp:p.length≤1048576) (h:SmL c):∃ v,An0.F (p,c,())=some ((v,()),())/\(v=true↔IsIn p c):=by
 obtain⟨v,hv,hv'⟩:=Ev.allP (L:=fun k i=>An0.l2 k p c (i:Int)) (a:=()) (b:=()) (n:=p.length) (fun i=>p.getD i []∈c) true (fun i hi=>by
   have E:=fun k=>An0.l2_eq k p c (i:Int);obtain⟨r,hr,hr'⟩:=Aa0.val c (p.getD i []) h;simp only[if_pos (ltI.2 hi),if_pos (idxI.2 hi),Int.toNat_natCast,hr,Option.bind_some,A0x (show i<4611686018427387904 by omega)]at E;by_cases hm:p.getD i []∈c
   . exact .inl ⟨hm,fun k=>by rw[E,if_neg (by simp only[decide_eq_true_eq,hr'];exact fun hh=>hh hm)]⟩
   . exact .inr ⟨hm,fun k=>by rw[E,if_pos (by simp only[decide_eq_true_eq,hr'];exact hm)]⟩) ((Ev.const _).succ fun k=>by rw[An0.l2_eq,if_neg (by simp)]) 0 (Nat.zero_le _)
 refine⟨v,An0.of _ _ (hv.of_eq fun k=>rfl),hv'.trans ⟨fun⟨_,h⟩ s hs=>?_,fun h=>⟨rfl,fun j _ hj=>h _ (A0z _ hj)⟩⟩⟩;obtain⟨j,hj,rfl⟩:=List.getElem_of_mem hs;have:=h j (Nat.zero_le _) hj
 rwa [A0y hj]at this
theorem Ao6.val (m:MatV) (p a b:Int) (hm:m.2.2.2.length<4611686018427387904):∃ v,Ao6.F (m,p,a,b,())=some ((v,()),())/\(v=true↔MatOk m/\m.1=p/\m.2.1=b/\m.2.2.1=a):=by
 obtain⟨q,r,cc,xs⟩:=m;obtain⟨v1,h1,h1'⟩:=Ao1.val (q,r,cc,xs) hm;rw[Ao6.eq,Ao6.T,h1];simp only[Option.bind_some];cases v1 with
 | false=>exact⟨false,by rw[if_neg (by simp)],by simp only[Bool.false_eq_true,false_iff];exact fun hh=>absurd (h1'.2 hh.1) (by simp)⟩
 | true =>
   have hmat:=h1'.1 rfl;rw[if_pos rfl];by_cases e1:q=p
   . rw[if_pos (by simp only[beq_iff_eq];exact e1)];by_cases e2:r=b
     . rw[if_pos (by simp only[beq_iff_eq];exact e2)];exact⟨_,rfl,by simp only[beq_iff_eq];exact⟨fun e3=>⟨hmat,e1,e2,e3⟩,fun hh=>hh.2.2.2⟩⟩
     . exact⟨false,by rw[if_neg (by simp only[beq_iff_eq];exact e2)],by simp only[Bool.false_eq_true,false_iff];exact fun hh=>e2 hh.2.2.1⟩
   . exact⟨false,by rw[if_neg (by simp only[beq_iff_eq];exact e1)],by simp only[Bool.false_eq_true,false_iff];exact fun hh=>e1 hh.2.1⟩
theorem A4B {c:List (List Int)}:∀ {n q:Nat},q<off c n->∃ s,s<n/\∃ j,j<(fcs c s).length/\q=off c s+j:=by
 intro n;induction n with
 | zero=>intro q h;simp[off]at h
 | succ n ih =>
   intro q h;by_cases hq:q<off c n
   . obtain⟨s,hs,j,hj,e⟩:=ih hq;exact⟨s,by omega,j,hj,e⟩
   . rw[off]at h;exact⟨n,by omega,q-off c n,by omega,by omega⟩
theorem Ae7.val (s:ShfV) (hsm:SmSh s):∃ v,Ae7.F (s,())=some ((v,()),())/\(v=true↔A0v s):=by
 obtain⟨c,p,st,ms⟩:=s;obtain⟨hc,hst,hms⟩:=hsm;have hc:SmL c:=hc;have hst:st.length≤1048576:=hst;have hms:SmMs ms:=hms;unfold A0v;simp only[];obtain⟨v1,h1,h1'⟩:=Ab2.val c hc;obtain⟨v2,h2,h2'⟩:=Af0.val p;obtain⟨v3,h3,h3'⟩:=Af8.val c st hc.1 hst;cases v1 with
 | false=>exact⟨false,Ae7.of _ _ _ _ ((Ev.const _).of_eq fun k=>by rw[Ae7.T,h1];rfl),by simp only[Bool.false_eq_true,false_iff];exact fun hh=>absurd (h1'.2 hh.1) (by simp)⟩
 | true =>
 cases v2 with
 | false=>exact⟨false,Ae7.of _ _ _ _ ((Ev.const _).of_eq fun k=>by rw[Ae7.T,h1,h2];rfl),by simp only[Bool.false_eq_true,false_iff];exact fun hh=>absurd (h2'.2 hh.2.1) (by simp)⟩
 | true =>
 cases v3 with
 | false=>exact⟨false,Ae7.of _ _ _ _ ((Ev.const _).of_eq fun k=>by rw[Ae7.T,h1,h2,h3];rfl),by simp only[Bool.false_eq_true,false_iff];exact fun hh=>absurd (h3'.2 hh.2.2.1) (by simp)⟩
 | true =>
 have hcx:=h1'.1 rfl;have hstalk:=h3'.1 rfl;have hcl:=hcx.1;have hoff:=A1w hcx (Nat.le_refl c.length);have hal:=A0M c c.length;obtain⟨A,hA⟩:∃ A,arr c c.length=A:=⟨_,rfl⟩;rw[hA]at hal;obtain⟨b,hb,hb'⟩:=Ev.allP (L:=fun k q=>Ae7.l5 k (A.length:Int) (q:Int) c p st ms A) (a:=()) (b:=()) (n:=A.length) (fun q=>q<ms.length/\∀ i j,i<c.length->j<(fcs c i).length->q=off c i+j->A3v c p st (ms.getD q (0,0,0,[])) i j) ((A.length:Int)==(ms.length:Int)) (fun q hq=>by
   obtain⟨i,hi,j,hj,e⟩:=A4B (show q<off c c.length by omega);have hg:=A2v c hi hj;rw[<-e,hA]at hg;obtain⟨x,hx,hxc⟩:=A3L hcx hi (A0z (0:Int) hj);have E:=fun k=>Ae7.l5_eq k (A.length:Int) (q:Int) c p st ms A;simp only[if_pos (ltI.2 hq),if_pos (idxI.2 hq),Int.toNat_natCast,hg,A0x (show q<4611686018427387904 by omega)]at E;have huniq:∀ i' j',i'<c.length->j'<(fcs c i').length->q=off c i'+j'->i'=i/\j'=j:=fun i' j' hi' hj' e'=>by
     have g2:=A2v c hi' hj';rw[<-e',hA,hg]at g2;simp only[Prod.mk.injEq,Int.ofNat_inj]at g2;exact⟨g2.1.symm,g2.2.1.symm⟩
   by_cases hqm:q<ms.length
   . have hml:(ms.getD q (0,0,0,[])).2.2.2.length<4611686018427387904:=by
       have:(ms.getD q (0,0,0,[])).2.2.2.length≤1048576:=hms.2 _ (A0z _ hqm);omega
     obtain⟨v,hv,hv'⟩:=Ao6.val (ms.getD q (0,0,0,[])) p (st.getD ((fcs c i).getD j 0).toNat 0) (st.getD i 0) hml;have hst2:=hstalk.1;simp only[if_neg (show ¬ decide ((q:Int)≥(ms.length:Int))=true by simp only[decide_eq_true_eq];omega),if_pos (idxI.2 hqm),if_pos (show 0≤(fcs c i).getD j 0/\(fcs c i).getD j 0<(st.length:Int)by rw[hx];omega),if_pos (show 0≤(i:Int)/\(i:Int)<(st.length:Int)by omega),hv,Option.bind_some]at E;cases v with
     | true=>exact .inl ⟨⟨hqm,fun i' j' hi' hj' e'=>by obtain⟨rfl,rfl⟩:=huniq i' j' hi' hj' e';exact hv'.1 rfl⟩,fun k=>by rw[E];rfl⟩
     | false=>exact .inr ⟨fun hh=>absurd (hv'.2 (hh.2 i j hi hj e)) (by simp),fun k=>by rw[E];rfl⟩
   . exact .inr ⟨fun hh=>hqm hh.1,fun k=>by rw[E,if_pos (by simp only[decide_eq_true_eq];omega)]⟩) ((Ev.const _).succ fun k=>by rw[Ae7.l5_eq,if_neg (by simp)]) 0 (Nat.zero_le _)
 refine⟨b,Ae7.of _ _ _ _ (hb.of_eq fun k=>?_),hb'.trans ?_⟩
 . rw[Ae7.T,h1,h2,h3,Ae0.val c hcx,hA];rfl
 . simp only[beq_iff_eq,Int.ofNat_inj];constructor
   . rintro⟨e,hall⟩;refine⟨hcx,h2'.1 rfl,hstalk,by omega,fun i hi j hj=>?_⟩;have:=A2Y hi hj;exact(hall (off c i+j) (Nat.zero_le _) (by omega)).2 i j hi hj rfl
   . rintro⟨-,-,-,e,hall⟩;exact⟨by omega,fun q _ hq=>⟨by omega,fun i j hi hj e'=>e'▸hall i hi j hj⟩⟩
theorem Ah2.val (s:ShfV) (h:A0v s) {k i j:Nat} (hk:k<s.1.length) (h3:2<(s.1.getD k []).length) (hi:i<(s.1.getD k []).length) (hj:j<(s.1.getD k []).length) (hij:i≠j) :
   Ah2.F (s,(k:Int),(i:Int),(j:Int),())=some ((mulM (A0q s k i) (A0q s (fc s.1 k i) (if i<j then j-1 else j)),()),()):=by
 have hT:Ah2.F (s,(k:Int),(i:Int),(j:Int),())=Ah2.T s.1 s.2.1 s.2.2.1 s.2.2.2 (k:Int) (i:Int) (j:Int):=Ah2.eq _ _ _ _ _ _ _;have h4:=(h.1.2 k hk).1.1.2;have hcl:=h.1.1;rw[hT,Ah2.T,Aa1.val s.1 h.1 k hk];simp only[Option.bind_some];by_cases hlt:i<j
 . obtain⟨f,F⟩:=A4I h hk h3 hi (show j-1+1<_ by omega);have g1:Aa2.F ((s.1,(s.2.1,(s.2.2.1,s.2.2.2))),(k:Int),(i:Int),())=_:=Aa2.val s h k i hk F.ilt;have g2:Aa2.F ((s.1,(s.2.1,(s.2.2.1,s.2.2.2))),(f:Int),((j-1:Nat):Int),())=_:=Aa2.val s h f (j-1) F.lt F.jlt;rw[if_pos (idxI.2 F.ilt),if_pos (by simp only[decide_eq_true_eq];omega),g1,A3u (by omega) (by omega)];simp only[Option.bind_some,Int.toNat_natCast,F.at_,g2,F.tim];rw[if_pos hlt,F.fc_]
 . obtain⟨f,F⟩:=A4I h hk h3 hi (show j+1<_ by omega);have g1:Aa2.F ((s.1,(s.2.1,(s.2.2.1,s.2.2.2))),(k:Int),(i:Int),())=_:=Aa2.val s h k i hk F.ilt;have g2:Aa2.F ((s.1,(s.2.1,(s.2.2.1,s.2.2.2))),(f:Int),(j:Int),())=_:=Aa2.val s h f j F.lt F.jlt;rw[if_pos (idxI.2 F.ilt),if_neg (by simp only[decide_eq_true_eq];omega),g1];simp only[Option.bind_some,Int.toNat_natCast,F.at_,g2,F.tim];rw[if_neg hlt,F.fc_]
theorem Ac4.val (s:ShfV) (h:A0v s):Ac4.F (s,())=some ((match A1h s with|none=>(-1,0,0,())|some (k,i,j)=>((k:Int),(i:Int),(j:Int),())),()):=by
 have hcl:=h.1.1;have hT:∀ r,Ev (fun k=>Ac4.T k s.1 s.2.1 s.2.2.1 s.2.2.2) r->Ac4.F (s,())=some r:=fun r hr=>Ac4.of _ _ _ _ hr;have main:=Goes.find (R:=((Int×Int×Int×Unit)×Unit)) (L:=fun n k=>Ac4.l2 n s.1 s.2.1 s.2.2.1 s.2.2.2 (k:Int)) (M:=fun _=>some ((-1,0,0,()),())) (n:=s.1.length) 0 (A1g s) (fun t:Nat×Nat×Nat=>(((t.1:Int),(t.2.1:Int),(t.2.2:Int),()),())) (fun k _ hk=>by
   obtain⟨t,ht⟩:∃ t,s.1.getD k []=t:=⟨_,rfl⟩;have h4:=(h.1.2 k hk).1.1;rw[ht]at h4;have e0:Goes (fun n=>Ac4.l2 n s.1 s.2.1 s.2.2.1 s.2.2.2 (k:Int)) (fun n=>Ac4.l6 n s.1 s.2.1 s.2.2.1 s.2.2.2 (k:Int) (t.length:Int) ((0:Nat):Int)):=Goes.succ fun n=>by rw[Ac4.l2_eq,if_pos (ltI.2 hk),if_pos (idxI.2 hk)];simp only[Int.toNat_natCast,ht];rfl
   by_cases h3:t.length<3
   . exact .inl ⟨by rw[A1g,ht,if_pos h3],e0.trans (Goes.succ fun n=>by rw[Ac4.l6_eq,if_pos (by simp only[decide_eq_true_eq];omega),if_neg (by simp only[decide_eq_true_eq];omega),A0x (by omega)])⟩
   have hw:A1g s k=(List.range' 0 (t.length-0)).findSome? (A3I s k t.length):=by rw[A1g,ht,if_neg h3]
   rw[hw];have inner:=Goes.find (R:=((Int×Int×Int×Unit)×Unit)) (L:=fun n i=>Ac4.l6 n s.1 s.2.1 s.2.2.1 s.2.2.2 (k:Int) (t.length:Int) (i:Int)) (M:=fun n=>Ac4.l2 n s.1 s.2.1 s.2.2.1 s.2.2.2 ((k+1:Nat):Int)) (n:=t.length) 0 (A3I s k t.length) (fun t:Nat×Nat×Nat=>(((t.1:Int),(t.2.1:Int),(t.2.2:Int),()),())) (fun i _ hi=>by
     have e1:Goes (fun n=>Ac4.l6 n s.1 s.2.1 s.2.2.1 s.2.2.2 (k:Int) (t.length:Int) (i:Int)) (fun n=>Ac4.l9 n s.1 s.2.1 s.2.2.1 s.2.2.2 (k:Int) (t.length:Int) (i:Int) ((i+1:Nat):Int)):=Goes.succ fun n=>by rw[Ac4.l6_eq,if_pos (ltI.2 hi),if_pos (by simp only[decide_eq_true_eq];omega),A0x (by omega)]
     have deep:=Goes.find (R:=((Int×Int×Int×Unit)×Unit)) (L:=fun n j=>Ac4.l9 n s.1 s.2.1 s.2.2.1 s.2.2.2 (k:Int) (t.length:Int) (i:Int) (j:Int)) (M:=fun n=>Ac4.l6 n s.1 s.2.1 s.2.2.1 s.2.2.2 (k:Int) (t.length:Int) ((i+1:Nat):Int)) (n:=t.length) (i+1) (A2S s k i) (fun t:Nat×Nat×Nat=>(((t.1:Int),(t.2.1:Int),(t.2.2:Int),()),())) (fun j hij hj=>by
       have A:=Ah2.val s h hk (by rw[ht];omega) (show i<_ by rw[ht];omega) (show j<_ by rw[ht];omega) (by omega);have B:=Ah2.val s h hk (by rw[ht];omega) (show j<_ by rw[ht];omega) (show i<_ by rw[ht];omega) (by omega);rw[if_pos (by omega)]at A;rw[if_neg (by omega)]at B;have A:Ah2.F ((s.1,(s.2.1,(s.2.2.1,s.2.2.2))),(k:Int),(i:Int),(j:Int),())=some ((sqA s k i j,()),()):=A;have B:Ah2.F ((s.1,(s.2.1,(s.2.2.1,s.2.2.2))),(k:Int),(j:Int),(i:Int),())=some ((sqB s k i j,()),()):=B;obtain⟨f,F⟩:=A4I h hk (by rw[ht];omega) (show i<_ by rw[ht];omega) (show j-1+1<_ by rw[ht];omega);have hA:sqA s k i j=mulM (A0q s k i) (A0q s f (j-1)):=by rw[sqA,F.fc_]
       obtain⟨b,hb,hb'⟩:=Ae5.same (sqA s k i j) (sqB s k i j) (by rw[hA];exact F.ok.small);have E2:=fun n=>Ac4.l9_eq n s.1 s.2.1 s.2.2.1 s.2.2.2 (k:Int) (t.length:Int) (i:Int) (j:Int);simp only[if_pos (ltI.2 hj),A,B,Option.bind_some,hb,A0x (show j<4611686018427387904 by omega)]at E2;cases b with
       | true=>exact .inl ⟨by rw[A2S,if_pos (hb'.1 rfl)],Goes.succ fun n=>by rw[E2,if_neg (by simp)]⟩
       | false=>exact .inr ⟨(k,i,j),by rw[A2S,if_neg (fun e=>absurd (hb'.2 e) (by simp))],(Ev.const _).succ fun n=>by rw[E2,if_pos (by simp)]⟩) (Goes.succ fun n=>by rw[Ac4.l9_eq,if_neg (by simp),A0x (by omega)]) (i+1) (Nat.le_refl _) (by omega)
     rcases deep with⟨d1,d2⟩|⟨r,d1,d2⟩
     . exact .inl ⟨d1,e1.trans d2⟩
     . exact .inr ⟨r,d1,e1 _ d2⟩) (Goes.succ fun n=>by rw[Ac4.l6_eq,if_neg (by simp),A0x (by omega)]) 0 (Nat.le_refl _) (Nat.zero_le _)
   rcases inner with⟨d1,d2⟩|⟨r,d1,d2⟩
   . exact .inl ⟨d1,e0.trans d2⟩
   . exact .inr ⟨r,d1,e0 _ d2⟩) (Goes.succ fun n=>by rw[Ac4.l2_eq,if_neg (by simp)]) 0 (Nat.le_refl _) (Nat.zero_le _)
 rcases main with⟨d1,d2⟩|⟨⟨k,i,j⟩,d1,d2⟩
 . rw[A1h,d1];exact hT _ ((d2 _ (Ev.const _)).of_eq fun n=>rfl)
 . rw[A1h,d1];exact hT _ (d2.of_eq fun n=>rfl)
def A1T (s:ShfV):Prop:=A0v s/\A1h s=none
theorem Aj6.val (s:ShfV) (hs:SmSh s):∃ v,Aj6.F (s,())=some ((v,()),())/\(v=true↔A1T s):=by
 have hT:Aj6.F (s,())=Aj6.T s.1 s.2.1 s.2.2.1 s.2.2.2:=Aj6.eq _ _ _ _;obtain⟨v,hv,hv'⟩:=Ae7.val s hs;have hv:Ae7.F ((s.1,(s.2.1,(s.2.2.1,s.2.2.2))),())=_:=hv;rw[hT,Aj6.T,hv];simp only[Option.bind_some];cases v with
 | false=>exact⟨false,by rw[if_pos (by simp)],by simp only[Bool.false_eq_true,false_iff];exact fun h=>absurd (hv'.2 h.1) (by simp)⟩
 | true =>
   have hok:=hv'.1 rfl;have hw:Ac6.F ((s.1,(s.2.1,(s.2.2.1,s.2.2.2))),())=_:=Ac6.val s hok;rw[if_neg (by simp),hw];simp only[Option.bind_some];cases hwt:A1h s with
   | none=>exact⟨true,rfl,by simp[A1T,hok,hwt]⟩
   | some t=>obtain⟨k,i,j⟩:=t;exact⟨false,rfl,by simp[A1T,hwt]⟩
theorem Af1.val (s:ShfV) (hs:SmSh s):∃ v,Af1.F (s,())=some ((v,()),())/\(v=true↔A1T s):=by
 have hT:Af1.F (s,())=Af1.T s.1 s.2.1 s.2.2.1 s.2.2.2:=Af1.eq _ _ _ _;obtain⟨v,hv,hv'⟩:=Ab1.val s hs;have hv:Ab1.F ((s.1,(s.2.1,(s.2.2.1,s.2.2.2))),())=_:=hv;rw[hT,Af1.T,hv];simp only[Option.bind_some];cases v with
 | false=>exact⟨false,by rw[if_pos (by simp)],by simp only[Bool.false_eq_true,false_iff];exact fun h=>absurd (hv'.2 h.1) (by simp)⟩
 | true =>
   have hok:=hv'.1 rfl;have hw:Ac4.F ((s.1,(s.2.1,(s.2.2.1,s.2.2.2))),())=_:=Ac4.val s hok;rw[if_neg (by simp),hw];simp only[Option.bind_some];cases hwt:A1h s with
   | none=>exact⟨true,rfl,by simp[A1T,hok,hwt]⟩
   | some t=>obtain⟨k,i,j⟩:=t;exact⟨false,by simp,by simp[A1T,hwt]⟩
theorem Ab6.val (xs:List Int) (h:xs.length≤1099511627776):Ab6.F (xs,())=some ((xs,()),()):=by
 refine Ab6.of xs ?_;have:=Goes.fill (L:=fun k i ys=>Ab6.l3 k xs (i:Int) ys) xs 0 (fun k i ys hi hy=>by
   rw[Ab6.l3_eq,if_pos (ltI.2 hi),if_pos (idxI.2 hi),if_pos (by omega),A0x (by omega)];simp only[Int.toNat_natCast]) (List.replicate xs.length 0) (by simp)
 refine Ev.of_eq (this _ ((Ev.const _).succ fun k=>?_)) fun k=>?_
 . rw[Ab6.l3_eq,if_neg (by simp)]
 . rw[Ab6.T,if_pos (by simp only[bigN];omega)];rfl
theorem Aa6.val (xs ys:List Int) (hn:xs.length<4611686018427387904):∃ b,Aa6.F (xs,ys,())=some ((b,()),())/\(b=true↔xs=ys):=by
 by_cases hl:xs.length=ys.length
 . obtain⟨b,hb,hb'⟩:=Ev.all (L:=fun k i=>Aa6.l4 k xs ys (i:Int)) (a:=()) (b:=()) (n:=xs.length) (fun i=>xs.getD i 0==ys.getD i 0) (fun k i hi=>by
     rw[Aa6.l4_eq,if_pos (ltI.2 hi),if_pos (idxI.2 hi),if_pos (by omega),A0x (by omega)];simp only[Int.toNat_natCast];exact ite_nb _ _ _) (fun k=>by rw[Aa6.l4_eq,if_neg (by simp)]) 0 (Nat.zero_le _)
   refine⟨b,Aa6.of _ _ (hb.of_eq fun k=>?_),by rw[hb',all_eq hl (fun x y=>x==y) (by simp)]⟩;rw[Aa6.T,if_neg (by simp[hl])];rfl
 . refine⟨false,Aa6.of _ _ ((Ev.const _).of_eq fun k=>?_),by simp;intro e;exact hl (by rw[e])⟩;rw[Aa6.T,if_pos (by simp;omega)]
theorem Aa6.refl (xs:List Int) (hn:xs.length<4611686018427387904):Aa6.F (xs,xs,())=some ((true,()),()):=by
 obtain⟨b,hb,hb'⟩:=Aa6.val xs xs hn;rw[hb,hb'.2 rfl]
theorem Ae8.val (xs:List Int) (l:Int) (h0:0≤l) (h1:l≤1048576) (hx:xs.length≤maxLen):∃ r,Ae8.F (xs,l,())=some ((r,()),())/\(r=-1∨0≤r/\r≤l/\Sm xs):=by
 have:xs.length≤9223372036854775807:=hx;rw[Ae8.eq,Ae8.T,A0B (by omega) (by omega)];by_cases h:l<xs.length
 . exact⟨-1,by rw[if_pos (by simp;omega)],.inl rfl⟩
 . exact⟨_,by rw[if_neg (by simp;omega)],.inr ⟨by omega,by omega,by unfold Sm;omega⟩⟩
theorem Ai1.val (xs:List (List Int)) (l:Int) (h0:0≤l) (h1:l≤1048576) (hx:xs.length≤maxLen) (hr:∀ x∈xs,x.length≤maxLen):∃ r,Ai1.F (xs,l,())=some ((r,()),())/\(r=-1∨0≤r/\r≤l/\SmL xs):=by
 have:xs.length≤9223372036854775807:=hx;by_cases h:l<xs.length
 . exact⟨-1,Ai1.of _ _ ((Ev.const _).of_eq fun k=>by rw[Ai1.T,A0B (by omega) (by omega),if_pos (by simp;omega)]),.inl rfl⟩
 obtain⟨r,hv,h2⟩:=A4L (fun k i s=>Ai1.l5 k xs s (i:Int)) xs [] Sm (fun i s hi s0 s1=>by
   have E:=fun k=>Ai1.l5_eq k xs s (i:Int);obtain⟨r,hr1,hr2⟩:=Ae8.val (xs.getD i []) s s0 s1 (hr _ (A0z _ hi));simp only[if_pos (ltI.2 hi),if_pos (idxI.2 hi),Int.toNat_natCast,hr1,Option.bind_some,A0x (show i<4611686018427387904 by omega)]at E;rcases hr2 with rfl|⟨a,b,c⟩
   . exact .inr fun k=>by rw[E,if_pos (by simp)]
   . exact .inl ⟨r,a,b,c,fun k=>by rw[E,if_neg (by simp;omega)]⟩) (fun k l=>by rw[Ai1.l5_eq,if_neg (by simp)]) (l-xs.length) (by omega) (by omega)
 refine⟨r,Ai1.of _ _ (hv.of_eq fun k=>by rw[Ai1.T,A0B (by omega) (by omega),if_neg (by simp;omega)];rfl),?_⟩;rcases h2 with h2|⟨a,b,c⟩
 . exact .inl h2
 . exact .inr ⟨a,by omega,by omega,c⟩
theorem Ag3.val (xs:List (List Int)) (l:Int) (h0:0≤l) (h1:l≤1048576) (hx:xs.length≤maxLen) (hr:∀ x∈xs,x.length≤maxLen):∃ r,Ag3.F (xs,l,())=some ((r,()),())/\(r=-1∨0≤r/\r≤l/\SmL xs):=by
 obtain⟨r,h2,h3⟩:=Ai1.val xs l h0 h1 hx hr;rw[Ag3.eq,Ag3.T,h2];simp only[Option.bind_some];rcases h3 with rfl|⟨a,b,c⟩
 . exact⟨-1,by rw[if_pos (by simp)],.inl rfl⟩
 . exact⟨r,by rw[if_neg (by simp;omega)],.inr ⟨a,b,c⟩⟩
theorem Ak1.val (xs:List (List Int)) (h:SmL xs):Ak1.F (xs,())=some ((xs,()),()):=by
 have hl:=h.1;refine Ak1.of xs ?_;have:=Goes.fill (L:=fun k i ys=>Ak1.l3 k xs (i:Int) ys) xs [] (fun k i ys hi hy=>by
   have hs:(xs.getD i []).length≤1048576:=h.2 _ (A0z _ hi);rw[Ak1.l3_eq,if_pos (ltI.2 hi),if_pos (idxI.2 hi)];simp only[Int.toNat_natCast,Ab6.val (xs.getD i []) (by omega),Option.bind_some];rw[if_pos (by omega),A0x (by omega)]) (List.replicate xs.length []) (by simp)
 refine Ev.of_eq (this _ ((Ev.const _).succ fun k=>?_)) fun k=>?_
 . rw[Ak1.l3_eq,if_neg (by simp)]
 . rw[Ak1.T,if_pos (by simp only[bigN];omega)];rfl
theorem Ad8.val (xs:List (List Int)) (h:SmL xs):Ad8.F (xs,())=some ((xs,()),()):=by
 rw[Ad8.eq,Ad8.T,Ak1.val xs h];rfl
theorem Ah9.same (xs ys:List (List Int)) (h:SmL xs):∃ b,Ah9.F (xs,ys,())=some ((b,()),())/\(b=true↔xs=ys):=by
 have hn:=h.1;by_cases hl:xs.length=ys.length
 . obtain⟨b,hb,hb'⟩:=A1z (fun k i=>Ah9.l4 k xs ys (i:Int)) xs ys [] hl (fun i hi=>by
     have hs:(xs.getD i []).length≤1048576:=h.2 _ (A0z _ hi);obtain⟨c,hc,hc'⟩:=Aa6.val (xs.getD i []) (ys.getD i []) (by omega);exact⟨c,hc',fun k=>by rw[Ah9.l4_eq,if_pos (ltI.2 hi),if_pos (idxI.2 hi),if_pos (idx2 (hl▸hi))];simp only[Int.toNat_natCast,hc,Option.bind_some];rw[A0x (by omega)]⟩) (fun k=>by rw[Ah9.l4_eq,if_neg (by simp)])
   exact⟨b,Ah9.of _ _ (hb.of_eq fun k=>by rw[Ah9.T,if_neg (by simp[hl])];rfl),hb'⟩
 . exact⟨false,Ah9.of _ _ ((Ev.const _).of_eq fun k=>by rw[Ah9.T,if_pos (by simp;omega)]),by simp;intro e;exact hl (by rw[e])⟩
theorem Ag1.same (xs ys:List (List Int)) (h:SmL xs):∃ b,Ag1.F (xs,ys,())=some ((b,()),())/\(b=true↔xs=ys):=by
 obtain⟨b,hb,hb'⟩:=Ah9.same xs ys h;rw[Ag1.eq,Ag1.T,hb];exact⟨b,by cases b<;>rfl,hb'⟩
theorem A4V {xs:List Int} {v:Int} (h:v∈xs):xs.getD (idxV xs v) 0=v:=by
 have h1:=A2r h;rw[A0y h1];have:=List.findIdx_getElem (w:=h1) (p:=fun x=>decide (x=v)) (xs:=xs);simp only[decide_eq_true_eq]at this;exact this
theorem A2w {c:List (List Int)} (h:CplxOk c) {s:List Int} (hs:s∈c):imgS c (vts c) s=s:=by
 have e:imgL c (vts c) s=s:=by
   unfold imgL
   conv=>rhs;rw[<-List.map_id s]
   exact List.map_congr_left fun v hv=>A4V (A3M h (A3z h s.length s hs (Nat.le_refl _) v hv)).2
 obtain⟨h1,h2⟩:=A1d s;rw[imgS,e];refine A3K h1 ?_ h2;obtain⟨i1,i2⟩:=A0C hs;have hr:A1S s:=by have:=(h.2 _ i1).1.2.2;rwa [i2]at this
 rw[List.pairwise_iff_getElem];intro i j hi hj hij;have:=A2O hr i j hij hj
 rwa [A0y hi,A0y hj]at this
theorem A2t {p b:List (List Int)} (h:CplxOk p) (hi:IsIn p b):A3e p b (vts p):=⟨rfl,fun s hs=>by rw[A2w h hs];exact hi s hs⟩
theorem A4O (c:List (List Int)):(A0w c 0 c.length).map (fun i=>(c.getD i.toNat []).getD 0 0)=vts c:=by
 have key:∀ i,i≤c.length->(A0w c 0 i).map (fun i=>(c.getD i.toNat []).getD 0 0)=vts (c.take i):=by
   intro i;induction i with
   | zero=>intro _;rfl
   | succ i ih =>
     intro hi;rw[A0R,A3x c (by omega)];by_cases h1:(c.getD i []).length=1
     . rw[if_pos (by simp only[beq_iff_eq];omega),if_pos h1,List.map_append,ih (by omega)];simp
     . rw[if_neg (by simp only[beq_iff_eq];omega),if_neg h1,List.append_nil,ih (by omega)]
 have:=key c.length (Nat.le_refl _)
 rwa [List.take_of_length_le (Nat.le_refl _)]at this
theorem Ak9.val {c:List (List Int)} (h:CplxOk c):Ak9.F (c,())=some ((vts c,()),()):=by
 have hn:=h.1;have e0:=Aa3.val c 0 (by omega) (by omega);have hl:=A0D c 0 c.length;rw[<-A4O c];have hd:∀ x∈A0w c 0 c.length,∃ j:Nat,x=j/\j<c.length/\(c.getD j []).length=1:=fun x hx=>by
   unfold A0w at hx;obtain⟨j,hj,rfl⟩:=List.mem_map.1 hx;obtain⟨h1,h2⟩:=List.mem_filter.1 hj;simp only[beq_iff_eq]at h2;exact⟨j,rfl,List.mem_range.1 h1,by omega⟩
 generalize A0w c 0 c.length=L at e0 hl hd;refine Ak9.of _ ?_;have g:=Goes.push (R:=(List Int×Unit)×Unit) (fun k i s=>Ak9.l4 k c (i:Int) s L) L.length (fun i=>(c.getD (L.getD i 0).toNat []).getD 0 0) fun i s hi hs=>Goes.succ fun k=>by
   obtain⟨j,j1,j2,j3⟩:=hd _ (A0z 0 hi);rw[Ak9.l4_eq,if_pos (ltI.2 hi),if_pos (idxI.2 hi)];simp only[Int.toNat_natCast];rw[j1,if_pos (idxI.2 j2)];simp only[Int.toNat_natCast];rw[if_pos (by omega),if_pos (A1n hs (by omega)),A0x (by omega)];rfl
 have em:(List.range L.length).map (fun i=>(c.getD (L.getD i 0).toNat []).getD 0 0)=L.map fun i=>(c.getD i.toNat []).getD 0 0:=by
   refine List.ext_getElem (by simp) fun i h1 h2=>?_;simp only[List.getElem_map,List.getElem_range];rw[A0y (xs:=L) (by simpa using h1)]
 rw[em]at g;refine Ev.of_eq (g _ ((Ev.const _).succ fun k=>?_)) fun k=>?_
 . rw[Ak9.l4_eq,if_neg (by simp)]
 . rw[Ak9.T,e0];rfl
theorem A2b {s:ShfV} {p:List (List Int)} (h:A0v s) (hc:CplxOk p) (hi:IsIn p s.1):Ag9.F (s,p,())=some ((pulS s p (vts p),()),()):=by
 have T:Ag9.F (s,p,())=Ag9.T s.1 s.2.1 s.2.2.1 s.2.2.2 p:=Ag9.eq _ _ _ _ _;have hn:=hc.1;rw[T,Ag9.T,Ae2.val p (by omega)];have hp:Ak0.F ((s.1,(s.2.1,(s.2.2.1,s.2.2.2))),p,vts p,())=_:=Ak0.val h hc (A2t hc hi);simp only[Option.bind_some,hp]
open Classical in
noncomputable def A2y (s:ShfV) (p:List (List Int)):Int:=if A1T s/\CplxOk p then(if IsIn p s.1 then 0 else 6)else 1
noncomputable def rstV (s:ShfV) (p:List (List Int)):ShfV:=@ite _ (A2y s p=0) (Classical.propDecidable _) (pulS s p (vts p)) ([],0,[],[])
theorem partC_zero {s:ShfV} {p:List (List Int)}:A2y s p=0↔(A1T s/\CplxOk p)/\IsIn p s.1:=by
 unfold A2y;split
 . split<;>simp[*]
 . simp[*]
theorem Ak5.val (s:ShfV) (p:List (List Int)) (hs:SmSh s) (hp:SmL p):Ak5.F (s,p,())=some ((rstV s p,A2y s p,()),()):=by
 obtain⟨v1,a1,a1'⟩:=Af1.val s hs;obtain⟨v2,a2,a2'⟩:=Aa4.val p hp;have a1:Af1.F ((s.1,(s.2.1,(s.2.2.1,s.2.2.2))),())=_:=a1;have T:Ak5.F (s,p,())=Ak5.T s.1 s.2.1 s.2.2.1 s.2.2.2 p:=Ak5.eq _ _ _ _ _;rw[T,Ak5.T,a1,a2];simp only[Option.bind_some];cases v1 with
 | false =>
   have e:A2y s p=1:=by rw[A2y,if_neg fun hh=>absurd (a1'.2 hh.1) (by simp)]
   rw[if_pos (by simp),rstV,e,if_neg (by simp)]
 | true=>cases v2 with
   | false =>
     have e:A2y s p=1:=by rw[A2y,if_neg fun hh=>absurd (a2'.2 hh.2) (by simp)]
     rw[if_neg (by simp),if_pos (by simp),rstV,e,if_neg (by simp)]
   | true =>
     have h:=(a1'.1 rfl).1;have hc:=a2'.1 rfl;obtain⟨v3,a3,a3'⟩:=An0.val p s.1 hp.1 h.1.small;rw[if_neg (by simp),if_neg (by simp),a3];simp only[Option.bind_some];cases v3 with
     | false =>
       have e:A2y s p=6:=by rw[A2y,if_pos ⟨a1'.1 rfl,hc⟩,if_neg fun hh=>absurd (a3'.2 hh) (by simp)]
       rw[if_pos (by simp),rstV,e,if_neg (by simp)]
     | true =>
       have hi:=a3'.1 rfl;have e:A2y s p=0:=by rw[A2y,if_pos ⟨a1'.1 rfl,hc⟩,if_pos hi]
       have hq:Af3.F ((s.1,(s.2.1,(s.2.2.1,s.2.2.2))),p,vts p,())=_:=Af3.val h hc (A2t hc hi);rw[if_neg (by simp),rstV,e,if_pos rfl,Ak9.val hc];simp only[Option.bind_some,hq]
theorem Ao8.val (xs:List Int) (n p:Int) (hn:xs.length<4611686018427387904):∃ v,Ao8.F (xs,n,p,())=some ((v,()),())/\(v=true↔(xs.length:Int)=n/\A0Q 0 (IntKind.i64.wrap (p-1)) xs):=by
 obtain⟨v,hv,hv'⟩:=Ah5.val xs p hn;rw[Ao8.eq,Ao8.T,Ab4.eq,Ab4.T];simp only[Option.bind_some];by_cases h:(xs.length:Int)=n
 . exact⟨v,by rw[if_pos (by simp[h]),hv];rfl,hv'.trans ⟨fun a=>⟨h,a⟩,fun a=>a.2⟩⟩
 . exact⟨false,by rw[if_neg (by simp[h])],by simp[h]⟩
def A0j (s:ShfV) (k:Int):Int:=sumL s.2.2.1 (A0w s.1 k s.1.length)
theorem Ab0.val' (s:ShfV) (h:A0v s) (k:Int) (hk:-1≤k/\k≤1000):Ab0.F (s,k,())=some ((A0j s k,()),()):=Ab0.val s.1 s.2.1 s.2.2.1 s.2.2.2 k hk (by have:=h.1.1;omega) h.2.2.1.1
theorem Ac0.val' (s:ShfV) (h:A0v s) (k:Int) (hk:-1≤k/\k≤1000):Ac0.F (s.1,s.2.2.1,k,())=some ((A0j s k,()),()):=Ac0.val s.1 s.2.2.1 k hk (by have:=h.1.1;omega) h.2.2.1.1
def A1O (s:ShfV) (k:Int) (x:List Int):Prop:=(x.length:Int)=A0j s k/\A0Q 0 (s.2.1-1) x
theorem A4e {s:ShfV} (h:A0v s) {k:Int} (hk:0≤k/\k≤3):A0j s k≤32:=by
 obtain⟨n,rfl⟩:=Int.eq_ofNat_of_zero_le hk.1;exact h.2.2.1.2.2 n (by omega)
def psum (c:List (List Int)) (st:List Int) (d:Int):Nat->Int
 | 0=>0
 | i+1=>psum c st d i+if ((c.getD i []).length:Int)=d+1 then st.getD i 0 else 0
theorem A3D {c:List (List Int)} {st:List Int} {d:Int} (ha:A0Q 0 3 st) {i:Nat} (hi:i<st.length):psum c st d i≤psum c st d (i+1)/\psum c st d (i+1)≤psum c st d i+3:=by
 have:=A0A ha hi;simp only[psum];split<;>omega
theorem A1E {c:List (List Int)} {st:List Int} {d:Int} (ha:A0Q 0 3 st):∀ i,i≤st.length->0≤psum c st d i/\psum c st d i≤3*(i:Int):=by
 intro i;induction i with
 | zero=>intro _;simp[psum]
 | succ i ih=>intro h;have:=ih (by omega);have:=A3D (c:=c) (d:=d) ha (show i<st.length by omega);omega
theorem A2N {c:List (List Int)} {st:List Int} {d:Int} (ha:A0Q 0 3 st) {i j:Nat} (h:i≤j) (hj:j≤st.length):psum c st d i≤psum c st d j:=by
 induction h with
 | refl=>exact Int.le_refl _
 | @step m h ih =>
   have h1:=A3D (c:=c) (d:=d) ha (show m<st.length by omega);have h2:=ih (by omega);exact Int.le_trans h2 h1.1
theorem A1e {c:List (List Int)} {st:List Int} {d:Int} (ha:A0Q 0 3 st):∀ i,i≤st.length->i≤1000->sumL st (A0w c d i)=psum c st d i:=by
 intro i;induction i with
 | zero=>intro _ _;rfl
 | succ i ih =>
   intro h h2;have e:=ih (by omega) (by omega);have b:=A1E (c:=c) (d:=d) ha i (by omega);have g:=A0A ha (show i<st.length by omega);rw[A0R];by_cases hd:((c.getD i []).length:Int)=d+1
   . rw[if_pos (by rw[beq_iff_eq];exact hd)];simp only[psum,sumL,List.foldl_append,List.foldl_cons,List.foldl_nil,Int.toNat_natCast];rw[if_pos hd,show List.foldl (fun acc (j:Int)=>IntKind.i64.wrap (acc+st.getD j.toNat 0)) 0 (A0w c d i)=sumL st (A0w c d i)from rfl,e,A0B (by omega) (by omega)]
   . rw[if_neg (by rw[beq_iff_eq];exact hd)];simp only[psum];rw[if_neg hd,e];omega
theorem A1j {s:ShfV} (h:A0v s) (k:Int):A0j s k=psum s.1 s.2.2.1 k s.1.length:=by
 have h1:=h.2.2.1.1;have h2:=h.1.1;exact A1e h.2.2.1.2.1 _ (by omega) (by omega)
theorem A4E {c:List (List Int)} {st:List Int} {d:Int}:∀ i,(∀ j,j<i->((c.getD j []).length:Int)≠d+1)->psum c st d i=0:=by
 intro i;induction i with
 | zero=>intro _;rfl
 | succ i ih=>intro h;simp only[psum];rw[if_neg (h i (by omega)),ih fun j hj=>h j (by omega)];rfl
theorem A0E {s:ShfV} (h:A0v s) (k:Int):0≤A0j s k/\A0j s k≤32:=by
 have h1:=h.2.2.1.1;have e:=A1j h k;refine⟨by rw[e];exact(A1E h.2.2.1.2.1 _ (by omega)).1,?_⟩;by_cases hk:0≤k/\k≤3
 . exact A4e h hk
 . rw[e,A4E _ fun j hj=>?_]
   . omega
   . have:=(h.1.2 j hj).1.1;omega
def A0O (s:ShfV) (h:Nat):Int:=psum s.1 s.2.2.1 (((s.1.getD h []).length:Int)-1) h
theorem A0V {s:ShfV} (h:A0v s) {n:Nat} (hn:n<s.1.length):0≤A0O s n/\A0O s n+s.2.2.1.getD n 0≤A0j s (((s.1.getD n []).length:Int)-1):=by
 have h1:=h.2.2.1.1;have ha:=h.2.2.1.2.1;refine⟨(A1E ha _ (by omega)).1,?_⟩;have:=A2N (c:=s.1) (d:=((s.1.getD n []).length:Int)-1) ha (show n+1≤s.1.length by omega) (by omega);simp only[psum]at this;rw[if_pos (by omega)]at this;rw[A1j h];exact this
theorem A2K {c:List (List Int)} {d:Int} {h n:Nat} (hn:h<n) (hd:((c.getD h []).length:Int)=d+1):∃ rest,A0w c d n=A0w c d h++((h:Int)::rest):=by
 induction n with
 | zero=>omega
 | succ n ih =>
   rw[A0R];by_cases hh:h=n
   . subst hh;exact⟨[],by rw[if_pos (by rw[beq_iff_eq];exact hd)]⟩
   . obtain⟨rest,hr⟩:=ih (by omega);split
     . exact⟨rest++[(n:Int)],by rw[hr];simp⟩
     . exact⟨rest,hr⟩
theorem Ad0.val (s:ShfV) (h:A0v s) (n:Nat) (hn:n<s.1.length):Ad0.F (s,(n:Int),())=some ((A0O s n,()),()):=by
 have hcl:=h.1.1;have hsl:=h.2.2.1.1;have ha:=h.2.2.1.2.1;have h4:=(h.1.2 n hn).1.1;obtain⟨d,hd⟩:∃ d:Int,d=((s.1.getD n []).length:Int)-1:=⟨_,rfl⟩;obtain⟨rest,hr⟩:=A2K (c:=s.1) (d:=d) hn (by omega);have hT:∀ r,Ev (fun k=>Ad0.T k s.1 s.2.1 s.2.2.1 s.2.2.2 (n:Int)) r->Ad0.F (s,(n:Int),())=some r:=fun r hr=>Ad0.of _ _ _ _ _ hr;refine hT _ (Ev.of_eq (N:=fun k=>Ad0.l3 k (n:Int) 0 (((A0w s.1 d s.1.length).length:Nat):Int) ((0:Nat):Int) s.1 s.2.1 s.2.2.1 s.2.2.2 (A0w s.1 d s.1.length)) ?_ fun k=>?_)
 . have hpl:=A0D s.1 d n;have hfull:=A0D s.1 d s.1.length;have hlen:(A0w s.1 d s.1.length).length=(A0w s.1 d n).length+(rest.length+1):=by rw[hr];simp
   have hg:=Goes.foldl (L:=fun k i (x:Int)=>Ad0.l3 k (n:Int) x (((A0w s.1 d s.1.length).length:Nat):Int) (i:Int) s.1 s.2.1 s.2.2.1 s.2.2.2 (A0w s.1 d s.1.length)) (A0w s.1 d n) 0 (fun acc j=>IntKind.i64.wrap (acc+s.2.2.1.getD j.toNat 0)) (fun k i x hi=>by
     obtain⟨j,hj,hjn⟩:=A2J (A0z (0:Int) hi);have e:(A0w s.1 d s.1.length).getD i 0=(j:Int):=by
       rw[hr,List.getD_eq_getElem?_getD,List.getElem?_append_left hi,<-List.getD_eq_getElem?_getD,hj]
     rw[Ad0.l3_eq,if_pos (by simp only[decide_eq_true_eq];omega),if_pos (by omega)];simp only[Int.toNat_natCast,e];rw[if_neg (by simp only[beq_iff_eq];omega),if_pos (by omega),A0x (by omega),hj];simp only[Int.toNat_natCast]) 0
   refine hg _ ((Ev.const _).succ fun k=>?_);have e:(A0w s.1 d s.1.length).getD (A0w s.1 d n).length 0=(n:Int):=by
     rw[hr,List.getD_eq_getElem?_getD,List.getElem?_append_right (Nat.le_refl _),Nat.sub_self];rfl
   rw[Ad0.l3_eq,if_pos (by simp only[decide_eq_true_eq];omega),if_pos (by omega)];simp only[Int.toNat_natCast,e];rw[if_pos (by simp),show List.foldl (fun acc (j:Int)=>IntKind.i64.wrap (acc+s.2.2.1.getD j.toNat 0)) 0 (A0w s.1 d n)=sumL s.2.2.1 (A0w s.1 d n)from rfl,A1e ha _ (by omega) (by omega),A0O,hd]
 . rw[Ad0.T,if_pos (idxI.2 hn),Ab4.eq,Ab4.T];simp only[Option.bind_some,Int.toNat_natCast];rw[A0B (x:=((s.1.getD n []).length:Int)-1) (by omega) (by omega),<-hd,Ac5.val s.1 d (by omega) (by omega)];rfl
theorem Af6.val (s:ShfV) (h:A0v s) (n:Nat) (hn:n<s.1.length):Af6.F (s,(n:Int),())=some ((A0O s n,()),()):=by
 have hcl:=h.1.1;have hsl:=h.2.2.1.1;have ha:=h.2.2.1.2.1;have hT:∀ r,Ev (fun k=>Af6.T k s.1 s.2.1 s.2.2.1 s.2.2.2 (n:Int)) r->Af6.F (s,(n:Int),())=some r:=fun r hr=>Af6.of _ _ _ _ _ hr;obtain⟨d,hd⟩:∃ d:Int,d=((s.1.getD n []).length:Int)-1:=⟨_,rfl⟩;obtain⟨x,hx,hg⟩:=Goes.loop (R:=((Int×Unit)×Unit)) (fun k i (x:Int)=>Af6.l3 k s.1 s.2.1 s.2.2.1 s.2.2.2 (n:Int) x (i:Int)) n (fun i x=>x=psum s.1 s.2.2.1 d i) (fun i x hi h2=>⟨_,rfl,Goes.succ fun k=>by
   have b:=A1E (c:=s.1) (d:=d) ha i (by omega);have g:=A0A ha (show i<s.2.2.1.length by omega);rw[Af6.l3_eq,if_pos (ltI.2 hi),if_pos (by omega),if_pos (by omega)];simp only[Int.toNat_natCast];simp only[psum];by_cases hh:(s.1.getD i []).length=(s.1.getD n []).length
   . rw[if_pos (by simp only[beq_iff_eq];omega),if_pos (by omega),A0x (by omega),h2,A0B (by omega) (by omega),if_pos (by omega)]
   . rw[if_neg (by simp only[beq_iff_eq];omega),A0x (by omega),h2,if_neg (by omega),Int.add_zero]⟩) 0 0 (Nat.zero_le _) rfl
 refine hT _ ((hg _ ((Ev.const _).succ fun k=>?_)).of_eq fun k=>rfl);rw[Af6.l3_eq,if_neg (by simp),hx,A0O,hd]
theorem A3Y {c p:List (List Int)} (hc:CplxOk c) (hp:CplxOk p) (hi:IsIn p c) {i j:Nat} (hij:i<j) (hj:j<p.length):A0G c (p.getD i [])<A0G c (p.getD j []):=by
 obtain⟨a1,a2⟩:=A0C (hi _ (A0z [] (show i<p.length by omega)));obtain⟨b1,b2⟩:=A0C (hi _ (A0z [] hj));have l:=hp.sorted i j hij hj;refine Nat.lt_of_not_le fun hle=>?_;rcases Nat.lt_or_eq_of_le hle with h|h
 . have g:=hc.sorted _ _ h a1;rw[b2,a2,<-A2L]at g;rw[<-A2L]at l;have:=(a5m _ _).1 g;omega
 . have e:p.getD i []=p.getD j []:=by rw[<-a2,<-b2,h]
   have:=A0h hp.sorted (by omega) hj e;omega
def stIn (c p:List (List Int)) (st:List Int):List Int:=(List.range p.length).map fun k=>st.getD (A0G c (p.getD k [])) 0
theorem psum_le {c p:List (List Int)} (hc:CplxOk c) (hp:CplxOk p) (hi:IsIn p c) {st:List Int} (ha:A0Q 0 3 st) (hl:st.length=c.length) (d:Int):∀ k,k≤p.length->∀ n,(∀ j,j<k->A0G c (p.getD j [])<n)->n≤c.length->psum p (stIn c p st) d k≤psum c st d n:=by
 intro k;induction k with
 | zero=>intro _ n _ hn;exact(A1E ha n (by omega)).1
 | succ k ih =>
   intro hk n hj hn;have hm:=hj k (by omega);have h1:=ih (by omega) (A0G c (p.getD k [])) (fun j hjk=>A3Y hc hp hi hjk (by omega)) (by omega);obtain⟨a1,a2⟩:=A0C (hi _ (A0z [] (show k<p.length by omega)));have e:psum p (stIn c p st) d (k+1)≤psum c st d (A0G c (p.getD k [])+1):=by
     have es:(stIn c p st).getD k 0=st.getD (A0G c (p.getD k [])) 0:=by rw[stIn,A0J _ 0 (by omega)]
     simp only[psum];rw[a2,es];split<;>omega
   exact Int.le_trans e (A2N ha (by omega) (by omega))
theorem A4Z (s:ShfV) {p:List (List Int)} (hc:CplxOk p) {k:Nat} (hk:k<p.length):plAt s p (vts p) k=A0G s.1 (p.getD k []):=by rw[plAt,A2w hc (A0z [] hk)]
theorem A0n (s:ShfV) {p:List (List Int)} (hc:CplxOk p):A0I s p (vts p)=stIn s.1 p s.2.2.1:=List.map_congr_left fun k hk=>by rw[A4Z s hc (List.mem_range.1 hk)]
theorem A3p {s:ShfV} (h:A0v s) {f i:Nat} (hf:f<s.1.length) (hi:i<s.1.length) (hsub:∀ x∈s.1.getD f [],x∈s.1.getD i []) :
   MatOk (A0m s f i)/\(A0m s f i).1=s.2.1/\(A0m s f i).2.1=s.2.2.1.getD i 0/\(A0m s f i).2.2.1=s.2.2.1.getD f 0:=by
 have htf:=(h.1.2 f hf).1;have hle:=A0t (A1G htf.2.2) hsub;obtain⟨m,m0,m1,m2,m3,m4,m5,m6⟩:=A1k s h f hf ((s.1.getD i []).length-(s.1.getD f []).length) i hi (by omega) hsub;have c1:Ad3.F (s,(f:Int),(i:Int),())=some ((m,()),()):=Ad3.ofR ⟨_,fun q hq=>m5 q (Nat.lt_of_succ_le hq)⟩;have e:A0m s f i=m:=by unfold A0m;rw[c1]
 rw[e];exact⟨m1,m2,m3,m4⟩
noncomputable def rstS (s:ShfV) (p:List (List Int)):ShfV:=pulS s p (vts p)
theorem A2c {s:ShfV} {p:List (List Int)} (h:A0v s) (hc:CplxOk p) (hi:IsIn p s.1):A0v (rstS s p):=by
 have hl:s.2.2.1.length=s.1.length:=h.2.2.1.1;have hn:=hc.1;have hn':=h.1.1;have hall:=A2M h p (vts p);have hlen:(A0I s p (vts p)).length=p.length:=by simp[A0I]
 refine⟨hc,h.2.1,⟨hlen,hall,fun k hk=>?_⟩,A0g s p (vts p),fun i hip j hj=>?_⟩
 . show sumL (A0I s p (vts p)) (A0w p k p.length)≤32;have h2:=h.2.2.1.2.2 k hk;rw[A1e h.2.2.1.2.1 _ (by omega) (by omega)]at h2;rw[A1e hall _ (by omega) (by omega),A0n s hc];exact Int.le_trans (psum_le h.1 hc hi h.2.2.1.2.1 hl k p.length (Nat.le_refl _) s.1.length (fun j hj=>(A0C (hi _ (A0z [] hj))).1) (Nat.le_refl _)) h2
 . have hip:i<p.length:=hip;have hj:j<(fcs p i).length:=hj;obtain⟨f,hf,hfl,hsub⟩:=A2m hc hip hj;have e1:(A1D s p (vts p)).getD (off p i+j) (0,0,0,[])=A0m s (plAt s p (vts p) f) (plAt s p (vts p) i):=by
     rw[A1D,A1C,A0J _ _ (by rw[A0M];exact A2Y hip hj),A2v p hip hj];simp only[hf,Int.toNat_natCast]
   obtain⟨a1,a2⟩:=A0u (A2t hc hi) hfl;obtain⟨b1,b2⟩:=A0u (A2t hc hi) hip;rw[A2w hc (A0z [] hfl)]at a2;rw[A2w hc (A0z [] hip)]at b2;have d:=A3p h a1 b1 (by rw[a2,b2];exact hsub);show A3v p s.2.1 (A0I s p (vts p)) ((A1D s p (vts p)).getD (off p i+j) (0,0,0,[])) i j;rw[e1];refine⟨d.1,d.2.1,?_,?_⟩
   . rw[d.2.2.1,A0I,A0J _ 0 hip]
   . rw[d.2.2.2,hf,Int.toNat_natCast,A0I,A0J _ 0 hfl]
def zeroM (p:Int) (R C:Nat):MatV:=(p,(R:Int),(C:Int),List.replicate (R*C) 0)
theorem Ap2.val (p:Int) (R C:Nat) (hR:R≤32) (hC:C≤32):Ap2.F (p,(R:Int),(C:Int),())=some ((zeroM p R C,()),()):=by
 rw[Ap2.eq,Ap2.T,Ab8.val p R C _ (fun _ _=>0) hR hC (fun i j _ _=>by
   show(As4.F ((i:Int),(j:Int),())).map (·.1)=_;rw[As4.eq,As4.T];rfl)]
 simp only[Option.bind_some,zeroM];rw[A2o (R:=R) (C:=C) (g:=fun _ _=>0) (ys:=List.replicate (R*C) 0) (by simp) fun i j hi hj=>by
   have:=A3G hi hj;simp[List.getD_eq_getElem?_getD,List.getElem?_replicate,this]]
def wr (ws:List (Nat×Int)) (x:List Int):List Int:=ws.foldl (fun x w=>x.set w.1 w.2) x
theorem A0l (ws:List (Nat×Int)):∀ x,(wr ws x).length=x.length:=by
 induction ws with
 | nil=>intro x;rfl
 | cons w ws ih=>intro x;show(wr ws (x.set w.1 w.2)).length=_;rw[ih];simp
theorem A4P (ws vs:List (Nat×Int)) (x:List Int):wr (ws++vs) x=wr vs (wr ws x):=by simp[wr,List.foldl_append]
theorem A4n {P:Int->Prop} (ws:List (Nat×Int)):∀ x:List Int,(∀ w∈ws,P w.2)->(∀ a∈x,P a)->∀ a∈wr ws x,P a:=by
 induction ws with
 | nil=>intro x _ h;exact h
 | cons w ws ih =>
   intro x hw hx;refine ih (x.set w.1 w.2) (fun v hv=>hw v (by simp[hv])) fun a ha=>?_;rcases List.mem_or_eq_of_mem_set ha with h|h
   . exact hx a h
   . rw[h];exact hw w (by simp)
theorem Goes.writes {R:Type} (L:Nat->Nat->List Int->Option R) (n Z:Nat) (w:Nat->List (Nat×Int)) (hstep:∀ i x,i<n->x.length=Z->Goes (fun k=>L k i x) (fun k=>L k (i+1) (wr (w i) x))) (x:List Int) (hx:x.length=Z) :
   Goes (fun k=>L k 0 x) (fun k=>L k n (wr ((List.range n).flatMap w) x)):=by
 obtain⟨y,hy,hg⟩:=Goes.loop (R:=R) L n (fun i y=>y=wr ((List.range i).flatMap w) x) (fun i y hi h=>⟨_,rfl,by
   have:=hstep i y hi (by rw[h,A0l,hx]);rw[List.range_succ,List.flatMap_append,A4P,<-h];simpa using this⟩) 0 x (Nat.zero_le _) rfl
 rw[<-hy];exact hg
def sgn (p:Int) (i:Nat):Int:=if i%2=0 then 1 else p-1
theorem A4m {p:Int} (hp:2≤p/\p≤251) (i:Nat):0≤sgn p i/\sgn p i≤p-1:=by unfold sgn;split<;>omega
theorem Ao3.val (i:Nat) (p:Int) (hp:2≤p/\p≤251):Ao3.F ((i:Int),p,())=some ((sgn p i,()),()):=by
 have e:(i:Int).tmod 2=((i%2:Nat):Int):=by rw[A2Q (by omega)];omega
 rw[Ao3.eq,Ao3.T,if_neg (by omega),e,sgn];by_cases h:i%2=0
 . rw[if_pos (by simp[h]),if_pos h]
 . rw[if_neg (by simp only[beq_iff_eq];omega),if_neg h,A0B (by omega) (by omega)]
theorem Aq3.val (i:Nat) (p:Int) (hp:2≤p/\p≤251):Aq3.F ((i:Int),p,())=some ((sgn p i,()),()):=by
 have e:(i:Int).tmod 2=((i%2:Nat):Int):=by rw[A2Q (by omega)];omega
 rw[Aq3.eq,Aq3.T,if_neg (by omega),e,sgn];by_cases h:i%2=0
 . rw[if_pos (by simp[h]),if_neg (by omega),if_pos h,A2Q (by omega),Int.emod_eq_of_lt (by omega) (by omega)]
 . rw[if_neg (by simp only[beq_iff_eq];omega),if_neg h,A0B (by omega) (by omega)]
def A1l (s:ShfV) (W h i a:Nat):List (Nat×Int):=(List.range (A0q s h i).2.2.1.toNat).map fun b=>(((A0O s h).toNat+a)*W+(A0O s (fc s.1 h i)).toNat+b,((A0q s h i).2.2.2.getD (a*(A0q s h i).2.2.1.toNat+b) 0*sgn s.2.1 i)%s.2.1)
def A2T (s:ShfV) (W h i:Nat):List (Nat×Int):=(List.range (A0q s h i).2.1.toNat).flatMap (A1l s W h i)
def A2h (s:ShfV) (W h:Nat):List (Nat×Int):=(List.range (fcs s.1 h).length).flatMap (A2T s W h)
def cobW (s:ShfV) (k:Int):List (Nat×Int):=if k<0 then[]else(List.range (A0w s.1 (k+1) s.1.length).length).flatMap fun n=>A2h s (A0j s k).toNat ((A0w s.1 (k+1) s.1.length).getD n 0).toNat
def cobM (s:ShfV) (k:Int):MatV:=(s.2.1,A0j s (k+1),A0j s k,wr (cobW s k) (List.replicate ((A0j s (k+1)).toNat*(A0j s k).toNat) 0))
theorem A1J (n:Nat) (f:Nat->Nat×Int):(List.range n).map f=(List.range n).flatMap fun b=>[f b]:=by induction n with
 | zero=>rfl
 | succ n ih=>rw[List.range_succ,List.map_append,List.flatMap_append,ih];rfl
theorem A2g {s:ShfV} (h:A0v s) (k:Int):MatOk (cobM s k):=by
 have hp:=h.2.1;obtain⟨a1,a2⟩:=A0E h (k+1);obtain⟨b1,b2⟩:=A0E h k;refine⟨hp,⟨a1,a2⟩,⟨b1,b2⟩,?_,?_⟩
 . simp only[cobM,A0l,List.length_replicate];obtain⟨x,hx⟩:=Int.eq_ofNat_of_zero_le a1;obtain⟨y,hy⟩:=Int.eq_ofNat_of_zero_le b1;rw[hx,hy];simp
 . refine A4n (P:=fun a=>0≤a/\a≤s.2.1-1) _ _ (fun w hw=>?_) fun a ha=>?_
   . unfold cobW at hw;split at hw
     . cases hw
     . simp only[List.mem_flatMap,A2h,A2T,A1l,List.mem_map]at hw;obtain⟨_,_,_,_,_,_,_,_,rfl⟩:=hw;exact A3R hp.1.1
   . have:=(List.mem_replicate.1 ha).2;have:=hp.1.1;omega
structure Blk (s:ShfV) (k:Int) (h i:Nat) (f R C W H T L:Nat):Prop where
 at_:(fcs s.1 h).getD i 0=(f:Int)
 flt:f<s.1.length
 fc_:fc s.1 h i=f
 rows:(A0q s h i).2.1=(R:Int)
 cols:(A0q s h i).2.2.1=(C:Int)
 cells:(A0q s h i).2.2.2.length=R*C
 el:A0Q 0 (s.2.1-1) (A0q s h i).2.2.2
 prime:(A0q s h i).1=s.2.1
 top:A0O s h=(T:Int)
 left:A0O s f=(L:Int)
 bT:T+R≤H
 bL:L+C≤W
 bH:H≤32
 bW:W≤32
theorem blk {s:ShfV} (ho:A0v s) {k:Int} {h i:Nat} (hh:h<s.1.length) (hd:((s.1.getD h []).length:Int)=k+2) (hi:i<(fcs s.1 h).length):∃ f R C T L,Blk s k h i f R C (A0j s k).toNat (A0j s (k+1)).toNat T L:=by
 obtain⟨f,h1,h2,h4,h5,h6⟩:=A2n ho.1 hh hi;have m1:=A0f ho hh hi;obtain⟨R,C,r1,r2,r3,r4,r5,r6,r7⟩:=m1.1.nat;have hfl:(s.1.getD f []).length=(s.1.getD h []).length-1:=by rw[h4];exact A0N h5
 obtain⟨a1,a2⟩:=A0V ho hh;obtain⟨b1,b2⟩:=A0V ho h2;obtain⟨T,hT⟩:=Int.eq_ofNat_of_zero_le a1;obtain⟨L,hL⟩:=Int.eq_ofNat_of_zero_le b1;obtain⟨c1,c2⟩:=A0E ho k;obtain⟨d1,d2⟩:=A0E ho (k+1);rw[show((s.1.getD h []).length:Int)-1=k+1 by omega]at a2;rw[show((s.1.getD f []).length:Int)-1=k by omega]at b2;have eR:s.2.2.1.getD h 0=(R:Int):=by rw[<-m1.2.2.1,r1]
 have eC:s.2.2.1.getD f 0=(C:Int):=by rw[<-r2,m1.2.2.2,h1];rfl
 exact⟨f,R,C,T,L,h1,h2,by rw[fc,h1,Int.toNat_natCast],r1,r2,r5,by rw[<-m1.2.1];exact r7,m1.2.1,hT,hL,by omega,by omega,by omega,by omega⟩
theorem A4h {T L W H R C a b:Nat} (bT:T+R≤H) (bL:L+C≤W) (bH:H≤32) (bW:W≤32) (ha:a<R) (hb:b<C) :
   IntKind.i64.wrap ((IntKind.i64.wrap ((IntKind.i64.wrap ((IntKind.i64.wrap ((T:Int)+(a:Int)))*(W:Int)))+(L:Int)))+(b:Int))=(((T+a)*W+L+b:Nat):Int)/\(T+a)*W+L+b<H*W:=by
 have h1:=A3G (R:=H) (C:=W) (show T+a<H by omega) (show L+b<W by omega);have h2:H*W≤32*32:=Nat.mul_le_mul bH bW;have e:((T+a:Nat):Int)*(W:Int)=(((T+a)*W:Nat):Int):=by simp
 refine⟨?_,by omega⟩;rw[A0B (x:=(T:Int)+(a:Int)) (by omega) (by omega),show(T:Int)+(a:Int)=((T+a:Nat):Int)by omega,e,A0B (x:=(((T+a)*W:Nat):Int)) (by omega) (by omega),A0B (x:=(((T+a)*W:Nat):Int)+(L:Int)) (by omega) (by omega),A0B (by omega) (by omega)];omega
theorem A2k {c:List (List Int)} {d:Int} {n m:Nat} (h:m<(A0w c d n).length):∃ j:Nat,(A0w c d n).getD m 0=(j:Int)/\j<n/\((c.getD j []).length:Int)=d+1:=by
 have hm:=A0z (0:Int) h;simp only[A0w,List.mem_map,List.mem_filter,List.mem_range,beq_iff_eq]at hm;obtain⟨j,⟨h1,h2⟩,h3⟩:=hm;exact⟨j,h3.symm,h1,h2⟩
end Go.Proofs.YtpdlhcgmejadnaaGreat
