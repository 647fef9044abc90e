/- What the functions answer. -/
import Derived.Test.YthiiohhfalmgdaaGreatLongRanksG2
namespace Go.Proofs.YthiiohhfalmgdaaGreat
open Go Go.Vm
set_option linter.unusedVariables false
set_option linter.unusedSimpArgs false
abbrev A2I:=Int×Int×Int
theorem A0j {x:Int} (h1:-9223372036854775808≤x) (h2:x≤9223372036854775807):IntKind.i64.wrap x=x:=by
 have e:(2:Int) ^ (IntKind.i64).bits=18446744073709551616:=by decide
 have e2:(2:Int) ^ ((IntKind.i64).bits-1)=9223372036854775808:=by decide
 unfold IntKind.wrap;simp only[e,e2,show IntKind.i64.signed=true from rfl,Bool.true_and,decide_eq_true_eq];split<;>omega
theorem A0x {i:Nat} (h:i<4611686018427387904):IntKind.i64.wrap ((i:Int)+1)=((i+1:Nat):Int):=by
 rw[A0j (by omega) (by omega)];omega
theorem idxI {α:Type} {xs:List α} {i:Nat}:(0≤(i:Int)/\(i:Int)<(xs.length:Int))↔i<xs.length:=by omega
theorem ltI {i n:Nat}:(decide ((i:Int)<(n:Int)))=true↔i<n:=by simp
theorem A0y {α:Type} {xs:List α} {i:Nat} {d:α} (h:i<xs.length):xs.getD i d=xs[i]:=by
 rw[List.getD_eq_getElem?_getD,List.getElem?_eq_getElem h];rfl
def Goes {R:Type} (A B:Nat->Option R):Prop:=∀ r,Ev B r->Ev A r
theorem Goes.refl {R:Type} (A:Nat->Option R):Goes A A:=fun _ h=>h
theorem Goes.trans {R:Type} {A B C:Nat->Option R} (h:Goes A B) (k:Goes B C):Goes A C:=fun r hr=>h r (k r hr)
theorem Goes.succ {R:Type} {A B:Nat->Option R} (e:∀ k,A (k+1)=B k):Goes A B:=fun _ h=>h.succ e
theorem Goes.of_eq {R:Type} {A B:Nat->Option R} (e:∀ k,A k=B k):Goes A B:=fun _ h=>h.of_eq e
theorem Ev.loop {σ R:Type} (L:Nat->Nat->σ->Option R) (n:Nat) (I:Nat->σ->Prop) (Q:R->Prop)
   (hstep:∀ i s,i<n->I i s->(∃ r,Ev (fun k=>L k i s) r/\Q r)∨(∃ s',I (i+1) s'/\Goes (fun k=>L k i s) (fun k=>L k (i+1) s')))
   (hend:∀ s,I n s->∃ r,Ev (fun k=>L k n s) r/\Q r):∀ i s,i≤n->I i s->∃ r,Ev (fun k=>L k i s) r/\Q r:=by
 have key:∀ j i s,i+j=n->I i s->∃ r,Ev (fun k=>L k i s) r/\Q r:=by
   intro j;induction j with
   | zero => intro i s hi h;obtain rfl:i=n:=by omega
             exact hend s h
   | succ j ih =>
     intro i s hi h;rcases hstep i s (by omega) h with h1|⟨s',h1,h2⟩
     . exact h1
     . obtain⟨r,hr,hq⟩:=ih (i+1) s' (by omega) h1;exact⟨r,h2 r hr,hq⟩
 exact fun i s hi h=>key (n-i) i s (by omega) h
theorem Goes.loop {σ R:Type} (L:Nat->Nat->σ->Option R) (n:Nat) (I:Nat->σ->Prop)
   (hstep:∀ i s,i<n->I i s->∃ s',I (i+1) s'/\Goes (fun k=>L k i s) (fun k=>L k (i+1) s')):∀ i s,i≤n->I i s->∃ s',I n s'/\Goes (fun k=>L k i s) (fun k=>L k n s'):=by
 have key:∀ j i s,i+j=n->I i s->∃ s',I n s'/\Goes (fun k=>L k i s) (fun k=>L k n s'):=by
   intro j;induction j with
   | zero => intro i s hi h;obtain rfl:i=n:=by omega
             exact⟨s,h,Goes.refl _⟩
   | succ j ih =>
     intro i s hi h;obtain⟨s',h1,h2⟩:=hstep i s (by omega) h;obtain⟨s2,h3,h4⟩:=ih (i+1) s' (by omega) h1;exact⟨s2,h3,h2.trans h4⟩
 exact fun i s hi h=>key (n-i) i s (by omega) h
theorem Ev.all {A B:Type} {L:Nat->Nat->Option ((Bool×A)×B)} {a:A} {b:B} {n:Nat} (p:Nat->Bool) (hstep:∀ k i,i<n->L (k+1) i=if p i=true then L k (i+1)else some ((false,a),b)) (hend:∀ k,L (k+1) n=some ((true,a),b)) (i:Nat) (hi:i≤n) :
   ∃ v,Ev (fun k=>L k i) ((v,a),b)/\(v=true↔∀ j,i≤j->j<n->p j=true):=by
 have key:∀ m i,i+m=n->∃ v,Ev (fun k=>L k i) ((v,a),b)/\(v=true↔∀ j,i≤j->j<n->p j=true):=by
   intro m;induction m with
   | zero => intro i hi;obtain rfl:i=n:=by omega
             exact⟨true,(Ev.const _).succ hend,by simp;intro j _ _;omega⟩
   | succ m ih =>
     intro i hi;obtain⟨v,hv,hv'⟩:=ih (i+1) (by omega);cases hp:p i with
     | false=>exact⟨false,(Ev.const _).succ fun k=>by rw[hstep k i (by omega),hp];rfl,by simp;exact⟨i,Nat.le_refl _,by omega,hp⟩⟩
     | true =>
       refine⟨v,hv.succ fun k=>by rw[hstep k i (by omega),hp];rfl,hv'.trans ⟨fun h j hj hn=>?_,fun h j hj hn=>h j (by omega) hn⟩⟩;by_cases hij:j=i
       . rw[hij];exact hp
       . exact h j (by omega) hn
 exact key (n-i) i (by omega)
theorem all_eq {α:Type} {xs ys:List α} (hl:xs.length=ys.length) (q:α->α->Bool) (hq:∀ x y,q x y=true↔x=y) (d:α):(∀ j,0≤j->j<xs.length->q (xs.getD j d) (ys.getD j d)=true)↔xs=ys:=by
 constructor
 . intro h;refine List.ext_getElem hl fun i h1 h2=>?_;have:=(hq _ _).1 (h i (Nat.zero_le _) h1)
   rwa [A0y h1,A0y h2]at this
 . rintro rfl j _ _;exact(hq _ _).2 rfl
theorem Goes.fill {α R:Type} {L:Nat->Nat->List α->Option R} (xs:List α) (d:α) (hstep:∀ k i ys,i<xs.length->ys.length=xs.length->L (k+1) i ys=L k (i+1) (ys.set i (xs.getD i d))) (ys:List α) (hy:ys.length=xs.length) :
   Goes (fun k=>L k 0 ys) (fun k=>L k xs.length xs):=by
 obtain⟨s,⟨hs1,hs2⟩,hs3⟩:=Goes.loop L xs.length (fun i s=>s.length=xs.length/\s.take i=xs.take i) (fun i s hi ⟨h1,h2⟩=>⟨s.set i (xs.getD i d),⟨by simp[h1],by
   rw[List.take_add_one,List.take_add_one,List.take_set_of_le (Nat.le_refl _),h2];simp[hi,h1,A0y hi]⟩,Goes.succ fun k=>hstep k i s hi h1⟩) 0 ys (Nat.zero_le _) ⟨hy,by simp⟩
 have:s=xs:=by
   rw[List.take_of_length_le (by omega),List.take_of_length_le (Nat.le_refl _)]at hs2;exact hs2
 rw[this]at hs3;exact hs3
theorem ite_nb {α:Type} (b:Bool) (x y:α):(if (!b)=true then x else y)=if b=true then y else x:=by cases b<;>rfl
theorem Ev.allP {A B:Type} {L:Nat->Nat->Option ((Bool×A)×B)} {a:A} {b:B} {n:Nat} (P:Nat->Prop) (e:Bool) (hstep:∀ i,i<n->(P i/\∀ k,L (k+1) i=L k (i+1))∨(¬ P i/\∀ k,L (k+1) i=some ((false,a),b))) (hend:Ev (fun k=>L k n) ((e,a),b)) (i:Nat) (hi:i≤n) :
   ∃ v,Ev (fun k=>L k i) ((v,a),b)/\(v=true↔e=true/\∀ j,i≤j->j<n->P j):=by
 have key:∀ m i,i+m=n->∃ v,Ev (fun k=>L k i) ((v,a),b)/\(v=true↔e=true/\∀ j,i≤j->j<n->P j):=by
   intro m;induction m with
   | zero => intro i hi;obtain rfl:i=n:=by omega
             exact⟨e,hend,⟨fun h=>⟨h,fun j h1 h2=>by omega⟩,fun h=>h.1⟩⟩
   | succ m ih =>
     intro i hi;obtain⟨v,hv,hv'⟩:=ih (i+1) (by omega);rcases hstep i (by omega)with⟨hp,h⟩|⟨hp,h⟩
     . refine⟨v,hv.succ h,hv'.trans ⟨fun⟨h1,h2⟩=>⟨h1,fun j hj hn=>?_⟩,fun⟨h1,h2⟩=>⟨h1,fun j hj hn=>h2 j (by omega) hn⟩⟩⟩;by_cases hij:j=i
       . rw[hij];exact hp
       . exact h2 j (by omega) hn
     . exact⟨false,(Ev.const _).succ h,⟨fun h=>(by cases h),fun⟨_,h2⟩=>absurd (h2 i (Nat.le_refl _) (by omega)) hp⟩⟩
 exact key (n-i) i (by omega)
theorem A5L {i:Nat} (h:0<i) (h2:i<4611686018427387904):IntKind.i64.wrap ((i:Int)-1)=((i-1:Nat):Int):=by
 rw[A0j (by omega) (by omega)];omega
theorem Goes.foldl {α σ R:Type} {L:Nat->Nat->σ->Option R} (xs:List α) (d:α) (f:σ->α->σ) (hstep:∀ k i s,i<xs.length->L (k+1) i s=L k (i+1) (f s (xs.getD i d))) (s:σ):Goes (fun k=>L k 0 s) (fun k=>L k xs.length (xs.foldl f s)):=by
 have key:∀ m i s,i+m=xs.length->Goes (fun k=>L k i s) (fun k=>L k xs.length ((xs.drop i).foldl f s)):=by
   intro m;induction m with
   | zero => intro i s hi;obtain rfl:i=xs.length:=by omega
             rw[List.drop_length];exact Goes.refl _
   | succ m ih =>
     intro i s hi;have h:i<xs.length:=by omega
     refine(Goes.succ fun k=>hstep k i s h).trans ?_;rw[List.drop_eq_getElem_cons h,List.foldl_cons,<-A0y (d:=d) h];exact ih (i+1) _ (by omega)
 have:=key xs.length 0 s (by omega);simpa using this
theorem A0z {α:Type} {xs:List α} {i:Nat} (d:α) (h:i<xs.length):xs.getD i d∈xs:=by rw[A0y h];exact List.getElem_mem h
theorem Ev.allF {A B:Type} {L:Nat->Nat->Option ((Bool×A)×B)} {a:A} {b:B} {n:Nat} (P:Nat->Prop) (e:Bool) (i0:Nat) (hstep:∀ i,i0≤i->i<n->(P i/\∀ k,L (k+1) i=L k (i+1))∨(¬ P i/\∀ k,L (k+1) i=some ((false,a),b))) (hend:Ev (fun k=>L k n) ((e,a),b)) (i:Nat) (h0:i0≤i) (hi:i≤n) :
   ∃ v,Ev (fun k=>L k i) ((v,a),b)/\(v=true↔e=true/\∀ j,i≤j->j<n->P j):=by
 have key:∀ m i,i0≤i->i+m=n->∃ v,Ev (fun k=>L k i) ((v,a),b)/\(v=true↔e=true/\∀ j,i≤j->j<n->P j):=by
   intro m;induction m with
   | zero => intro i h0 hi;obtain rfl:i=n:=by omega
             exact⟨e,hend,⟨fun h=>⟨h,fun j h1 h2=>by omega⟩,fun h=>h.1⟩⟩
   | succ m ih =>
     intro i h0 hi;obtain⟨v,hv,hv'⟩:=ih (i+1) (by omega) (by omega);rcases hstep i h0 (by omega)with⟨hp,h⟩|⟨hp,h⟩
     . refine⟨v,hv.succ h,hv'.trans ⟨fun⟨h1,h2⟩=>⟨h1,fun j hj hn=>?_⟩,fun⟨h1,h2⟩=>⟨h1,fun j hj hn=>h2 j (by omega) hn⟩⟩⟩;by_cases hij:j=i
       . rw[hij];exact hp
       . exact h2 j (by omega) hn
     . exact⟨false,(Ev.const _).succ h,⟨fun h=>(by cases h),fun⟨_,h2⟩=>absurd (h2 i (Nat.le_refl _) (by omega)) hp⟩⟩
 exact key (n-i) i h0 (by omega)
theorem Aa7.val (n lo hi:Int):Aa7.F (n,lo,hi,())=some ((decide (lo≤n/\n≤hi),()),()):=by
 rw[Aa7.eq,Aa7.T];by_cases h:lo≤n
 . rw[if_pos (by simp[h])];simp[h]
 . rw[if_neg (by simp[h])];simp[h]
theorem Ab1.val (n lo hi:Int):Ab1.F (n,lo,hi,())=some ((decide (lo≤n/\n≤hi),()),()):=by
 rw[Ab1.eq,Ab1.T];by_cases h:lo≤n
 . rw[if_pos (by simp[h])];simp[h]
 . rw[if_neg (by simp[h])];simp[h]
def cmpI (x y:Int):Int:=if x<y then -1 else if x>y then 1 else 0
theorem An6.val (x y:Int):An6.F (x,y,())=some ((cmpI x y,()),()):=by
 rw[An6.eq,An6.T,An8.eq,An8.T,An8.eq,An8.T];simp only[Option.bind_some,bne_self_eq_false,Bool.false_eq_true,if_false,decide_eq_true_eq,cmpI]
 repeat' split
 all_goals rfl
theorem Aj4.val2 (x y:Int):Aj4.F ([x,y],())=some ((if x≠0 then x else y,()),()):=by
 refine Aj4.of _ ⟨3,fun k hk=>?_⟩;obtain⟨k,rfl⟩:∃ j,k=j+1+1+1:=⟨k-3,by omega⟩;show Aj4.T (k+1+1+1) [x,y]=_;rw[Aj4.T,Aj4.l3_eq];by_cases hx:x=0
 . subst hx;simp only[List.length_cons,List.length_nil];rw[if_pos (by simp),if_pos (by simp),if_neg (by simp),Aj4.l3_eq];simp only[List.length_cons,List.length_nil];rw[A0j (by omega) (by omega)];rw[if_pos (by simp),if_pos (by simp)];by_cases hy:y=0
   . subst hy;rw[if_neg (by simp),Aj4.l3_eq,A0j (by omega) (by omega),if_neg (by simp)];simp
   . rw[if_pos (by simp[hy])];simp
 . simp only[List.length_cons,List.length_nil];rw[if_pos (by simp),if_pos (by simp),if_pos (by simp[hx])];simp[hx]
abbrev MatV:=Int×Int×Int×List Int
abbrev ShfV:=List (List Int)×Int×List Int×List MatV
def Sm (xs:List Int):Prop:=xs.length≤1048576
def SmL (xs:List (List Int)):Prop:=xs.length≤1048576/\∀ x∈xs,Sm x
def SmM (m:MatV):Prop:=Sm m.2.2.2
def SmMs (ms:List MatV):Prop:=ms.length≤1048576/\∀ m∈ms,SmM m
def SmSh (s:ShfV):Prop:=SmL s.1/\Sm s.2.2.1/\SmMs s.2.2.2
theorem A6k {α:Type} (L:Nat->Nat->Int->Option ((Int×Unit)×Unit)) (xs:List α) (d:α) (P:α->Prop)
   (hstep:∀ i l,i<xs.length->0≤l->l≤1048576->(∃ r,0≤r/\r≤l/\P (xs.getD i d)/\∀ k,L (k+1) i l=L k (i+1) r)∨∀ k,L (k+1) i l=some ((-1,()),()))
   (hend:∀ k l,L (k+1) xs.length l=some ((l,()),())) (l:Int) (h0:0≤l) (h1:l≤1048576) :
   ∃ r,Ev (fun k=>L k 0 l) ((r,()),())/\(r=-1∨0≤r/\r≤l/\∀ x∈xs,P x):=by
 obtain⟨r,hr,q,rfl,hq⟩:=Ev.loop (σ:=Int) L xs.length (fun i s=>0≤s/\s≤l/\∀ j,j<i->P (xs.getD j d)) (fun r=>∃ q:Int,r=((q,()),())/\(q=-1∨0≤q/\q≤l/\∀ x∈xs,P x))
   (fun i s hi ⟨a,b,c⟩=>by
     rcases hstep i s hi a (by omega)with⟨r,r0,r1,hp,e⟩|e
     . refine .inr ⟨r,⟨r0,by omega,fun j hj=>?_⟩,Goes.succ e⟩;by_cases hji:j=i
       . rw[hji];exact hp
       . exact c j (by omega)
     . exact .inl ⟨_,(Ev.const _).succ e,-1,rfl,.inl rfl⟩)
   (fun s ⟨a,b,c⟩=>⟨_,(Ev.const _).succ fun k=>hend k s,s,rfl,.inr ⟨a,b,fun x hx=>by
     obtain⟨j,hj,rfl⟩:=List.getElem_of_mem hx;rw[<-A0y (d:=d) hj];exact c j hj⟩⟩) 0 l (Nat.zero_le _) ⟨h0,Int.le_refl _,fun j hj=>by omega⟩
 exact⟨q,hr,hq⟩
theorem A1L {α:Type} (L:Nat->Nat->Option ((Bool×Unit)×Unit)) (xs ys:List α) (d:α) (hl:xs.length=ys.length)
   (hstep:∀ i,i<xs.length->∃ b:Bool,(b=true↔xs.getD i d=ys.getD i d)/\∀ k,L (k+1) i=if (!b)=true then some ((false,()),())else L k (i+1))
   (hend:∀ k,L (k+1) xs.length=some ((true,()),())):∃ v,Ev (fun k=>L k 0) ((v,()),())/\(v=true↔xs=ys):=by
 obtain⟨v,hv,hv'⟩:=Ev.allP (L:=L) (a:=()) (b:=()) (n:=xs.length) (fun i=>xs.getD i d=ys.getD i d) true (fun i hi=>by
   obtain⟨b,hb,e⟩:=hstep i hi;cases b with
   | true=>exact .inl ⟨hb.1 rfl,fun k=>by rw[e];rfl⟩
   | false=>exact .inr ⟨fun h=>absurd (hb.2 h) (by simp),fun k=>by rw[e];rfl⟩) ((Ev.const _).succ hend) 0 (Nat.zero_le _)
 refine⟨v,hv,hv'.trans ⟨fun⟨_,h⟩=>?_,fun h=>⟨rfl,fun j _ _=>by rw[h]⟩⟩⟩;refine List.ext_getElem hl fun i h1 h2=>?_;have:=h i (Nat.zero_le _) h1
 rwa [A0y h1,A0y h2]at this
theorem idx2 {i n:Nat} (h:i<n):0≤(i:Int)/\(i:Int)<(n:Int):=by omega
def A0G (p:Int):Prop:=(2≤p/\p≤251)/\∀ i:Nat,2≤i->(i:Int)*i≤p->p.tmod i≠0
theorem A5y {i:Nat} (h:i≤1000):IntKind.i64.wrap ((i:Int)*(i:Int))=(i:Int)*(i:Int):=by
 have:i*i≤1000*1000:=Nat.mul_le_mul h h;have e:(i:Int)*(i:Int)=((i*i:Nat):Int):=by simp
 rw[e];exact A0j (by omega) (by omega)
theorem A3N (L:Nat->Int->Option ((Bool×Unit)×Unit)) (p:Int) (hp:2≤p/\p≤251) (hL:∀ k i,L (k+1) i=if (decide ((IntKind.i64.wrap (i*i))≤p))=true then(if i=0 then none else if ((p.tmod i)==(0:Int))=true then some ((false,()),())else L k (IntKind.i64.wrap (i+(1:Int))))else some ((true,()),())) :
   ∃ v,Ev (fun k=>L k 2) ((v,()),())/\(v=true↔A0G p):=by
 have big:∀ i:Nat,16≤i->p<(i:Int)*i:=fun i hi=>by
   have:16*16≤i*i:=Nat.mul_le_mul hi hi;have e:(i:Int)*(i:Int)=((i*i:Nat):Int):=by simp
   omega
 have key:∀ d i:Nat,16-i≤d->2≤i->i≤1000->(∀ j:Nat,2≤j->j<i->p.tmod j≠0)->∃ v,Ev (fun k=>L k (i:Int)) ((v,()),())/\(v=true↔A0G p):=by
   intro d;induction d with
   | zero =>
     intro i hd h2 hi hlow;refine⟨true,(Ev.const _).succ fun k=>by rw[hL,A5y hi,if_neg (by simp only[decide_eq_true_eq];have:=big i (by omega);omega)],by simp;exact⟨hp,fun j hj hjp=>hlow j hj (by
       by_cases h:j<i
       . exact h
       . have:=big j (by omega);omega)⟩⟩
   | succ d ih =>
     intro i hd h2 hi hlow;by_cases hsq:(i:Int)*i≤p
     . by_cases hm:p.tmod (i:Int)=0
       . exact⟨false,(Ev.const _).succ fun k=>by rw[hL,A5y hi,if_pos (by simp only[decide_eq_true_eq];exact hsq),if_neg (by omega),if_pos (by simp only[beq_iff_eq];exact hm)],by simp;intro hc;exact hc.2 i h2 hsq hm⟩
       . have hi16:i<16:=by
           by_cases h:i<16
           . exact h
           . have:=big i (by omega);omega
         obtain⟨v,hv,hv'⟩:=ih (i+1) (by omega) (by omega) (by omega) (fun j hj hji=>by
           by_cases h:j=i
           . rw[h];exact hm
           . exact hlow j hj (by omega))
         exact⟨v,hv.succ fun k=>by rw[hL,A5y hi,if_pos (by simp only[decide_eq_true_eq];exact hsq),if_neg (by omega),if_neg (by simp only[beq_iff_eq];exact hm),A0x (by omega)],hv'⟩
     . refine⟨true,(Ev.const _).succ fun k=>by rw[hL,A5y hi,if_neg (by simp only[decide_eq_true_eq];exact hsq)],by simp;exact⟨hp,fun j hj hjp=>hlow j hj (by
         by_cases h:j<i
         . exact h
         . exfalso;have:i*i≤j*j:=Nat.mul_le_mul (by omega) (by omega);have e1:(i:Int)*(i:Int)=((i*i:Nat):Int):=by simp
           have e2:(j:Int)*(j:Int)=((j*j:Nat):Int):=by simp
           omega)⟩⟩
 exact key 16 2 (by omega) (by omega) (by omega) fun j hj hj2=>by omega
theorem Aj1.val (p:Int):∃ v,Aj1.F (p,())=some ((v,()),())/\(v=true↔A0G p):=by
 by_cases hp:2≤p/\p≤251
 . obtain⟨v,hv,hv'⟩:=A3N (fun k i=>Aj1.l4 k p i) p hp (fun k i=>Aj1.l4_eq k p i);exact⟨v,Aj1.of _ (hv.of_eq fun k=>by rw[Aj1.T,Aa7.val];simp only[Option.bind_some];rw[if_neg (by rw[decide_eq_true hp];simp)]),hv'⟩
 . exact⟨false,Aj1.of _ ((Ev.const _).of_eq fun k=>by rw[Aj1.T,Aa7.val];simp only[Option.bind_some];rw[if_pos (by rw[decide_eq_false hp];rfl)]),by simp;intro h;exact hp h.1⟩
theorem Af7.val (p:Int):∃ v,Af7.F (p,())=some ((v,()),())/\(v=true↔A0G p):=by
 by_cases hp:2≤p/\p≤251
 . obtain⟨v,hv,hv'⟩:=A3N (fun k i=>Af7.l4 k p i) p hp (fun k i=>Af7.l4_eq k p i);exact⟨v,Af7.of _ (hv.of_eq fun k=>by rw[Af7.T,Ab1.val];simp only[Option.bind_some];rw[if_neg (by rw[decide_eq_true hp];simp)]),hv'⟩
 . exact⟨false,Af7.of _ ((Ev.const _).of_eq fun k=>by rw[Af7.T,Ab1.val];simp only[Option.bind_some];rw[if_pos (by rw[decide_eq_false hp];rfl)]),by simp;intro h;exact hp h.1⟩
def A1o (xs:List Int):Prop:=∀ i,0<i->i<xs.length->xs.getD (i-1) 0<xs.getD i 0
def A0N (lo hi:Int) (xs:List Int):Prop:=∀ a∈xs,lo≤a/\a≤hi
theorem allIn_iff {lo hi:Int} {xs:List Int}:A0N lo hi xs↔∀ i,i<xs.length->lo≤xs.getD i 0/\xs.getD i 0≤hi:=by
 refine⟨fun h i hi=>h _ (A0z 0 hi),fun h a ha=>?_⟩;obtain⟨j,hj,rfl⟩:=List.getElem_of_mem ha;have:=h j hj
 rwa [A0y hj]at this
theorem Am6.val (xs:List Int) (lo hi:Int) (hn:xs.length<4611686018427387904):∃ v,Am6.F (xs,lo,hi,())=some ((v,()),())/\(v=true↔A0N lo hi xs/\A1o xs):=by
 obtain⟨v,hv,hv'⟩:=Ev.allP (L:=fun k i=>Am6.l2 k xs lo hi (i:Int)) (a:=()) (b:=()) (n:=xs.length) (fun i=>(lo≤xs.getD i 0/\xs.getD i 0≤hi)/\(0<i->xs.getD (i-1) 0<xs.getD i 0)) true (fun i hi2=>by
   have E:=fun k=>Am6.l2_eq k xs lo hi (i:Int);simp only[if_pos (ltI.2 hi2),if_pos (idxI.2 hi2),Int.toNat_natCast,Aa7.val,Option.bind_some,A0x (show i<4611686018427387904 by omega)]at E;by_cases h:lo≤xs.getD i 0/\xs.getD i 0≤hi
   . simp only[decide_eq_true h,Bool.not_true,Bool.false_eq_true,if_false]at E;by_cases h0:0<i
     . have h1:i-1<xs.length:=by omega
       simp only[if_pos (show decide ((i:Int)>0)=true by simp;omega),A5L h0 (show i<4611686018427387904 by omega),if_pos (idxI.2 h1),Int.toNat_natCast]at E;by_cases h2:xs.getD (i-1) 0<xs.getD i 0
       . exact .inl ⟨⟨h,fun _=>h2⟩,fun k=>by rw[E,if_neg (by simp only[decide_eq_true_eq];omega)]⟩
       . exact .inr ⟨fun hh=>h2 (hh.2 h0),fun k=>by rw[E,if_pos (by simp only[decide_eq_true_eq];omega)]⟩
     . exact .inl ⟨⟨h,fun h1=>absurd h1 h0⟩,fun k=>by rw[E,if_neg (by simp only[decide_eq_true_eq];omega)]⟩
   . exact .inr ⟨fun hh=>h hh.1,fun k=>by rw[E,if_pos (by rw[decide_eq_false h];rfl)]⟩) ((Ev.const _).succ fun k=>by rw[Am6.l2_eq,if_neg (by simp)]) 0 (Nat.zero_le _)
 refine⟨v,Am6.of _ _ _ (hv.of_eq fun k=>rfl),hv'.trans ?_⟩;rw[allIn_iff];exact⟨fun⟨_,h⟩=>⟨fun i hi=>(h i (Nat.zero_le _) hi).1,fun i h0 hi=>(h i (Nat.zero_le _) hi).2 h0⟩,fun⟨h1,h2⟩=>⟨rfl,fun i _ hi=>⟨h1 i hi,fun h0=>h2 i h0 hi⟩⟩⟩
theorem Ai6.val (xs:List Int) (hn:xs.length<4611686018427387904):∃ v,Ai6.F (xs,())=some ((v,()),())/\(v=true↔A1o xs):=by
 by_cases hz:xs.length=0
 . exact⟨true,Ai6.of _ (((Ev.const _).succ fun k=>by rw[Ai6.T,Ai6.l2_eq,if_neg (by simp[hz])]).of_eq fun k=>rfl),by simp;intro i h1 h2;omega⟩
 obtain⟨v,hv,hv'⟩:=Ev.allF (L:=fun k i=>Ai6.l2 k xs (i:Int)) (a:=()) (b:=()) (n:=xs.length) (fun i=>0<i->xs.getD (i-1) 0<xs.getD i 0) true 1 (fun i h0 hi2=>by
   have E:=fun k=>Ai6.l2_eq k xs (i:Int);have h0:0<i:=h0
   . have h1:i-1<xs.length:=by omega
     simp only[if_pos (ltI.2 hi2),if_pos (idxI.2 hi2),Int.toNat_natCast,A0x (show i<4611686018427387904 by omega),A5L h0 (show i<4611686018427387904 by omega),if_pos (idxI.2 h1)]at E;by_cases h2:xs.getD (i-1) 0<xs.getD i 0
     . exact .inl ⟨fun _=>h2,fun k=>by rw[E,if_neg (by simp only[decide_eq_true_eq];omega)]⟩
     . exact .inr ⟨fun hh=>h2 (hh h0),fun k=>by rw[E,if_pos (by simp only[decide_eq_true_eq];omega)]⟩) ((Ev.const _).succ fun k=>by rw[Ai6.l2_eq,if_neg (by simp)]) 1 (Nat.le_refl _) (by omega)
 refine⟨v,Ai6.of _ (hv.of_eq fun k=>rfl),hv'.trans ?_⟩;exact⟨fun⟨_,h⟩ i h0 hi=>h i h0 hi h0,fun h=>⟨rfl,fun i _ hi h0=>h i h0 hi⟩⟩
theorem Ae4.val (xs:List Int) (f:Int×Unit->Option (Bool×Unit)) (p:Int->Bool) (hf:∀ x∈xs,f (x,())=some (p x,())) (hn:xs.length<4611686018427387904) :
   ∃ r:Int,Ae4.F (xs,f,())=some ((r,()),())/\((r=-1/\∀ x∈xs,p x=false)∨∃ j:Nat,j<xs.length/\r=j/\p (xs.getD j 0)=true/\∀ i,i<j->p (xs.getD i 0)=false):=by
 obtain⟨r,hr,hq⟩:=Ev.loop (σ:=Unit) (R:=(Int×Unit)×Unit) (fun k i _=>Ae4.l2 k xs f xs.length (i:Int)) xs.length (fun i _=>∀ j,j<i->p (xs.getD j 0)=false)
   (fun r=>∃ v:Int,r=((v,()),())/\((v=-1/\∀ x∈xs,p x=false)∨∃ j:Nat,j<xs.length/\v=j/\p (xs.getD j 0)=true/\∀ i,i<j->p (xs.getD i 0)=false))
   (fun i s hi hI=>by
     have E:=fun k=>Ae4.l2_eq k xs f xs.length (i:Int);simp only[if_pos (ltI.2 hi),if_pos (idxI.2 hi),Int.toNat_natCast,hf _ (A0z 0 hi),Option.bind_some,A0x (show i<4611686018427387904 by omega)]at E;cases hp:p (xs.getD i 0)with
     | true=>exact .inl ⟨_,(Ev.const _).succ fun k=>by rw[E,if_pos hp],i,rfl,.inr ⟨i,hi,rfl,hp,hI⟩⟩
     | false =>
       refine .inr ⟨(),fun j hj=>?_,Goes.succ fun k=>by rw[E,if_neg (by rw[hp];simp)]⟩;by_cases hji:j=i
       . rw[hji];exact hp
       . exact hI j (by omega))
   (fun s hI=>⟨_,(Ev.const _).succ fun k=>by rw[Ae4.l2_eq,if_neg (by simp)],-1,rfl,.inl ⟨rfl,fun x hx=>by
     obtain⟨j,hj,rfl⟩:=List.getElem_of_mem hx;rw[<-A0y (d:=0) hj];exact hI j hj⟩⟩) 0 () (Nat.zero_le _) (by intro j hj;omega)
 obtain⟨v,rfl,hv⟩:=hq;exact⟨v,Ae4.of _ _ (hr.of_eq fun k=>rfl),hv⟩
theorem Ac9.val (xs:List Int) (f:Int×Unit->Option (Bool×Unit)) (p:Int->Bool) (hf:∀ x∈xs,f (x,())=some (p x,())) (hn:xs.length<4611686018427387904) :
   Ac9.F (xs,f,())=some ((xs.any p,()),()):=by
 obtain⟨r,hr,h⟩:=Ae4.val xs f p hf hn;rw[Ac9.eq,Ac9.T,hr];simp only[Option.bind_some];rcases h with⟨rfl,h⟩|⟨j,hj,rfl,hp,-⟩
 . have:xs.any p=false:=by simp only[List.any_eq_false];intro x hx;simp[h x hx]
   rw[this];rfl
 . have:xs.any p=true:=List.any_eq_true.2 ⟨_,A0z 0 hj,hp⟩;rw[this];simp
theorem Ao5.val (xs:List Int) (p:Int) (hn:xs.length<4611686018427387904):∃ v,Ao5.F (xs,p,())=some ((v,()),())/\(v=true↔A0N 0 (IntKind.i64.wrap (p-1)) xs):=by
 rw[Ao5.eq,Ao5.T,Ac9.val xs _ (fun a=>!decide (0≤a/\a≤IntKind.i64.wrap (p-1))) (fun a _=>by
   show(As1.F (a,p,())).map (·.1)=_;rw[As1.eq,As1.T,As2.eq,As2.T,Ab1.val];rfl) hn]
 refine⟨_,rfl,?_⟩;simp only[Bool.not_eq_true',List.any_eq_false,Bool.not_eq_eq_eq_not,Bool.not_true,A0N];simp
def MatOk (m:MatV):Prop:=A0G m.1/\(0≤m.2.1/\m.2.1≤32)/\(0≤m.2.2.1/\m.2.2.1≤32)/\(m.2.2.2.length:Int)=m.2.1*m.2.2.1/\A0N 0 (m.1-1) m.2.2.2
theorem A6U {a b:Int} (ha:0≤a/\a≤32) (hb:0≤b/\b≤32):0≤a*b/\a*b≤1024:=by
 obtain⟨a,rfl⟩:=Int.eq_ofNat_of_zero_le ha.1;obtain⟨b,rfl⟩:=Int.eq_ofNat_of_zero_le hb.1;have:a*b≤32*32:=Nat.mul_le_mul (by omega) (by omega);have e:(a:Int)*(b:Int)=((a*b:Nat):Int):=by simp
 omega
theorem Ah6.val (xs:List Int) (n p:Int) (hn:xs.length<4611686018427387904):∃ v,Ah6.F (xs,n,p,())=some ((v,()),())/\(v=true↔(xs.length:Int)=n/\A0N 0 (IntKind.i64.wrap (p-1)) xs):=by
 obtain⟨v,hv,hv'⟩:=Ev.allP (L:=fun k i=>Ah6.l2 k xs n p (i:Int)) (a:=()) (b:=()) (n:=xs.length) (fun i=>0≤xs.getD i 0/\xs.getD i 0≤IntKind.i64.wrap (p-1)) ((xs.length:Int)==n) (fun i hi=>by
   have E:=fun k=>Ah6.l2_eq k xs n p (i:Int);simp only[if_pos (ltI.2 hi),if_pos (idxI.2 hi),Int.toNat_natCast,Aa7.val,Option.bind_some,A0x (show i<4611686018427387904 by omega)]at E;by_cases h:0≤xs.getD i 0/\xs.getD i 0≤IntKind.i64.wrap (p-1)
   . exact .inl ⟨h,fun k=>by rw[E,if_neg (by rw[decide_eq_true h];simp)]⟩
   . exact .inr ⟨h,fun k=>by rw[E,if_pos (by rw[decide_eq_false h];rfl)]⟩) ((Ev.const _).succ fun k=>by rw[Ah6.l2_eq,if_neg (by simp)]) 0 (Nat.zero_le _)
 refine⟨v,Ah6.of _ _ _ (hv.of_eq fun k=>rfl),hv'.trans ?_⟩;rw[allIn_iff];simp only[beq_iff_eq];exact⟨fun⟨h1,h2⟩=>⟨h1,fun i hi=>h2 i (Nat.zero_le _) hi⟩,fun⟨h1,h2⟩=>⟨h1,fun i _ hi=>h2 i hi⟩⟩
theorem Aq2.val (m:MatV) (hn:m.2.2.2.length<4611686018427387904):∃ v,Aq2.F (m,())=some ((v,()),())/\(v=true↔MatOk m):=by
 obtain⟨p,r,c,xs⟩:=m;obtain⟨v1,h1,h1'⟩:=Aj1.val p;rw[Aq2.eq,Aq2.T,Ak1.eq,Ak1.T,h1];simp only[Option.bind_some,Aa7.val];unfold MatOk;cases v1 with
 | false=>exact⟨false,by rw[if_neg (by simp)],by simp;intro h;exact absurd (h1'.2 h) (by simp)⟩
 | true =>
   have hp:=h1'.1 rfl;have hpr:=hp.1;by_cases hr:0≤r/\r≤32
   . by_cases hc:0≤c/\c≤32
     . have hm:=A6U hr hc;obtain⟨v2,h2,h2'⟩:=Ah6.val xs (IntKind.i64.wrap (r*c)) p hn;rw[A0j (x:=r*c) (by omega) (by omega),A0j (x:=p-1) (by omega) (by omega)]at h2';refine⟨v2,by rw[if_pos rfl,if_pos (by simp only[decide_eq_true_eq];exact hr),if_pos (by simp only[decide_eq_true_eq];exact hc),h2];rfl,h2'.trans ?_⟩;exact⟨fun h=>⟨hp,hr,hc,h.1,h.2⟩,fun h=>⟨h.2.2.2.1,h.2.2.2.2⟩⟩
     . exact⟨false,by rw[if_pos rfl,if_pos (by simp only[decide_eq_true_eq];exact hr),if_neg (by simp only[decide_eq_true_eq];exact hc)],by simp only[Bool.false_eq_true,false_iff];exact fun h=>hc h.2.2.1⟩
   . exact⟨false,by rw[if_pos rfl,if_neg (by simp only[decide_eq_true_eq];exact hr)],by simp only[Bool.false_eq_true,false_iff];exact fun h=>hr h.2.1⟩
theorem Ao2.val (m:MatV) (hn:m.2.2.2.length<4611686018427387904):∃ v,Ao2.F (m,())=some ((v,()),())/\(v=true↔MatOk m):=by
 obtain⟨p,r,c,xs⟩:=m;obtain⟨v1,h1,h1'⟩:=Af7.val p;rw[Ao2.eq,Ao2.T,h1,Ao9.eq,Ao9.T,Ao9.eq,Ao9.T,Ac6.eq,Ac6.T];simp only[Option.bind_some,Ab1.val];unfold MatOk;cases v1 with
 | false=>exact⟨false,by rw[if_neg (by simp)],by simp;intro h;exact absurd (h1'.2 h) (by simp)⟩
 | true =>
   have hp:=h1'.1 rfl;have hpr:=hp.1;by_cases hr:0≤r/\r≤32
   . by_cases hc:0≤c/\c≤32
     . have hm:=A6U hr hc;obtain⟨v2,h2,h2'⟩:=Ao5.val xs p hn;rw[A0j (x:=p-1) (by omega) (by omega)]at h2';rw[if_pos rfl,if_pos (by simp only[decide_eq_true_eq];exact hr),if_pos (by simp only[decide_eq_true_eq];exact hc),A0j (x:=r*c) (by omega) (by omega)];by_cases hl:(xs.length:Int)=r*c
       . exact⟨v2,by rw[if_pos (by simp only[beq_iff_eq];exact hl),h2];rfl,h2'.trans ⟨fun h=>⟨hp,hr,hc,hl,h⟩,fun h=>h.2.2.2.2⟩⟩
       . exact⟨false,by rw[if_neg (by simp only[beq_iff_eq];exact hl)],by simp only[Bool.false_eq_true,false_iff];exact fun h=>hl h.2.2.2.1⟩
     . exact⟨false,by rw[if_pos rfl,if_pos (by simp only[decide_eq_true_eq];exact hr),if_neg (by simp only[decide_eq_true_eq];exact hc)],by simp only[Bool.false_eq_true,false_iff];exact fun h=>hc h.2.2.1⟩
   . exact⟨false,by rw[if_pos rfl,if_neg (by simp only[decide_eq_true_eq];exact hr)],by simp only[Bool.false_eq_true,false_iff];exact fun h=>hr h.2.1⟩
def sumN (f:Nat->Int):Nat->Int
 | 0=>0
 | n+1=>sumN f n+f n
theorem sumN_bd {f:Nat->Int} {n:Nat} {B:Nat} (h:∀ k,k<n->0≤f k/\f k≤(B:Int)):0≤sumN f n/\sumN f n≤((n*B:Nat):Int):=by
 induction n with
 | zero=>simp[sumN]
 | succ n ih =>
   have h1:=ih fun k hk=>h k (by omega);have h2:=h n (by omega);rw[Nat.add_mul,Nat.one_mul];simp only[sumN];omega
theorem A0A {f g:Nat->Int} {n:Nat} (h:∀ k,k<n->f k=g k):sumN f n=sumN g n:=by
 induction n with
 | zero=>rfl
 | succ n ih=>simp only[sumN];rw[ih fun k hk=>h k (by omega),h n (by omega)]
theorem A2X {p a b:Int} (hp:2≤p/\p≤251) (ha:0≤a/\a≤p-1) (hb:0≤b/\b≤p-1):0≤a*b/\a*b≤((62500:Nat):Int):=by
 obtain⟨a,rfl⟩:=Int.eq_ofNat_of_zero_le ha.1;obtain⟨b,rfl⟩:=Int.eq_ofNat_of_zero_le hb.1;have:a*b≤250*250:=Nat.mul_le_mul (by omega) (by omega);have e:(a:Int)*(b:Int)=((a*b:Nat):Int):=by simp
 omega
theorem A2U {a p:Int} (h:0≤a):a.tmod p=a%p:=Int.tmod_eq_emod_of_nonneg h
theorem A2d {a p:Int} (hp:2≤p):0≤a%p/\a%p≤p-1:=by
 have h1:=Int.emod_nonneg a (show p≠0 by omega);have h2:=Int.emod_lt_of_pos a (show 0<p by omega);omega
theorem A0D {lo hi:Int} {xs:List Int} (h:A0N lo hi xs) {i:Nat} (hi':i<xs.length):lo≤xs.getD i 0/\xs.getD i 0≤hi:=allIn_iff.1 h i hi'
def dotE (xs ys:List Int) (k:Nat):Int:=xs.getD k 0*ys.getD k 0
theorem Am0.val (xs ys:List Int) (p:Int) (hp:2≤p/\p≤251) (hx:A0N 0 (p-1) xs) (hy:A0N 0 (p-1) ys) (hl:xs.length≤ys.length) (hn:xs.length≤1048576) :
   Am0.F (xs,ys,p,())=some ((sumN (dotE xs ys) xs.length%p,()),()):=by
 refine Am0.of _ _ _ ?_;obtain⟨s,hs,hg⟩:=Goes.loop (R:=((Int×Unit)×Unit)) (fun k i (s:Int)=>Am0.l3 k xs ys p s (xs.length:Int) (i:Int)) xs.length (fun i s=>s=sumN (dotE xs ys) i%p) (fun i s hi h2=>⟨_,rfl,Goes.succ fun k=>by
   have hm:=A2X hp (A0D hx hi) (A0D hy (show i<ys.length by omega));have hme:=A2d (a:=sumN (dotE xs ys) i) hp.1;rw[Am0.l3_eq,if_pos (ltI.2 hi),if_pos (idxI.2 hi),if_pos (idxI.2 (show i<ys.length by omega)),if_neg (by omega),A0x (by omega),h2];simp only[Int.toNat_natCast];rw[A0j (x:=xs.getD i 0*ys.getD i 0) (by omega) (by omega),A0j (by omega) (by omega),A2U (by omega),Int.emod_add_emod];rfl⟩) 0 0 (Nat.zero_le _) (by simp[sumN])
 refine Ev.of_eq (hg _ ((Ev.const _).succ fun k=>?_)) fun k=>rfl;rw[Am0.l3_eq,if_neg (by simp),hs]
theorem Goes.fillSet {R:Type} (L3:Nat->Nat->List Int->Option R) (L6:Nat->Nat->Nat->List Int->Option R) (M N Z:Nat) (g:Nat->Nat->Int) (pos:Nat->Nat->Nat)
   (hpos:∀ i j,i<M->j<N->pos i j<Z) (inj:∀ i j i' j',i<M->j<N->i'<M->j'<N->pos i j=pos i' j'->i=i'/\j=j')
   (hin:∀ i x,i<M->x.length=Z->Goes (fun k=>L3 k i x) (fun k=>L6 k i 0 x))
   (hstep:∀ i j x,i<M->j<N->x.length=Z->Goes (fun k=>L6 k i j x) (fun k=>L6 k i (j+1) (x.set (pos i j) (g i j))))
   (hout:∀ i x,i<M->x.length=Z->Goes (fun k=>L6 k i N x) (fun k=>L3 k (i+1) x)) (x0:List Int) (h0:x0.length=Z) :
   ∃ y,y.length=Z/\(∀ i j,i<M->j<N->y.getD (pos i j) 0=g i j)/\(∀ q,(∀ i j,i<M->j<N->pos i j≠q)->y.getD q 0=x0.getD q 0)/\Goes (fun k=>L3 k 0 x0) (fun k=>L3 k M y):=by
 have gs:∀ (l:List Int) (q:Nat) (v:Int) (s:Nat),q<l.length->(l.set q v).getD s 0=if s=q then v else l.getD s 0:=fun l q v s hq=>by
   simp only[List.getD_eq_getElem?_getD,List.getElem?_set];by_cases hqs:q=s
   . subst hqs;simp[hq]
   . simp[hqs,Ne.symm hqs]
 obtain⟨y,⟨h1,h2,h3⟩,hg⟩:=Goes.loop (R:=R) (fun k i x=>L3 k i x) M (fun i x=>x.length=Z/\(∀ a b,a<i->b<N->x.getD (pos a b) 0=g a b)/\∀ q,(∀ a b,a<M->b<N->pos a b≠q)->x.getD q 0=x0.getD q 0) (fun i x hi ⟨h1,h2,h3⟩=>by
   obtain⟨x',⟨h4,h5,h6,h7⟩,hg2⟩:=Goes.loop (R:=R) (fun k j x=>L6 k i j x) N (fun j x=>x.length=Z/\(∀ a b,a<i->b<N->x.getD (pos a b) 0=g a b)/\(∀ b,b<j->x.getD (pos i b) 0=g i b)/\∀ q,(∀ a b,a<M->b<N->pos a b≠q)->x.getD q 0=x0.getD q 0) (fun j x hj ⟨k1,k2,k3,k4⟩=>by
     have hp:=hpos i j hi hj;refine⟨_,⟨by simp[k1],fun a b ha hb=>?_,fun b hb=>?_,fun q hq=>?_⟩,hstep i j x hi hj k1⟩
     . rw[gs _ _ _ _ (by omega),if_neg (fun he=>by have:=(inj _ _ _ _ (by omega) hb hi hj he).1;omega)];exact k2 a b ha hb
     . rw[gs _ _ _ _ (by omega)];by_cases hbj:b=j
       . rw[if_pos (by rw[hbj]),hbj]
       . rw[if_neg (fun he=>hbj (inj _ _ _ _ hi (by omega) hi hj he).2)];exact k3 b (by omega)
     . rw[gs _ _ _ _ (by omega),if_neg (fun he=>hq i j hi hj he.symm)];exact k4 q hq) 0 x (Nat.zero_le _) ⟨h1,h2,fun b hb=>by omega,h3⟩
   refine⟨x',⟨h4,fun a b ha hb=>?_,h7⟩,((hin i x hi h1).trans hg2).trans (hout i x' hi h4)⟩;by_cases hai:a=i
   . rw[hai];exact h6 b hb
   . exact h5 a b (by omega) hb) 0 x0 (Nat.zero_le _) ⟨h0,fun a b ha=>by omega,fun _ _=>rfl⟩
 exact⟨y,h1,h2,h3,hg⟩
theorem rowInj {C:Nat} (a b a' b':Nat) (hb:b<C) (hb':b'<C) (he:a*C+b=a'*C+b'):a=a'/\b=b':=by
 have h1:(a*C+b)/C=a:=by rw[Nat.mul_comm,Nat.mul_add_div (by omega),Nat.div_eq_of_lt hb];omega
 have h2:(a'*C+b')/C=a':=by rw[Nat.mul_comm,Nat.mul_add_div (by omega),Nat.div_eq_of_lt hb'];omega
 have h3:a=a':=by rw[<-h1,<-h2,he]
 subst h3;exact⟨rfl,by omega⟩
theorem A5G {R C i j:Nat} (hi:i<R) (hj:j<C):i*C+j<R*C:=by
 have h2:=Nat.mul_le_mul_right C (show i+1≤R by omega);rw[Nat.add_mul,Nat.one_mul]at h2;omega
theorem Ac8.val (xs:List Int) (h:xs.length≤1048576):Ac8.F (xs,())=some ((xs,()),()):=by
 rw[Ac8.eq,Ac8.T];have hb:([]:List Int).length+xs.length≤bigA:=by simp only[List.length_nil,bigA];omega
 by_cases h0:0<xs.length
 . rw[if_pos h0,if_pos hb];rfl
 . have:xs=[]:=List.eq_nil_of_length_eq_zero (by omega);subst this;rw[if_neg h0];exact b2n rfl (by rw[if_pos hb];rfl)
theorem Ad3.val (xs:List (List Int)) (h:SmL xs):Ad3.F (xs,())=some ((xs,()),()):=by
 have hn:=h.1;refine Ad3.of _ ?_;obtain⟨s,hs,hg⟩:=Goes.loop (R:=((List (List Int)×Unit)×Unit)) (fun k i (x:List (List Int))=>Ad3.l3 k xs (xs.length:Int) (i:Int) x) xs.length (fun i x=>x=xs.take i) (fun i x hi h2=>⟨_,rfl,Goes.succ fun k=>by
   rw[Ad3.l3_eq,if_pos (ltI.2 hi),if_pos (idxI.2 hi)];simp only[Int.toNat_natCast,Ac8.val _ (h.2 _ (A0z [] hi)),Option.bind_some];rw[if_pos (by rw[h2];simp only[List.length_take,List.length_cons,List.length_nil,bigA];omega),A0x (by omega),h2,List.take_add_one,List.getElem?_eq_getElem hi,Option.toList_some,A0y hi]⟩) 0 [] (Nat.zero_le _) rfl
 rw[List.take_of_length_le (Nat.le_refl _)]at hs;refine Ev.of_eq (hg _ ((Ev.const _).succ fun k=>?_)) fun k=>rfl;rw[Ad3.l3_eq,if_neg (by simp),hs]
def A1v (R C:Nat) (g:Nat->Nat->Int):List Int:=(List.range R).flatMap fun i=>(List.range C).map (g i)
theorem A2L (R C:Nat) (g:Nat->Nat->Int):A1v (R+1) C g=A1v R C g++(List.range C).map (g R):=by simp[A1v,List.range_succ]
theorem A0F (R C:Nat) (g:Nat->Nat->Int):(A1v R C g).length=R*C:=by
 induction R with
 | zero=>simp[A1v]
 | succ R ih=>rw[A2L,List.length_append,ih,List.length_map,List.length_range,Nat.add_mul,Nat.one_mul]
theorem A1z (R C:Nat) (g:Nat->Nat->Int) {i j:Nat} (hi:i<R) (hj:j<C):(A1v R C g).getD (i*C+j) 0=g i j:=by
 induction R with
 | zero=>omega
 | succ R ih =>
   rw[A2L];by_cases h:i<R
   . have hlt:i*C+j<(A1v R C g).length:=by
       rw[A0F];have:=Nat.mul_le_mul_right C (show i+1≤R by omega);rw[Nat.add_mul,Nat.one_mul]at this;omega
     rw[List.getD_eq_getElem?_getD,List.getElem?_append_left hlt,<-List.getD_eq_getElem?_getD];exact ih h
   . obtain rfl:i=R:=by omega
     rw[List.getD_eq_getElem?_getD,List.getElem?_append_right (by rw[A0F];omega),A0F,show i*C+j-i*C=j by omega,List.getElem?_map,List.getElem?_range hj];rfl
theorem A6M (R C:Nat) (g:Nat->Nat->Int) (hR:R≤32) (hC:C≤32):(A1v R C g).length≤1024:=by
 rw[A0F];exact Nat.mul_le_mul hR hC
theorem Ab4.val (p:Int) (R C:Nat) (f:Int×Int×Unit->Option (Int×Unit)) (g:Nat->Nat->Int) (hR:R≤32) (hC:C≤32) (hf:∀ i j,i<R->j<C->f ((i:Int),(j:Int),())=some (g i j,())) :
   Ab4.F (p,(R:Int),(C:Int),f,())=some (((p,(R:Int),(C:Int),A1v R C g),()),()):=by
 refine Ab4.of _ _ _ _ ?_;obtain⟨s,hs,hg⟩:=Goes.loop (R:=((MatV×Unit)×Unit)) (fun k i (s:List Int)=>Ab4.l3 k (C:Int) f (R:Int) (i:Int) 0 0 0 [] p (R:Int) (C:Int) s) R (fun i s=>s=A1v i C g) (fun i s hi h2=>by
   refine⟨_,rfl,(Goes.succ fun k=>by rw[Ab4.l3_eq,if_pos (ltI.2 hi)]).trans ?_⟩;obtain⟨s2,hs2,hg2⟩:=Goes.loop (R:=((MatV×Unit)×Unit)) (fun k j (x:List Int)=>Ab4.l6 k (C:Int) f (i:Int) (R:Int) (i:Int) (C:Int) (j:Int) 0 0 0 [] p (R:Int) (C:Int) x) C (fun j x=>x=A1v i C g++(List.range j).map (g i)) (fun j x hj h3=>⟨_,rfl,Goes.succ fun k=>by
     rw[Ab4.l6_eq,if_pos (ltI.2 hj),hf i j hi hj];simp only[Option.bind_some];have:=A6M i C g (by omega) hC;rw[if_pos (by rw[h3];simp only[List.length_append,List.length_map,List.length_range,List.length_cons,List.length_nil,bigA];omega),A0x (by omega),h3,List.range_succ,List.map_append,List.append_assoc];rfl⟩) 0 s (Nat.zero_le _) (by simp[h2])
   refine hg2.trans (Goes.succ fun k=>?_);rw[Ab4.l6_eq,if_neg (by simp),A0x (by omega),hs2,A2L]) 0 [] (Nat.zero_le _) rfl
 refine Ev.of_eq (hg _ ((Ev.const _).succ fun k=>?_)) fun k=>rfl;rw[Ab4.l3_eq,if_neg (by simp),hs]
def A1n (m:MatV):MatV:=(m.1,m.2.2.1,m.2.1,A1v m.2.2.1.toNat m.2.1.toNat fun i j=>m.2.2.2.getD (j*m.2.2.1.toNat+i) 0)
theorem A1P {r c i j:Nat} (hr:r≤32) (hc:c≤32) (hi:i<r) (hj:j<c):IntKind.i64.wrap (IntKind.i64.wrap ((i:Int)*(c:Int))+(j:Int))=((i*c+j:Nat):Int)/\i*c+j<r*c:=by
 have h1:i*c≤32*32:=Nat.mul_le_mul (by omega) hc;have e:(i:Int)*(c:Int)=((i*c:Nat):Int):=by simp
 have h2:=Nat.mul_le_mul_right c (show i+1≤r by omega);rw[Nat.add_mul,Nat.one_mul]at h2;refine⟨?_,by omega⟩;rw[e,A0j (x:=((i*c:Nat):Int)) (by omega) (by omega),A0j (by omega) (by omega)];omega
theorem Ap2.val (m:MatV) (h:MatOk m):Ap2.F (m,())=some ((A1n m,()),()):=by
 obtain⟨p,r,c,xs⟩:=m;obtain⟨-,hr,hc,hl,-⟩:=h;obtain⟨r,rfl⟩:=Int.eq_ofNat_of_zero_le hr.1;obtain⟨c,rfl⟩:=Int.eq_ofNat_of_zero_le hc.1;have hl':xs.length=r*c:=by
   have e:(r:Int)*(c:Int)=((r*c:Nat):Int):=by simp
   have hl2:(xs.length:Int)=(r:Int)*(c:Int):=hl;omega
 have hr':r≤32:=by have:=hr.2;simp only[]at this;omega
 have hc':c≤32:=by have:=hc.2;simp only[]at this;omega
 rw[Ap2.eq,Ap2.T,Ab4.val p c r _ (fun i j=>xs.getD (j*c+i) 0) hc' hr' (fun i j hi hj=>by
   show(As6.F ((i:Int),(j:Int),(p,(r:Int),(c:Int),xs),())).map (·.1)=_;obtain⟨e1,e2⟩:=A1P hr' hc' hj hi;rw[As6.eq,As6.T,Aj5.eq,Aj5.T,e1,if_pos (by omega)];simp only[Option.bind_some,Int.toNat_natCast];rfl)]
 rfl
theorem A6g {m:MatV} (h:MatOk m):MatOk (A1n m):=by
 obtain⟨p,r,c,xs⟩:=m;obtain⟨hp,hr,hc,hl,ha⟩:=h;obtain⟨r,rfl⟩:=Int.eq_ofNat_of_zero_le hr.1;obtain⟨c,rfl⟩:=Int.eq_ofNat_of_zero_le hc.1;refine⟨hp,hc,hr,?_,?_⟩
 . show((A1v c r _).length:Int)=(c:Int)*(r:Int);rw[A0F];simp
 . intro a ham;simp only[A1n,A1v,List.mem_flatMap,List.mem_map,List.mem_range,Int.toNat_natCast]at ham;obtain⟨i,hi,j,hj,rfl⟩:=ham;have hr':r≤32:=by have:=hr.2;simp only[]at this;omega
   have hc':c≤32:=by have:=hc.2;simp only[]at this;omega
   obtain⟨-,e2⟩:=A1P hr' hc' hj hi;have hl2:(xs.length:Int)=(r:Int)*(c:Int):=hl;have e:(r:Int)*(c:Int)=((r*c:Nat):Int):=by simp
   have hl3:xs.length=r*c:=by rw[e]at hl2;exact Int.ofNat_inj.1 hl2
   exact ha _ (A0z 0 (by rw[hl3];exact e2))
theorem A3Z {R C:Nat} {g:Nat->Nat->Int} {ys:List Int} (hl:ys.length=R*C) (h:∀ i j,i<R->j<C->ys.getD (i*C+j) 0=g i j):ys=A1v R C g:=by
 refine List.ext_getElem (by rw[hl,A0F]) fun n h1 h2=>?_;rw[<-A0y (d:=0) h1,<-A0y (d:=0) h2];by_cases hC:C=0
 . subst hC;rw[hl]at h1;omega
 have hn:n<R*C:=by omega
 have hi:n/C<R:=Nat.div_lt_of_lt_mul (by rw[Nat.mul_comm];exact hn);have hj:n%C<C:=Nat.mod_lt _ (by omega);have e:n/C*C+n%C=n:=by rw[Nat.mul_comm];exact Nat.div_add_mod n C
 rw[<-e,h _ _ hi hj,A1z _ _ _ hi hj]
theorem MatOk.nat {m:MatV} (h:MatOk m):∃ R C:Nat,m.2.1=(R:Int)/\m.2.2.1=(C:Int)/\R≤32/\C≤32/\m.2.2.2.length=R*C/\(2≤m.1/\m.1≤251)/\A0N 0 (m.1-1) m.2.2.2:=by
 obtain⟨p,r,c,xs⟩:=m;obtain⟨hp,hr,hc,hl,ha⟩:=h;obtain⟨r,rfl⟩:=Int.eq_ofNat_of_zero_le hr.1;obtain⟨c,rfl⟩:=Int.eq_ofNat_of_zero_le hc.1;have hl2:(xs.length:Int)=(r:Int)*(c:Int):=hl;have e:(r:Int)*(c:Int)=((r*c:Nat):Int):=by simp
 have hr2:(r:Int)≤32:=hr.2;have hc2:(c:Int)≤32:=hc.2;exact⟨r,c,rfl,rfl,by omega,by omega,by rw[e]at hl2;exact Int.ofNat_inj.1 hl2,hp.1,ha⟩
def rowL (xs:List Int) (C i:Nat):List Int:=(xs.take ((i+1)*C)).drop (i*C)
theorem A0Y {xs:List Int} {R C i:Nat} (hl:xs.length=R*C) (hi:i<R):(rowL xs C i).length=C:=by
 have h2:=Nat.mul_le_mul_right C (show i+1≤R by omega);have e:(i+1)*C=i*C+C:=by rw[Nat.add_mul,Nat.one_mul]
 simp only[rowL,List.length_drop,List.length_take];omega
theorem A0l {xs:List Int} {C i k:Nat} (hk:k<C):(rowL xs C i).getD k 0=xs.getD (i*C+k) 0:=by
 have e:(i+1)*C=i*C+C:=by rw[Nat.add_mul,Nat.one_mul]
 simp only[rowL,List.getD_eq_getElem?_getD,List.getElem?_drop,List.getElem?_take];rw[if_pos (by omega)]
theorem A3o {xs:List Int} {C i:Nat} {x:Int} (h:x∈rowL xs C i):x∈xs:=List.mem_of_mem_take (List.mem_of_mem_drop h)
theorem rowWrap {R C i:Nat} (hR:R≤4096) (hC:C≤1024) (hi:i<R):IntKind.i64.wrap ((i:Int)*(C:Int))=((i*C:Nat):Int)/\IntKind.i64.wrap ((IntKind.i64.wrap ((i:Int)+1))*(C:Int))=(((i+1)*C:Nat):Int)/\i*C≤(i+1)*C/\(i+1)*C≤R*C:=by
 have h1:(i+1)*C≤4096*1024:=Nat.mul_le_mul (by omega) hC;have h0:i*C≤(i+1)*C:=Nat.mul_le_mul_right C (by omega);have e:(i:Int)*(C:Int)=((i*C:Nat):Int):=by simp
 have e2:((i+1:Nat):Int)*(C:Int)=(((i+1)*C:Nat):Int):=by simp
 refine⟨?_,?_,h0,Nat.mul_le_mul_right C (by omega)⟩
 . rw[e,A0j (by omega) (by omega)]
 . rw[A0x (by omega),e2,A0j (by omega) (by omega)]
theorem Ai4.val (p:Int) (R C:Nat) (xs:List Int) (hR:R≤4096) (hC:C≤1024) (hl:xs.length=R*C) (i:Nat) (hi:i<R) (r:Int):Ai4.F ((p,r,(C:Int),xs),(i:Int),())=some ((rowL xs C i,()),()):=by
 obtain⟨e1,e2,e3,e4⟩:=rowWrap hR hC hi;rw[Ai4.eq,Ai4.T,e1,e2,if_pos (by omega)];simp only[cutL,Int.toNat_natCast,rowL]
def A0n (xs:List Int) (R C:Nat):List (List Int):=(List.range R).map (rowL xs C)
theorem Ag8.val (p:Int) (R C:Nat) (xs:List Int) (hR:R≤4096) (hC:C≤1024) (hl:xs.length=R*C):Ag8.F ((p,(R:Int),(C:Int),xs),())=some ((A0n xs R C,()),()):=by
 refine Ag8.of _ _ _ _ ?_;obtain⟨s,hs,hg⟩:=Goes.loop (R:=((List (List Int)×Unit)×Unit)) (fun k i (s:List (List Int))=>Ag8.l3 k (R:Int) (i:Int) p (R:Int) (C:Int) xs s) R (fun i s=>s=(List.range i).map (rowL xs C)) (fun i s hi h2=>⟨_,rfl,Goes.succ fun k=>by
   have hrl:=A0Y hl hi;rw[Ag8.l3_eq,if_pos (ltI.2 hi),Ai4.val p R C xs hR hC hl i hi];simp only[Option.bind_some];rw[Ac8.val _ (by omega)];simp only[Option.bind_some];rw[if_pos (by rw[h2];simp only[List.length_map,List.length_range,List.length_cons,List.length_nil,bigA];omega),A0x (by omega),h2,List.range_succ,List.map_append];rfl⟩) 0 [] (Nat.zero_le _) rfl
 refine Ev.of_eq (hg _ ((Ev.const _).succ fun k=>?_)) fun k=>rfl;rw[Ag8.l3_eq,if_neg (by simp),hs];rfl
theorem A1K (xs:List Int) {R C i:Nat} (hi:i<R):(A0n xs R C).getD i []=rowL xs C i:=by
 simp[A0n,List.getD_eq_getElem?_getD,hi]
theorem A2b (xs:List Int) (R C:Nat):(A0n xs R C).length=R:=by simp[A0n]
def mulM (a b:MatV):MatV:=(a.1,a.2.1,b.2.2.1,A1v a.2.1.toNat b.2.2.1.toNat fun i j=>sumN (fun k=>a.2.2.2.getD (i*a.2.2.1.toNat+k) 0*b.2.2.2.getD (k*b.2.2.1.toNat+j) 0) a.2.2.1.toNat%a.1)
theorem A5Z {a b:MatV} (ha:MatOk a) (hb:MatOk b):MatOk (mulM a b):=by
 obtain⟨R,C,h1,h2,h3,h4,h5,h6,h7⟩:=ha.nat;obtain⟨R',C',k1,k2,k3,k4,k5,k6,k7⟩:=hb.nat;refine⟨ha.1,ha.2.1,hb.2.2.1,?_,fun x hx=>?_⟩
 . simp only[mulM,A0F,h1,k2,Int.toNat_natCast];simp
 . simp only[mulM,A1v,List.mem_flatMap,List.mem_map]at hx;obtain⟨i,_,j,_,rfl⟩:=hx;exact A2d h6.1
theorem Ag5.val (p:Int) (R C:Nat) (xs:List Int) (hm:MatOk (p,(R:Int),(C:Int),xs)):Ag5.F ((p,(R:Int),(C:Int),xs),())=some ((A0n (A1n (p,(R:Int),(C:Int),xs)).2.2.2 C R,()),()):=by
 have hR:(R:Int)≤32:=hm.2.1.2;have hC:(C:Int)≤32:=hm.2.2.1.2;have ht:=Ap2.val _ hm;rw[Ag5.eq,Ag5.T,ht];simp only[Option.bind_some];have:=Ag8.val p C R (A1n (p,(R:Int),(C:Int),xs)).2.2.2 (by omega) (by omega) (by simp only[A1n,A0F,Int.toNat_natCast]);rw[show A1n (p,(R:Int),(C:Int),xs)=(p,(C:Int),(R:Int),(A1n (p,(R:Int),(C:Int),xs)).2.2.2)from rfl,this];rfl
theorem A3E (p:Int) (R C:Nat) (xs:List Int) {i j:Nat} (hi:i<C) (hj:j<R):(A1n (p,(R:Int),(C:Int),xs)).2.2.2.getD (i*R+j) 0=xs.getD (j*C+i) 0:=by
 simp only[A1n,Int.toNat_natCast];rw[A1z _ _ _ hi hj]
theorem Ag7.val (a b:MatV) (ha:MatOk a) (hb:MatOk b) (hp:a.1=b.1) (hs:a.2.2.1=b.2.1):Ag7.F (a,b,())=some ((mulM a b,()),()):=by
 obtain⟨R,C,h1,h2,h3,h4,h5,h6,h7⟩:=ha.nat;obtain⟨R',C',k1,k2,k3,k4,k5,k6,k7⟩:=hb.nat;obtain⟨p,r,c,xs⟩:=a;obtain⟨q,r',c',ys⟩:=b;simp only[]at h1 h2 h5 h6 h7 k1 k2 k5 k6 k7 hp hs;subst h1 h2 k1 k2 hp;obtain rfl:C=R':=by omega
 have htk:=A6g hb;have hal:A0N 0 (p-1) (A1n (p,(C:Int),(C':Int),ys)).2.2.2:=htk.2.2.2.2;rw[Ag7.eq,Ag7.T,Ag5.val p C C' ys hb];simp only[Option.bind_some];rw[Ab4.val p R C' _ (fun i j=>sumN (fun k=>xs.getD (i*C+k) 0*ys.getD (k*C'+j) 0) C%p) h3 k4 (fun i j hi hj=>by
   show(As5.F ((i:Int),(j:Int),(p,(R:Int),(C:Int),xs),A0n (A1n (p,(C:Int),(C':Int),ys)).2.2.2 C' C,())).map (·.1)=_;have l1:=A0Y h5 hi;have l2:(rowL (A1n (p,(C:Int),(C':Int),ys)).2.2.2 C j).length=C:=A0Y (R:=C') (by simp only[A1n,A0F,Int.toNat_natCast]) hj;rw[As5.eq,As5.T,Ai4.val p R C xs (by omega) (by omega) h5 i hi];simp only[Option.bind_some,Int.toNat_natCast];rw[if_pos (by rw[A2b];omega),A1K _ hj,Am0.val _ _ p h6 (fun x hx=>h7 x (A3o hx)) (fun x hx=>hal x (A3o hx)) (by omega) (by omega)];simp only[Option.bind_some,Option.map_some,l1];congr 3;refine A0A fun k hk=>?_;rw[dotE,A0l hk,A0l hk,A3E p C C' ys hj hk])]
 simp only[Option.bind_some,mulM,Int.toNat_natCast]
theorem Ad0.val (p:Int) (R C:Nat) (hR:R≤1024) (hC:C≤1024):Ad0.F (p,(R:Int),(C:Int),())=some (((p,(R:Int),(C:Int),List.replicate (R*C) 0),()),()):=by
 have h1:R*C≤1024*1024:=Nat.mul_le_mul hR hC;have e:(R:Int)*(C:Int)=((R*C:Nat):Int):=by simp
 rw[Ad0.eq,Ad0.T,e,A0j (by omega) (by omega),if_pos (by simp only[bigN];omega)];simp only[Int.toNat_natCast]
theorem Ac5.val (a b:MatV) (ha:MatOk a) (hb:MatOk b) (hp:a.1=b.1) (hs:a.2.2.1=b.2.1):Ac5.F (a,b,())=some ((mulM a b,()),()):=by
 obtain⟨R,C,h1,h2,h3,h4,h5,h6,h7⟩:=ha.nat;obtain⟨R',C',k1,k2,k3,k4,k5,k6,k7⟩:=hb.nat;obtain⟨p,r,c,xs⟩:=a;obtain⟨q,r',c',ys⟩:=b;simp only[]at h1 h2 h5 h6 h7 k1 k2 k5 k6 k7 hp hs;subst h1 h2 k1 k2 hp;obtain rfl:C=R':=by omega
 obtain⟨f,hf⟩:∃ f:Nat->Nat->Nat->Int,f=fun i j k=>xs.getD (i*C+k) 0*ys.getD (k*C'+j) 0:=⟨_,rfl⟩;have hfb:∀ i j k,i<R->j<C'->k<C->0≤f i j k/\f i j k≤((62500:Nat):Int):=fun i j k hi hj hk=>by
   rw[hf];have e1:=A5G hi hk;have e2:=A5G hk hj;exact A2X h6 (A0D h7 (by omega)) (A0D k7 (by omega))
 have hsb:∀ i j n,i<R->j<C'->n≤C->0≤sumN (f i j) n/\sumN (f i j) n≤2000000:=fun i j n hi hj hn=>by
   have:=sumN_bd (f:=f i j) (n:=n) fun k hk=>hfb i j k hi hj (by omega);omega
 obtain⟨y,hy1,hy2,-,hg⟩:=Goes.fillSet (R:=((MatV×Unit)×Unit)) (fun k i x=>Ac5.l3 k p (R:Int) (C:Int) xs p (C:Int) (C':Int) ys (i:Int) 0 0 0 [] p (R:Int) (C':Int) x)
   (fun k i j x=>Ac5.l6 k p (R:Int) (C:Int) xs p (C:Int) (C':Int) ys (i:Int) (j:Int) 0 0 0 [] p (R:Int) (C':Int) x) R C' (R*C') (fun i j=>sumN (f i j) C%p) (fun i j=>i*C'+j)
   (fun i j hi hj=>A5G hi hj) (fun i j i' j' _ hj _ hj' he=>rowInj _ _ _ _ hj hj' he)
   (fun i x hi hx=>Goes.succ fun k=>by rw[Ac5.l3_eq,if_pos (ltI.2 hi)];rfl)
   (fun i j x hi hj hx=>by
     refine(Goes.succ fun k=>by rw[Ac5.l6_eq,if_pos (ltI.2 hj)]).trans ?_;obtain⟨s,hs,hg⟩:=Goes.loop (R:=((MatV×Unit)×Unit)) (fun n k (s:Int)=>Ac5.l10 n p (R:Int) (C:Int) xs p (C:Int) (C':Int) ys (i:Int) (j:Int) s (k:Int) 0 0 0 [] p (R:Int) (C':Int) x) C (fun k s=>s=sumN (f i j) k) (fun k s hk h8=>⟨_,rfl,Goes.succ fun n=>by
       obtain⟨e1,e2⟩:=A1P h3 h4 hi hk;obtain⟨e3,e4⟩:=A1P h4 k4 hk hj;have b1:=hfb i j k hi hj hk;have b2:=hsb i j k hi hj (by omega);rw[Ac5.l10_eq,if_pos (ltI.2 hk),e1,if_pos (by omega),e3,if_pos (by omega),A0x (by omega),h8];simp only[Int.toNat_natCast];have ef:xs.getD (i*C+k) 0*ys.getD (k*C'+j) 0=f i j k:=by rw[hf]
       rw[ef,A0j (x:=f i j k) (by omega) (by omega),A0j (by omega) (by omega)];rfl⟩) 0 0 (Nat.zero_le _) rfl
     refine hg.trans (Goes.succ fun n=>?_);obtain⟨e5,e6⟩:=A1P h3 k4 hi hj;have b2:=hsb i j C hi hj (Nat.le_refl _);rw[Ac5.l10_eq,if_neg (by simp),if_neg (by omega),e5,if_pos (by omega),A0x (by omega),hs,A2U b2.1];simp only[Int.toNat_natCast])
   (fun i x hi hx=>Goes.succ fun k=>by rw[Ac5.l6_eq,if_neg (by simp),A0x (by omega)]) (List.replicate (R*C') 0) (by simp)
 have hy:y=A1v R C' fun i j=>sumN (fun k=>xs.getD (i*C+k) 0*ys.getD (k*C'+j) 0) C%p:=A3Z hy1 fun i j hi hj=>by rw[hy2 i j hi hj,hf]
 refine Ac5.of _ _ _ _ _ _ _ _ (Ev.of_eq (hg _ ((Ev.const _).succ fun k=>?_)) fun k=>?_)
 . rw[Ac5.l3_eq,if_neg (by simp),hy];simp only[mulM,Int.toNat_natCast]
 . rw[Ac5.T,Ad0.val p R C' (by omega) (by omega)];rfl
def lexc:List Int->List Int->Int
 | [],[]=>0
 | [],_::_=>-1
 | _::_,[]=>1
 | a::u,b::v=>if cmpI a b≠0 then cmpI a b else lexc u v
theorem A0H (x y:Int):(x<y/\cmpI x y=-1)∨(x=y/\cmpI x y=0)∨(y<x/\cmpI x y=1):=by
 unfold cmpI;by_cases h:x<y
 . exact .inl ⟨h,if_pos h⟩
 . by_cases h2:x>y
   . exact .inr (.inr ⟨h2,by rw[if_neg h,if_pos h2]⟩)
   . exact .inr (.inl ⟨by omega,by rw[if_neg h,if_neg h2]⟩)
theorem A4w:∀ (a b:List Int),lexc a b=0↔a=b
 | [],[]=>by simp[lexc]
 | [],_::_=>by simp[lexc]
 | _::_,[]=>by simp[lexc]
 | a::u,b::v=>by
   rcases A0H a b with⟨h,e⟩|⟨h,e⟩|⟨h,e⟩
   . simp[lexc,e];intro h';omega
   . subst h;simp[lexc,e,A4w u v]
   . simp[lexc,e];intro h';omega
theorem A3K:∀ (a b c:List Int),lexc a b<0->lexc b c<0->lexc a c<0
 | [],[],c,h1,_=>by simp[lexc]at h1
 | [],_::_,[],_,h2=>by simp[lexc]at h2
 | [],_::_,_::_,_,_=>by simp[lexc]
 | _::_,[],c,h1,_=>by simp[lexc]at h1
 | _::_,_::_,[],_,h2=>by simp[lexc]at h2
 | a::u,b::v,c::w,h1,h2=>by
   have ih:=A3K u v w;simp only[lexc]at h1 h2 ⊢;rcases A0H a b with⟨g1,e1⟩|⟨g1,e1⟩|⟨g1,e1⟩<;>rcases A0H b c with⟨g2,e2⟩|⟨g2,e2⟩|⟨g2,e2⟩<;>rcases A0H a c with⟨g3,e3⟩|⟨g3,e3⟩|⟨g3,e3⟩<;>simp[e1,e2,e3]at h1 h2 ⊢<;>first|omega|exact ih h1 h2
def cmpS (a b:List Int):Int:=if cmpI a.length b.length≠0 then cmpI a.length b.length else lexc a b
theorem A0e (a b:List Int):cmpS a b=0↔a=b:=by
 unfold cmpS;rcases A0H a.length b.length with⟨h,e⟩|⟨h,e⟩|⟨h,e⟩
 . simp[e];intro h';rw[h']at h;omega
 . simp[e,A4w]
 . simp[e];intro h';rw[h']at h;omega
theorem A1A (a b c:List Int) (h1:cmpS a b<0) (h2:cmpS b c<0):cmpS a c<0:=by
 unfold cmpS at *;rcases A0H a.length b.length with⟨g1,e1⟩|⟨g1,e1⟩|⟨g1,e1⟩<;>rcases A0H b.length c.length with⟨g2,e2⟩|⟨g2,e2⟩|⟨g2,e2⟩<;>rcases A0H a.length c.length with⟨g3,e3⟩|⟨g3,e3⟩|⟨g3,e3⟩<;>simp[e1,e2,e3]at h1 h2 ⊢<;>first|omega|exact A3K a b c h1 h2
theorem A3H {a b:List Int} (h:a.length<b.length):cmpS a b<0:=by
 unfold cmpS;rcases A0H a.length b.length with⟨g,e⟩|⟨g,e⟩|⟨g,e⟩
 . simp[e]
 . omega
 . omega
theorem An5.val (x y:Int):An5.F (x,y,())=some ((cmpI x y,()),()):=by
 rw[An5.eq,An5.T,An7.eq,An7.T,An7.eq,An7.T];simp only[Option.bind_some,bne_self_eq_false,Bool.false_eq_true,if_false,decide_eq_true_eq,cmpI]
 repeat' split
 all_goals rfl
theorem A4q {a b:List Int} {i:Nat} (ha:i<a.length) (hb:i<b.length):lexc (a.drop i) (b.drop i)=if cmpI (a.getD i 0) (b.getD i 0)≠0 then cmpI (a.getD i 0) (b.getD i 0)else lexc (a.drop (i+1)) (b.drop (i+1)):=by
 rw[List.drop_eq_getElem_cons ha,List.drop_eq_getElem_cons hb,A0y ha,A0y hb];rfl
theorem Al0.val (a b:List Int) (ha:a.length≤1048576) (hb:b.length≤1048576):Al0.F (a,b,())=some ((lexc a b,()),()):=by
 obtain⟨r,hr,hq⟩:=Ev.loop (σ:=Unit) (R:=(Int×Unit)×Unit) (fun k i _=>Al0.l2 k a b a a.length (i:Int)) a.length (fun i _=>i≤b.length/\lexc a b=lexc (a.drop i) (b.drop i)) (fun r=>r=((lexc a b,()),()))
   (fun i s hi ⟨h1,h2⟩=>by
     have E:=fun k=>Al0.l2_eq k a b a a.length (i:Int);simp only[if_pos (ltI.2 hi),if_pos (idxI.2 hi),Int.toNat_natCast,A0x (show i<4611686018427387904 by omega)]at E;by_cases hib:i<b.length
     . simp only[if_neg (show ¬ decide ((i:Int)≥(b.length:Int))=true by simp;omega),if_pos (idxI.2 hib),An6.val,Option.bind_some]at E;have hd:=A4q hi hib;obtain⟨cc,hcc⟩:∃ cc,cmpI (a.getD i 0) (b.getD i 0)=cc:=⟨_,rfl⟩;rw[hcc]at hd;simp only[hcc]at E;by_cases hc:cc=0
       . refine .inr ⟨(),⟨by omega,by rw[h2,hd,if_neg (by simp[hc])]⟩,Goes.succ fun k=>by rw[E,if_neg (by simp[hc])]⟩
       . exact .inl ⟨_,(Ev.const _).succ fun k=>by rw[E,if_pos (by simp[hc])],by rw[h2,hd,if_pos hc]⟩
     . refine .inl ⟨_,(Ev.const _).succ fun k=>by rw[E,if_pos (by simp;omega)],?_⟩;rw[h2,List.drop_eq_getElem_cons hi,List.drop_of_length_le (show b.length≤i by omega)];rfl)
   (fun s ⟨h1,h2⟩=>by
     by_cases hl:a.length<b.length
     . refine⟨_,(Ev.const _).succ fun k=>by rw[Al0.l2_eq,if_neg (by simp),if_pos (by simp;omega)],?_⟩;rw[h2,List.drop_of_length_le (Nat.le_refl _),List.drop_eq_getElem_cons hl];rfl
     . refine⟨_,(Ev.const _).succ fun k=>by rw[Al0.l2_eq,if_neg (by simp),if_neg (by simp;omega)],?_⟩;rw[h2,List.drop_of_length_le (Nat.le_refl _),List.drop_of_length_le (by omega)];rfl) 0 () (Nat.zero_le _) ⟨Nat.zero_le _,rfl⟩
 subst hq;exact Al0.of _ _ (hr.of_eq fun k=>rfl)
theorem Ac3.val (a b:List Int) (ha:a.length≤1048576) (hb:b.length≤1048576):Ac3.F (a,b,())=some ((cmpS a b,()),()):=by
 rw[Ac3.eq,Ac3.T,An5.val,Al0.val a b ha hb];simp only[Option.bind_some,Aj4.val2,cmpS]
theorem Aj2.val (a b:List Int) (ha:a.length≤1048576):Aj2.F (a,b,())=some ((decide (cmpS a b<0),()),()):=by
 by_cases hl:a.length=b.length
 . obtain⟨r,hr,hq⟩:=Ev.loop (σ:=Unit) (R:=(Bool×Unit)×Unit) (fun k i _=>Aj2.l4 k a b (i:Int)) a.length (fun i _=>lexc a b=lexc (a.drop i) (b.drop i)) (fun r=>r=((decide (lexc a b<0),()),()))
     (fun i s hi h2=>by
       have hib:i<b.length:=by omega
       have E:=fun k=>Aj2.l4_eq k a b (i:Int);simp only[if_pos (ltI.2 hi),if_pos (idxI.2 hi),if_pos (idxI.2 hib),Int.toNat_natCast,A0x (show i<4611686018427387904 by omega)]at E;have hd:=A4q hi hib;obtain⟨ai,hai⟩:∃ ai,a.getD i 0=ai:=⟨_,rfl⟩;obtain⟨bi,hbi⟩:∃ bi,b.getD i 0=bi:=⟨_,rfl⟩;rw[hai,hbi]at hd;simp only[hai,hbi]at E;rcases A0H ai bi with⟨g,e⟩|⟨g,e⟩|⟨g,e⟩
       . refine .inl ⟨_,(Ev.const _).succ fun k=>by rw[E,if_pos (by simp;omega)],?_⟩;rw[h2,hd,if_pos (by rw[e];omega),e];simp[g]
       . exact .inr ⟨(),by rw[h2,hd,if_neg (by rw[e];simp)],Goes.succ fun k=>by rw[E,if_neg (by simp[g])]⟩
       . refine .inl ⟨_,(Ev.const _).succ fun k=>by rw[E,if_pos (by simp;omega)],?_⟩;rw[h2,hd,if_pos (by rw[e];omega),e];simp;omega)
     (fun s h2=>⟨_,(Ev.const _).succ fun k=>by rw[Aj2.l4_eq,if_neg (by simp)],by rw[h2,List.drop_of_length_le (Nat.le_refl _),List.drop_of_length_le (by omega)];rfl⟩) 0 () (Nat.zero_le _) rfl
   subst hq;refine Aj2.of _ _ (hr.of_eq fun k=>?_) |>.trans ?_
   . rw[Aj2.T,if_neg (by simp[hl])];rfl
   . have:cmpS a b=lexc a b:=by
       unfold cmpS;rcases A0H a.length b.length with⟨g,e⟩|⟨g,e⟩|⟨g,e⟩
       . omega
       . simp[e]
       . omega
     rw[this]
 . have:decide (cmpS a b<0)=decide ((a.length:Int)<(b.length:Int)):=by
     unfold cmpS;rcases A0H a.length b.length with⟨g,e⟩|⟨g,e⟩|⟨g,e⟩
     . simp[e];omega
     . omega
     . simp[e];omega
   rw[this];exact Aj2.of _ _ ((Ev.const _).of_eq fun k=>by rw[Aj2.T,if_pos (by simp;omega)])
def A0W (xs:List (List Int)):Prop:=∀ i j,i<j->j<xs.length->cmpS (xs.getD i []) (xs.getD j [])<0
theorem A3Q {xs:List (List Int)} (h:∀ i,0<i->i<xs.length->cmpS (xs.getD (i-1) []) (xs.getD i [])<0):A0W xs:=by
 intro i j;induction j with
 | zero=>intro h1;omega
 | succ j ih =>
   intro h1 h2;have h3:=h (j+1) (by omega) h2;simp only[Nat.add_sub_cancel]at h3;by_cases hij:i=j
   . rw[hij];exact h3
   . exact A1A _ _ _ (ih (by omega) (by omega)) h3
theorem wrapU {x:Int} (h1:0≤x) (h2:x<18446744073709551616):IntKind.u64.wrap x=x:=by
 have e:(2:Int) ^ (IntKind.u64).bits=18446744073709551616:=by decide
 unfold IntKind.wrap;simp only[e,show IntKind.u64.signed=false from rfl,Bool.false_and,Bool.false_eq_true,if_false];omega
theorem midI {i j:Nat} (h:i+j<4611686018427387904):IntKind.i64.wrap ((IntKind.u64.wrap (IntKind.i64.wrap ((i:Int)+(j:Int)))).fdiv (2 ^ (min (1:Int).toNat IntKind.u64.bits)))=(((i+j)/2:Nat):Int):=by
 rw[A0j (x:=(i:Int)+(j:Int)) (by omega) (by omega),wrapU (by omega) (by omega)];have e:(2:Int) ^ (min (1:Int).toNat IntKind.u64.bits)=((2:Nat):Int):=by decide
 rw[e,show(i:Int)+(j:Int)=((i+j:Nat):Int)by omega,<-Int.ofNat_fdiv,A0j (by omega) (by omega)]
theorem binSearch.val (xs:List (List Int)) (t:List Int) (hs:A0W xs) (h1:SmL xs) (h2:t.length≤1048576) :
   ∃ r:Int,∃ b:Bool,Aq1.F (xs,t,Ac3.cloG (()),())=some ((r,(b,())),())/\0≤r/\(b=true↔t∈xs)/\(b=true->r.toNat<xs.length/\xs.getD r.toNat []=t):=by
 have hn:=h1.1;have hcmp:∀ i,i<xs.length->Ac3.cloG (()) (xs.getD i [],t,())=some (cmpS (xs.getD i []) t,()):=fun i hi=>by
   show(Ac3.F (xs.getD i [],t,())).map (·.1)=_;rw[Ac3.val _ _ (h1.2 _ (A0z _ hi)) h2];rfl
 have key:∀ d i j:Nat,j-i≤d->i≤j->j≤xs.length->(∀ m,m<i->cmpS (xs.getD m []) t<0)->(∀ m,j≤m->m<xs.length->¬ cmpS (xs.getD m []) t<0) →
     ∃ r:Int,∃ b:Bool,Ev (fun k=>Aq1.l3 k xs t (Ac3.cloG (())) xs.length (i:Int) (j:Int)) ((r,(b,())),())/\0≤r/\(b=true↔t∈xs)/\(b=true->r.toNat<xs.length/\xs.getD r.toNat []=t):=by
   intro d;induction d with
   | zero =>
     intro i j hd hij hj hlo hhi;obtain rfl:i=j:=by omega
     have E:=fun k=>Aq1.l3_eq k xs t (Ac3.cloG (())) xs.length (i:Int) (i:Int);simp only[if_neg (show ¬ decide ((i:Int)<(i:Int))=true by simp)]at E;by_cases hi:i<xs.length
     . simp only[if_pos (ltI.2 hi),if_pos (idxI.2 hi),Int.toNat_natCast,hcmp i hi,Option.bind_some]at E;refine⟨_,_,(Ev.const _).succ E,by omega,?_,fun hb=>?_⟩
       rotate_left
       . simp only[beq_iff_eq,A0e]at hb;rw[Int.toNat_natCast];exact⟨hi,hb⟩
       simp only[beq_iff_eq,A0e];refine⟨fun h=>h▸A0z [] hi,fun h=>?_⟩;obtain⟨m,hm,e⟩:=List.getElem_of_mem h;have e':xs.getD m []=t:=by rw[A0y hm];exact e
       rcases Nat.lt_trichotomy m i with h3|h3|h3
       . have:=hlo m h3;rw[e',(A0e t t).2 rfl]at this;omega
       . rw[<-h3];exact e'
       . have:=hs i m h3 hm;rw[e']at this;exact absurd this (hhi i (Nat.le_refl _) hi)
     . simp only[if_neg (show ¬ decide ((i:Int)<(xs.length:Int))=true by simp;omega)]at E;refine⟨_,_,(Ev.const _).succ E,by omega,?_,fun hb=>by cases hb⟩;simp only[Bool.false_eq_true,false_iff];intro h;obtain⟨m,hm,e⟩:=List.getElem_of_mem h;have e':xs.getD m []=t:=by rw[A0y hm];exact e
       have:=hlo m (by omega);rw[e',(A0e t t).2 rfl]at this;omega
   | succ d ih =>
     intro i j hd hij hj hlo hhi;by_cases he:i=j
     . exact ih i j (by omega) hij hj hlo hhi
     have E:=fun k=>Aq1.l3_eq k xs t (Ac3.cloG (())) xs.length (i:Int) (j:Int);have hm:(i+j)/2<xs.length:=by omega
     simp only[if_pos (show decide ((i:Int)<(j:Int))=true by simp;omega),if_neg (show ¬ (1:Int)<0 by omega),midI (show i+j<4611686018427387904 by omega),if_pos (idxI.2 hm),Int.toNat_natCast,hcmp _ hm,Option.bind_some,A0x (show(i+j)/2<4611686018427387904 by omega)]at E;by_cases hc:cmpS (xs.getD ((i+j)/2) []) t<0
     . obtain⟨r,b,hr,h⟩:=ih ((i+j)/2+1) j (by omega) (by omega) hj (fun m hm2=>by
         by_cases h3:m=(i+j)/2
         . rw[h3];exact hc
         . exact A1A _ _ _ (hs m ((i+j)/2) (by omega) hm) hc) hhi
       exact⟨r,b,hr.succ fun k=>by rw[E,if_pos (by simpa using hc)],h⟩
     . obtain⟨r,b,hr,h⟩:=ih i ((i+j)/2) (by omega) (by omega) (by omega) hlo (fun m hm2 hm3 h4=>by
         by_cases h3:m=(i+j)/2
         . rw[h3]at h4;exact hc h4
         . exact hc (A1A _ _ _ (hs ((i+j)/2) m (by omega) hm3) h4))
       exact⟨r,b,hr.succ fun k=>by rw[E,if_neg (by simpa using hc)],h⟩
 obtain⟨r,b,hr,h⟩:=key xs.length 0 xs.length (by omega) (Nat.zero_le _) (Nat.le_refl _) (fun m hm=>by omega) (fun m h3 h4=>by omega);exact⟨r,b,Aq1.of _ _ _ (hr.of_eq fun k=>rfl),h⟩
theorem Ab6.val (xs:List (List Int)) (t:List Int) (hs:A0W xs) (h1:SmL xs) (h2:t.length≤1048576):∃ r:Int,Ab6.F (xs,t,())=some ((r,()),())/\(r<0↔t∉xs):=by
 obtain⟨r,b,hr,h3,h4,-⟩:=binSearch.val xs t hs h1 h2;rw[Ab6.eq,Ab6.T,hr];simp only[Option.bind_some];cases b with
 | true=>exact⟨r,by rw[if_neg (by simp)],by simp[h4.1 rfl];omega⟩
 | false=>exact⟨-1,by rw[if_pos (by simp)],by simp;intro h;exact absurd (h4.2 h) (by simp)⟩
theorem A1y {xs:List (List Int)} (hs:A0W xs) {i j:Nat} (hi:i<xs.length) (hj:j<xs.length) (h:xs.getD i []=xs.getD j []):i=j:=by
 rcases Nat.lt_trichotomy i j with h1|h1|h1
 . have:=hs i j h1 hj;rw[h,(A0e _ _).2 rfl]at this;omega
 . exact h1
 . have:=hs j i h1 hi;rw[h,(A0e _ _).2 rfl]at this;omega
theorem Ab6.val2 (xs:List (List Int)) (j:Nat) (hj:j<xs.length) (hs:A0W xs) (h1:SmL xs):Ab6.F (xs,xs.getD j [],())=some (((j:Int),()),()):=by
 obtain⟨r,b,hr,h3,h4,h5⟩:=binSearch.val xs (xs.getD j []) hs h1 (h1.2 _ (A0z _ hj));have hb:b=true:=h4.2 (A0z _ hj);obtain⟨h6,h7⟩:=h5 hb;have:=A1y hs h6 hj h7;rw[Ab6.eq,Ab6.T,hr,hb];simp only[Option.bind_some,Bool.not_true,Bool.false_eq_true,if_false];rw[show r=(j:Int)by omega]
theorem Ah5.val (xs:List (List Int)) (f:List Int×Unit->Option (Bool×Unit)) (p:List Int->Bool) (hf:∀ x∈xs,f (x,())=some (p x,())) (hn:xs.length<4611686018427387904) :
   ∃ r:Int,Ah5.F (xs,f,())=some ((r,()),())/\((r=-1/\∀ x∈xs,p x=false)∨∃ j:Nat,j<xs.length/\r=j/\p (xs.getD j [])=true/\∀ i,i<j->p (xs.getD i [])=false):=by
 obtain⟨r,hr,hq⟩:=Ev.loop (σ:=Unit) (R:=(Int×Unit)×Unit) (fun k i _=>Ah5.l2 k xs f xs.length (i:Int)) xs.length (fun i _=>∀ j,j<i->p (xs.getD j [])=false)
   (fun r=>∃ v:Int,r=((v,()),())/\((v=-1/\∀ x∈xs,p x=false)∨∃ j:Nat,j<xs.length/\v=j/\p (xs.getD j [])=true/\∀ i,i<j->p (xs.getD i [])=false))
   (fun i s hi hI=>by
     have E:=fun k=>Ah5.l2_eq k xs f xs.length (i:Int);simp only[if_pos (ltI.2 hi),if_pos (idxI.2 hi),Int.toNat_natCast,hf _ (A0z [] hi),Option.bind_some,A0x (show i<4611686018427387904 by omega)]at E;cases hp:p (xs.getD i [])with
     | true=>exact .inl ⟨_,(Ev.const _).succ fun k=>by rw[E,if_pos hp],i,rfl,.inr ⟨i,hi,rfl,hp,hI⟩⟩
     | false =>
       refine .inr ⟨(),fun j hj=>?_,Goes.succ fun k=>by rw[E,if_neg (by rw[hp];simp)]⟩;by_cases hji:j=i
       . rw[hji];exact hp
       . exact hI j (by omega))
   (fun s hI=>⟨_,(Ev.const _).succ fun k=>by rw[Ah5.l2_eq,if_neg (by simp)],-1,rfl,.inl ⟨rfl,fun x hx=>by
     obtain⟨j,hj,rfl⟩:=List.getElem_of_mem hx;rw[<-A0y (d:=[]) hj];exact hI j hj⟩⟩) 0 () (Nat.zero_le _) (by intro j hj;omega)
 obtain⟨v,rfl,hv⟩:=hq;exact⟨v,Ah5.of _ _ (hr.of_eq fun k=>rfl),hv⟩
theorem An4.val (xs:List (List Int)) (f:List Int×Unit->Option (Bool×Unit)) (p:List Int->Bool) (hf:∀ x∈xs,f (x,())=some (p x,())) (hn:xs.length<4611686018427387904) :
   An4.F (xs,f,())=some ((xs.any p,()),()):=by
 obtain⟨r,hr,h⟩:=Ah5.val xs f p hf hn;rw[An4.eq,An4.T,hr];simp only[Option.bind_some];rcases h with⟨rfl,h⟩|⟨j,hj,rfl,hp,-⟩
 . have:xs.any p=false:=by simp only[List.any_eq_false];intro x hx;simp[h x hx]
   rw[this];rfl
 . have:xs.any p=true:=List.any_eq_true.2 ⟨_,A0z [] hj,hp⟩;rw[this];simp
theorem Ai0.same (xs ys:List Int) (h:Sm xs):∃ b,Ai0.F (xs,ys,())=some ((b,()),())/\(b=true↔xs=ys):=by
 have hn:xs.length≤1048576:=h;by_cases hl:xs.length=ys.length
 . obtain⟨b,hb,hb'⟩:=A1L (fun k i=>Ai0.l4 k xs ys (i:Int)) xs ys 0 hl (fun i hi=>⟨xs.getD i 0==ys.getD i 0,by simp,fun k=>by
     rw[Ai0.l4_eq,if_pos (ltI.2 hi),if_pos (idxI.2 hi),if_pos (idx2 (hl▸hi))];simp only[Int.toNat_natCast];rw[A0x (by omega)];rfl⟩) (fun k=>by rw[Ai0.l4_eq,if_neg (by simp)])
   exact⟨b,Ai0.of _ _ (hb.of_eq fun k=>by rw[Ai0.T,if_neg (by simp[hl])];rfl),hb'⟩
 . exact⟨false,Ai0.of _ _ ((Ev.const _).of_eq fun k=>by rw[Ai0.T,if_pos (by simp;omega)]),by simp;intro e;exact hl (by rw[e])⟩
def A0w (s:List Int) (k:Nat):List Int:=s.take k++s.drop (k+1)
theorem A0L {s:List Int} {k:Nat} (h:k<s.length):(A0w s k).length=s.length-1:=by simp[A0w];omega
def A2W (s:List Int):Prop:=(1≤s.length/\s.length≤4)/\A0N 0 9 s/\A1o s
def CplxOk (c:List (List Int)):Prop:=c.length≤48/\∀ i,i<c.length->A2W (c.getD i [])/\(0<i->cmpS (c.getD (i-1) []) (c.getD i [])<0)/\(1<(c.getD i []).length->∀ k,k<(c.getD i []).length->A0w (c.getD i []) k∈c)
theorem CplxOk.sorted {c:List (List Int)} (h:CplxOk c):A0W c:=A3Q fun i h0 hi=>(h.2 i hi).2.1 h0
theorem CplxOk.small {c:List (List Int)} (h:CplxOk c):SmL c:=⟨by have:=h.1;omega,fun x hx=>by
 obtain⟨j,hj,rfl⟩:=List.getElem_of_mem hx;have:=(h.2 j hj).1.1.2;rw[A0y hj]at this;unfold Sm;omega⟩
theorem Aa1.val (c:List (List Int)) (s:List Int) (h:SmL c):∃ r:Int,Aa1.F (c,s,())=some ((r,()),())/\(r<0↔s∉c):=by
 have hn:=h.1;obtain⟨v,hv,r,hv',hr⟩:=Ev.loop (σ:=Unit) (R:=(Int×Unit)×Unit) (fun k i _=>Aa1.l2 k c s (i:Int)) c.length (fun i _=>∀ j,j<i->c.getD j []≠s) (fun v=>∃ r:Int,v=((r,()),())/\(r<0↔s∉c))
   (fun i _ hi hI=>by
     have E:=fun k=>Aa1.l2_eq k c s (i:Int);obtain⟨b,hb,hb'⟩:=Ai0.same (c.getD i []) s (h.2 _ (A0z _ hi));simp only[if_pos (ltI.2 hi),if_pos (idxI.2 hi),Int.toNat_natCast,hb,Option.bind_some,A0x (show i<4611686018427387904 by omega)]at E;cases b with
     | true =>
       have hm:s∈c:=hb'.1 rfl▸A0z [] hi;exact .inl ⟨_,(Ev.const _).succ fun k=>by rw[E,if_pos rfl],_,rfl,by simp[hm]⟩
     | false =>
       refine .inr ⟨(),fun j hj=>?_,Goes.succ fun k=>by rw[E,if_neg (by simp)]⟩;by_cases hji:j=i
       . rw[hji];exact fun e=>absurd (hb'.2 e) (by simp)
       . exact hI j (by omega))
   (fun _ hI=>⟨_,(Ev.const _).succ fun k=>by rw[Aa1.l2_eq,if_neg (by simp)],_,rfl,by
     have:s∉c:=fun hm=>by
       obtain⟨j,hj,e⟩:=List.getElem_of_mem hm;exact hI j hj (by rw[A0y hj];exact e)
     simp[this]⟩) 0 () (Nat.zero_le _) (by intro j hj;omega)
 subst hv';exact⟨r,Aa1.of _ _ (hv.of_eq fun k=>rfl),hr⟩
theorem Aa1.val2 (c:List (List Int)) (n:Nat) (hn:n<c.length) (hs:A0W c) (h:SmL c):Aa1.F (c,c.getD n [],())=some (((n:Int),()),()):=by
 have hl:=h.1;obtain⟨v,hv,hv'⟩:=Ev.loop (σ:=Unit) (R:=(Int×Unit)×Unit) (fun k i _=>Aa1.l2 k c (c.getD n []) (i:Int)) c.length (fun i _=>i≤n) (fun v=>v=(((n:Int),()),()))
   (fun i _ hi hI=>by
     have E:=fun k=>Aa1.l2_eq k c (c.getD n []) (i:Int);obtain⟨b,hb,hb'⟩:=Ai0.same (c.getD i []) (c.getD n []) (h.2 _ (A0z _ hi));simp only[if_pos (ltI.2 hi),if_pos (idxI.2 hi),Int.toNat_natCast,hb,Option.bind_some,A0x (show i<4611686018427387904 by omega)]at E;cases b with
     | true =>
       have:=A1y hs hi hn (hb'.1 rfl);exact .inl ⟨_,(Ev.const _).succ fun k=>by rw[E,if_pos rfl],by rw[this]⟩
     | false =>
       refine .inr ⟨(),?_,Goes.succ fun k=>by rw[E,if_neg (by simp)]⟩;have:i≠n:=fun e=>absurd (hb'.2 (by rw[e])) (by simp);omega)
   (fun _ hI=>by omega) 0 () (Nat.zero_le _) (Nat.zero_le _)
 subst hv';exact Aa1.of _ _ (hv.of_eq fun k=>rfl)
theorem cutA (s:List Int) (k:Nat):cutL s (0:Int) (k:Int)=s.take k:=by simp[cutL]
theorem cutB (s:List Int) (k:Nat):cutL s ((k:Nat):Int) (s.length:Int)=s.drop k:=by simp[cutL]
theorem Ai2.val (s:List Int) (k:Nat) (hk:k<s.length) (hs:s.length≤1048576):Ai2.F (s,(k:Int),())=some ((A0w s k,()),()):=by
 rw[Ai2.eq,Ai2.T,if_pos (by omega),cutA,Ab2.eq,Ab2.T,if_pos (by simp only[List.length_nil,List.length_take,bigA];omega)];simp only[Option.bind_some];rw[A0x (by omega),if_pos (by omega),cutB,if_pos (by simp only[List.nil_append,List.length_take,List.length_drop,bigA];omega)];rfl
theorem Ah4.val2 (a b:List Int) (ha:a.length≤1048576) (hb:b.length≤1048576):Ah4.F ([a,b],())=some ((a++b,()),()):=by
 have w1:IntKind.i64.wrap (0+(a.length:Int))=(a.length:Int):=by rw[A0j (by omega) (by omega)];omega
 have w2:IntKind.i64.wrap ((a.length:Int)+(b.length:Int))=(a.length:Int)+(b.length:Int):=A0j (by omega) (by omega);have w3:IntKind.i64.wrap ((0:Int)+1)=1:=A0j (by omega) (by omega);have w4:IntKind.i64.wrap ((1:Int)+1)=2:=A0j (by omega) (by omega);refine Ah4.of _ ⟨6,fun k hk=>?_⟩;obtain⟨k,rfl⟩:∃ j,k=j+1+1+1+1+1+1:=⟨k-6,by omega⟩;show Ah4.T (k+1+1+1+1+1+1) [a,b]=_;have e0:((([a,b]:List (List Int)).length:Nat):Int)=2:=rfl;rw[Ah4.T,e0,Ah4.l3_eq,if_pos (by decide),if_pos (by rw[e0];decide)];simp only[Int.toNat_zero,List.getD_cons_zero,w1,w3];rw[if_neg (by simp only[decide_eq_true_eq];omega),Ah4.l3_eq,if_pos (by decide),if_pos (by rw[e0];decide)];simp only[show(1:Int).toNat=1 from rfl,List.getD_cons_succ,List.getD_cons_zero,w2,w4];rw[if_neg (by simp only[decide_eq_true_eq];omega),Ah4.l3_eq,if_neg (by decide),if_pos (by simp only[bigN];omega),e0,Ah4.l11_eq,if_pos (by decide),if_pos (by rw[e0];decide)];simp only[Int.toNat_zero,List.getD_cons_zero,w3];rw[if_pos (by simp only[List.length_nil,bigA];omega),Ah4.l11_eq,if_pos (by decide),if_pos (by rw[e0];decide)];simp only[show(1:Int).toNat=1 from rfl,List.getD_cons_succ,List.getD_cons_zero,w4,List.nil_append];rw[if_pos (by simp only[bigA];omega),Ah4.l11_eq,if_neg (by decide)]
def A0V (s:List Int):List (List Int):=if 1<s.length then(List.range s.length).map (A0w s)else[]
theorem Ae0.val (s:List Int) (hs:s.length≤1048576):Ae0.F (s,())=some ((A0V s,()),()):=by
 by_cases h1:1<s.length
 . obtain⟨r,hr,hg⟩:=Goes.loop (R:=(List (List Int)×Unit)×Unit) (fun k i (x:List (List Int))=>Ae0.l3 k s s.length (i:Int) x) s.length (fun i x=>x=(List.range i).map (A0w s)) (fun i x hi hx=>⟨_,rfl,Goes.succ fun k=>by
     rw[Ae0.l3_eq,if_pos (ltI.2 hi),if_pos (by simp;omega),if_pos (by omega),A0x (by omega),if_pos (by omega),cutA,cutB,Ah4.val2 _ _ (by simp;omega) (by simp;omega)];simp only[Option.bind_some];rw[if_pos (by rw[hx];simp only[List.length_map,List.length_range,List.length_cons,List.length_nil,bigA];omega),hx,List.range_succ,List.map_append];rfl⟩) 0 [] (Nat.zero_le _) rfl
   have:A0V s=r:=by rw[A0V,if_pos h1,hr]
   rw[this];exact Ae0.of _ ((hg _ ((Ev.const _).succ fun k=>by rw[Ae0.l3_eq,if_neg (by simp)])).of_eq fun k=>rfl)
 . obtain⟨r,hr,hg⟩:=Goes.loop (R:=(List (List Int)×Unit)×Unit) (fun k i (x:List (List Int))=>Ae0.l3 k s s.length (i:Int) x) s.length (fun i x=>x=[]) (fun i x hi hx=>⟨_,hx,Goes.succ fun k=>by
     rw[Ae0.l3_eq,if_pos (ltI.2 hi),if_neg (by simp;omega),A0x (by omega)]⟩) 0 [] (Nat.zero_le _) rfl
   have:A0V s=r:=by rw[A0V,if_neg h1,hr]
   rw[this];exact Ae0.of _ ((hg _ ((Ev.const _).succ fun k=>by rw[Ae0.l3_eq,if_neg (by simp)])).of_eq fun k=>rfl)
theorem Ao3.val (s:List Int) (hs:s.length≤1048576):∃ v,Ao3.F (s,())=some ((v,()),())/\(v=true↔A2W s):=by
 obtain⟨v1,h1,h1'⟩:=Ai6.val s (by omega);have h2:=Ac9.val s (Ar1.cloG (())) (fun a=>!decide (0≤a/\a≤9)) (fun a _=>by
   show(Ar1.F (a,())).map (·.1)=_;rw[Ar1.eq,Ar1.T,As3.eq,As3.T,Ab1.val];rfl) (by omega)
 rw[Ao3.eq,Ao3.T,h1,h2];simp only[Option.bind_some];unfold A2W;by_cases g1:1≤s.length
 . by_cases g2:s.length≤4
   . rw[if_pos (by simp;omega),if_pos (by simp;omega)];cases v1 with
     | true =>
       refine⟨_,by rw[if_pos rfl],?_⟩;have hr:=h1'.1 rfl;simp only[Bool.not_eq_true',List.any_eq_false,Bool.not_eq_eq_eq_not,Bool.not_true,A0N,g1,g2,hr,and_self,and_true,true_and];simp
     | false=>exact⟨false,by rw[if_neg (by simp)],by simp;intro _ _ _ hr;exact absurd (h1'.2 hr) (by simp)⟩
   . exact⟨false,by rw[if_pos (by simp;omega),if_neg (by simp;omega)],by simp;intro _ h;omega⟩
 . exact⟨false,by rw[if_neg (by simp;omega)],by simp;intro h;omega⟩
theorem Aq3.val (s:List Int) (hs:s.length≤1048576):∃ v,Aq3.F (s,())=some ((v,()),())/\(v=true↔A2W s):=by
 obtain⟨v1,h1,h1'⟩:=Am6.val s 0 9 (by omega);rw[Aq3.eq,Aq3.T,h1,Aa7.val];simp only[Option.bind_some];unfold A2W;by_cases g:1≤(s.length:Int)/\(s.length:Int)≤4
 . rw[if_pos (by simp only[decide_eq_true_eq];exact g)];exact⟨v1,rfl,h1'.trans ⟨fun h=>⟨by omega,h⟩,fun h=>h.2⟩⟩
 . exact⟨false,by rw[if_neg (by simp only[decide_eq_true_eq];exact g)],by simp;intro a b;omega⟩
theorem Aa3.val (c : List (List Int)) (h:SmL c):∃ v,Aa3.F (c,())=some ((v,()),())/\(v=true↔CplxOk c):=by
 by_cases hn:c.length≤48
 . obtain⟨v,hv,hv'⟩:=Ev.loop (σ:=Unit) (R:=(Bool×Unit)×Unit) (fun k i _=>Aa3.l4 k c (i:Int)) c.length (fun i _=>∀ j,j<i->A2W (c.getD j [])/\(0<j->cmpS (c.getD (j-1) []) (c.getD j [])<0)/\(1<(c.getD j []).length->∀ k,k<(c.getD j []).length->A0w (c.getD j []) k∈c)) (fun r=>∃ v,r=((v,()),())/\(v=true↔CplxOk c))
     (fun i _ hi hI=>by
       have hsm:(c.getD i []).length≤1048576:=h.2 _ (A0z _ hi);obtain⟨s,hs⟩:∃ s,c.getD i []=s:=⟨_,rfl⟩;have E:=fun k=>Aa3.l4_eq k c (i:Int);obtain⟨b,hb,hb'⟩:=Aq3.val s (hs▸hsm);rw[hs]at hsm;simp only[if_pos (ltI.2 hi),if_pos (idxI.2 hi),Int.toNat_natCast,hs,hb,Option.bind_some]at E;have bad:(¬ (A2W s/\(0<i->cmpS (c.getD (i-1) []) s<0)/\(1<s.length->∀ k,k<s.length->A0w s k∈c)))->∃ v,(((false,()),()):(Bool×Unit)×Unit)=((v,()),())/\(v=true↔CplxOk c):=fun hno=>⟨false,rfl,by simp;intro hc;exact hno (by have:=hc.2 i hi;rw[hs]at this;exact this)⟩;cases b with
       | false=>exact .inl ⟨_,(Ev.const _).succ fun k=>by rw[E];rfl,bad fun hc=>absurd (hb'.2 hc.1) (by simp)⟩
       | true =>
         have hsimp:=hb'.1 rfl;simp only[Bool.not_true,Bool.false_eq_true,if_false]at E;have inner:(∃ r,Ev (fun k=>Aa3.l10 k c (i:Int) s ((0:Nat):Int)) r/\r=((false,()),())/\¬ (1<s.length->∀ k,k<s.length->A0w s k∈c))∨((1<s.length->∀ k,k<s.length->A0w s k∈c)/\Goes (fun k=>Aa3.l10 k c (i:Int) s ((0:Nat):Int)) (fun k=>Aa3.l4 k c ((i+1:Nat):Int))):=by
           by_cases h1:1<s.length
           . by_cases hall:∀ k,k<s.length->A0w s k∈c
             . refine .inr ⟨fun _=>hall,?_⟩;obtain⟨_,_,hg⟩:=Goes.loop (σ:=Unit) (R:=(Bool×Unit)×Unit) (fun k j _=>Aa3.l10 k c (i:Int) s (j:Int)) s.length (fun _ _=>True) (fun j _ hj _=>⟨(),trivial,Goes.succ fun k=>by
                 obtain⟨r,hr,hr'⟩:=Aa1.val c (A0w s j) h;rw[Aa3.l10_eq,if_pos (ltI.2 hj),if_pos (by simp;omega),Ai2.val s j hj hsm];simp only[Option.bind_some,hr];rw[if_neg (by simp only[decide_eq_true_eq,hr'];exact fun hh=>hh (hall j hj)),A0x (by omega)]⟩) 0 () (Nat.zero_le _) trivial
               exact hg.trans (Goes.succ fun k=>by rw[Aa3.l10_eq,if_neg (by simp),A0x (by omega)])
             . left;obtain⟨v,hv,hv'⟩:=Ev.loop (σ:=Unit) (R:=(Bool×Unit)×Unit) (fun k j _=>Aa3.l10 k c (i:Int) s (j:Int)) s.length (fun j _=>∀ k,k<j->A0w s k∈c) (fun r=>r=((false,()),())) (fun j _ hj hJ=>by
                 obtain⟨r,hr,hr'⟩:=Aa1.val c (A0w s j) h;have E2:=fun k=>Aa3.l10_eq k c (i:Int) s (j:Int);simp only[if_pos (ltI.2 hj),if_pos (show decide ((s.length:Int)>1)=true by simp;omega),Ai2.val s j hj hsm,Option.bind_some,hr,A0x (show j<4611686018427387904 by omega)]at E2;by_cases hd:A0w s j∈c
                 . refine .inr ⟨(),fun k hk=>?_,Goes.succ fun k=>by rw[E2,if_neg (by simp only[decide_eq_true_eq,hr'];exact fun hh=>hh hd)]⟩;by_cases hkj:k=j
                   . rw[hkj];exact hd
                   . exact hJ k (by omega)
                 . exact .inl ⟨_,(Ev.const _).succ fun k=>by rw[E2,if_pos (by simp only[decide_eq_true_eq,hr'];exact hd)],rfl⟩) (fun _ hJ=>absurd hJ hall) 0 () (Nat.zero_le _) (by intro k hk;omega)
               exact⟨v,hv,hv',fun hh=>hall (hh h1)⟩
           . refine .inr ⟨fun hh=>absurd hh h1,Goes.succ fun k=>?_⟩;rw[Aa3.l10_eq];by_cases h0:(0:Nat)<s.length
             . rw[if_pos (ltI.2 h0),if_neg (by simp;omega),A0x (by omega)]
             . rw[if_neg (by simp only[decide_eq_true_eq];omega),A0x (by omega)]
         have pre:((0<i->cmpS (c.getD (i-1) []) s<0)/\∀ k,Aa3.l4 (k+1) c (i:Int)=Aa3.l10 k c (i:Int) s ((0:Nat):Int))∨((∀ k,Aa3.l4 (k+1) c (i:Int)=some ((false,()),()))/\¬ (0<i->cmpS (c.getD (i-1) []) s<0)):=by
           by_cases h0:0<i
           . have h1:i-1<c.length:=by omega
             simp only[if_pos (show decide ((i:Int)>0)=true by simp;omega),A5L h0 (show i<4611686018427387904 by omega),if_pos (idxI.2 h1),Int.toNat_natCast,Aj2.val _ s (h.2 _ (A0z _ h1)),Option.bind_some]at E;by_cases hlt:cmpS (c.getD (i-1) []) s<0
             . exact .inl ⟨fun _=>hlt,fun k=>by rw[E,if_neg (by simp only[decide_eq_true hlt];simp)];rfl⟩
             . exact .inr ⟨fun k=>by rw[E,if_pos (by simp only[decide_eq_false hlt];rfl)],fun hh=>hlt (hh h0)⟩
           . simp only[if_neg (show ¬ decide ((i:Int)>0)=true by simp;omega)]at E;exact .inl ⟨fun h=>absurd h h0,fun k=>by rw[E];rfl⟩
         rcases pre with⟨hlt,E3⟩|⟨E4,hno⟩
         . rcases inner with⟨r,hr,rfl,hno⟩|⟨hyes,hg⟩
           . exact .inl ⟨_,hr.succ E3,bad fun hc=>hno hc.2.2⟩
           . refine .inr ⟨(),fun j hj=>?_,(Goes.succ E3).trans hg⟩;by_cases hji:j=i
             . rw[hji,hs];exact⟨hsimp,hlt,hyes⟩
             . exact hI j (by omega)
         . exact .inl ⟨_,(Ev.const _).succ E4,bad fun hc=>hno hc.2.1⟩)
     (fun _ hI=>⟨_,(Ev.const _).succ fun k=>by rw[Aa3.l4_eq,if_neg (by simp)],true,rfl,by simp;exact⟨hn,hI⟩⟩) 0 () (Nat.zero_le _) (by intro j hj;omega)
   obtain⟨b,rfl,hb⟩:=hv';exact⟨b,Aa3.of _ (hv.of_eq fun k=>by rw[Aa3.T,if_neg (by simp;omega)];rfl),hb⟩
 . exact⟨false,Aa3.of _ ((Ev.const _).of_eq fun k=>by rw[Aa3.T,if_pos (by simp;omega)]),by simp;intro hc;exact hn hc.1⟩
theorem mem_faces {s f:List Int}:f∈A0V s↔1<s.length/\∃ k,k<s.length/\A0w s k=f:=by
 unfold A0V;by_cases h:1<s.length
 . rw[if_pos h];simp[h]
 . rw[if_neg h];simp[h]
theorem A3D {c:List (List Int)} {i m:Nat} (h:m<i):(c.take i).getD m []=c.getD m []:=by
 simp only[List.getD_eq_getElem?_getD,List.getElem?_take,h,if_true]
theorem A4Z {c:List (List Int)} {i m:Nat} (h:m<i) (hm:m<c.length):c.getD m []∈c.take i:=by
 rw[<-A3D h];exact A0z [] (by simp;omega)
def OkAt (c:List (List Int)) (j:Nat):Prop:=A2W (c.getD j [])/\(0<j->cmpS (c.getD (j-1) []) (c.getD j [])<0)/\∀ f∈A0V (c.getD j []),f∈c.take j
theorem A3e (c:List (List Int)):(c.length≤48/\∀ j,j<c.length->OkAt c j)↔CplxOk c:=by
 constructor
 . rintro⟨h1,h2⟩;refine⟨h1,fun i hi=>⟨(h2 i hi).1,(h2 i hi).2.1,fun hl k hk=>List.mem_of_mem_take ((h2 i hi).2.2 _ (mem_faces.2 ⟨hl,k,hk,rfl⟩))⟩⟩
 . intro h;refine⟨h.1,fun j hj=>⟨(h.2 j hj).1,(h.2 j hj).2.1,fun f hf=>?_⟩⟩;obtain⟨hl,k,hk,rfl⟩:=mem_faces.1 hf;have hm:=(h.2 j hj).2.2 hl k hk;obtain⟨m,hm1,e⟩:=List.getElem_of_mem hm;have e':c.getD m []=A0w (c.getD j []) k:=by rw[A0y hm1];exact e
   have hlen:=A0L hk;have hshort:cmpS (A0w (c.getD j []) k) (c.getD j [])<0:=A3H (by omega);by_cases hmj:m<j
   . rw[<-e'];exact A4Z hmj hm1
   . exfalso;by_cases hmj2:m=j
     . rw[hmj2]at e';rw[<-e',(A0e _ _).2 rfl]at hshort;omega
     . have h3:=h.sorted j m (by omega) hm1;rw[e']at h3;have:=A1A _ _ _ hshort h3;rw[(A0e _ _).2 rfl]at this;omega
theorem Aa9.val (c:List (List Int)) (h:SmL c):∃ v,Aa9.F (c,())=some ((v,()),())/\(v=true↔CplxOk c):=by
 have hn := h.1;obtain⟨v,hv,hv'⟩:=Ev.loop (σ:=Unit) (R:=(Bool×Unit)×Unit) (fun k i _=>Aa9.l2 k c c.length (i:Int) c) c.length (fun i _=>∀ j,j<i->OkAt c j) (fun r=>∃ v,r=((v,()),())/\(v=true↔c.length≤48/\∀ j,j<c.length->OkAt c j))
   (fun i _ hi hI=>by
     have hsm:(c.getD i []).length≤1048576:=h.2 _ (A0z _ hi);have hsorted:A0W (c.take i):=A3Q fun m h0 hm=>by
       have hm':m<i:=by simp at hm;omega
       rw[A3D (by omega),A3D hm'];exact(hI m hm').2.1 h0
     have hsmall:SmL (c.take i):=⟨by simp;omega,fun x hx=>h.2 x (List.mem_of_mem_take hx)⟩;have hclo:∀ f:List Int,f.length≤1048576->Ao1.cloG (c,(i:Int),()) (f,())=some (decide (f∉c.take i),()):=fun f hf=>by
       show(Ao1.F (f,c,(i:Int),())).map (·.1)=_;obtain⟨r,hr,hr'⟩:=Ab6.val (c.take i) f hsorted hsmall hf;rw[Ao1.eq,Ao1.T,if_pos (by omega)];have:cutL c (0:Int) (i:Int)=c.take i:=by simp[cutL]
       rw[this,hr];simp only[Option.bind_some,Option.map_some,hr']
     obtain⟨s,hs⟩:∃ s,c.getD i []=s:=⟨_,rfl⟩;have E:=fun k=>Aa9.l2_eq k c c.length (i:Int) c;obtain⟨b,hb,hb'⟩:=Ao3.val s (hs▸hsm);rw[hs]at hsm;have hfl:∀ f∈A0V s,f.length≤1048576:=fun f hf=>by
       obtain⟨_,k,hk,rfl⟩:=mem_faces.1 hf;have:=A0L hk;omega
     have hcf:=An4.val (A0V s) (Ao1.cloG (c,(i:Int),())) (fun f=>decide (f∉c.take i)) (fun f hf=>hclo f (hfl f hf)) (by
       unfold A0V;split
       . simp;omega
       . simp)
     simp only[if_pos (ltI.2 hi),if_pos (idxI.2 hi),Int.toNat_natCast,hs,hb,Option.bind_some,Ae0.val s hsm,hcf,A0x (show i<4611686018427387904 by omega)]at E;have bad:¬ OkAt c i->∃ v,(((false,()),()):(Bool×Unit)×Unit)=((v,()),())/\(v=true↔c.length≤48/\∀ j,j<c.length->OkAt c j):=fun hno=>⟨false,rfl,by simp only[Bool.false_eq_true,false_iff];exact fun hc=>hno (hc.2 i hi)⟩;cases b with
     | false=>exact .inl ⟨_,(Ev.const _).succ fun k=>by rw[E];rfl,bad fun hc=>absurd (hb'.2 (hs▸hc.1)) (by simp)⟩
     | true =>
       have hsimp:=hb'.1 rfl;simp only[Bool.not_true,Bool.false_eq_true,if_false]at E;have pre:((0<i->cmpS (c.getD (i-1) []) s<0)/\∀ k,Aa9.l2 (k+1) c c.length (i:Int) c=if ((A0V s).any fun f=>decide (f∉c.take i))=true then some ((false,()),())else Aa9.l2 k c c.length ((i+1:Nat):Int) c)∨((∀ k,Aa9.l2 (k+1) c c.length (i:Int) c=some ((false,()),()))/\¬ (0<i->cmpS (c.getD (i-1) []) s<0)):=by
         by_cases h0:0<i
         . have h1:i-1<c.length:=by omega
           simp only[if_pos (show decide ((i:Int)>0)=true by simp;omega),A5L h0 (show i<4611686018427387904 by omega),if_pos (idxI.2 h1),Int.toNat_natCast,Ac3.val _ s (h.2 _ (A0z _ h1)) hsm,Option.bind_some]at E;by_cases hlt:cmpS (c.getD (i-1) []) s<0
           . exact .inl ⟨fun _=>hlt,fun k=>by rw[E,if_neg (by simp only[decide_eq_true_eq];omega)]⟩
           . exact .inr ⟨fun k=>by rw[E,if_pos (by simp only[decide_eq_true_eq];omega)],fun hh=>hlt (hh h0)⟩
         . simp only[if_neg (show ¬ decide ((i:Int)>0)=true by simp;omega)]at E;exact .inl ⟨fun h=>absurd h h0,fun k=>by rw[E]⟩
       rcases pre with⟨hlt,E3⟩|⟨E4,hno⟩
       . by_cases hf:∀ f∈A0V s,f∈c.take i
         . refine .inr ⟨(),fun j hj=>?_,Goes.succ fun k=>by rw[E3,if_neg (by simp only[List.any_eq_true,decide_eq_true_eq,not_exists,not_and,Classical.not_not];exact hf)]⟩;by_cases hji:j=i
           . rw[hji];exact⟨hs▸hsimp,fun h0=>by rw[hs];exact hlt h0,fun f hff=>hf f (hs▸hff)⟩
           . exact hI j (by omega)
         . refine .inl ⟨_,(Ev.const _).succ fun k=>by rw[E3,if_pos (by simp only[List.any_eq_true,decide_eq_true_eq];simpa using hf)],bad fun hc=>hf fun f hff=>hc.2.2 f (hs▸hff)⟩
       . exact .inl ⟨_,(Ev.const _).succ E4,bad fun hc=>hno (by have:=hc.2.1;rw[hs]at this;exact this)⟩)
   (fun _ hI=>⟨_,(Ev.const _).succ fun k=>by rw[Aa9.l2_eq,if_neg (by simp)],_,rfl,by simp only[decide_eq_true_eq];exact⟨fun h1=>⟨by omega,hI⟩,fun h1=>by omega⟩⟩) 0 () (Nat.zero_le _) (by intro j hj;omega)
 obtain⟨b,rfl,hb⟩:=hv';exact⟨b,Aa9.of _ (hv.of_eq fun k=>rfl),hb.trans (A3e c)⟩
def A0Q (c:List (List Int)) (f:List Int):Nat:=c.findIdx fun x=>decide (x=f)
theorem A0E {c:List (List Int)} {f:List Int} (h:f∈c):A0Q c f<c.length/\c.getD (A0Q c f) []=f:=by
 have h1:A0Q c f<c.length:=List.findIdx_lt_length_of_exists ⟨f,h,by simp⟩;refine⟨h1,?_⟩;rw[A0y h1];have:=List.findIdx_getElem (p:=fun x=>decide (x=f)) (xs:=c) (w:=h1);exact of_decide_eq_true this
def fcs (c:List (List Int)) (i:Nat):List Int:=(A0V (c.getD i [])).map fun f=>((A0Q c f:Nat):Int)
theorem A0k (c:List (List Int)) (i:Nat):(fcs c i).length=if 1<(c.getD i []).length then(c.getD i []).length else 0:=by
 unfold fcs A0V;split<;>simp
theorem A4S {c:List (List Int)} (h:CplxOk c) {i:Nat} (hi:i<c.length) {x:Int} (hx:x∈fcs c i):∃ j:Nat,x=j/\j<c.length:=by
 simp only[fcs,List.mem_map]at hx;obtain⟨f,hf,rfl⟩:=hx;have:=((A3e c).2 h).2 i hi;exact⟨_,rfl,(A0E (List.mem_of_mem_take (this.2.2 f hf))).1⟩
theorem A1i {c:List (List Int)} (h:CplxOk c) {i:Nat} (hi:i<c.length) {f:List Int} (hf:f∈A0V (c.getD i [])):f∈c :=
 List.mem_of_mem_take ((((A3e c).2 h).2 i hi).2.2 f hf)
theorem A3a {c:List (List Int)} (h:CplxOk c) {f:List Int} (hf:f∈c):Aa1.F (c,f,())=some ((((A0Q c f:Nat):Int),()),()):=by
 obtain⟨h1,h2⟩:=A0E hf;have:=Aa1.val2 c (A0Q c f) h1 h.sorted h.small
 rwa [h2]at this
theorem A3P {c:List (List Int)} (h:CplxOk c) {f:List Int} (hf:f∈c):Ab6.F (c,f,())=some ((((A0Q c f:Nat):Int),()),()):=by
 obtain⟨h1,h2⟩:=A0E hf;have:=Ab6.val2 c (A0Q c f) h1 h.sorted h.small
 rwa [h2]at this
theorem Aa2.val (c:List (List Int)) (h:CplxOk c) (i:Nat) (hi:i<c.length):Aa2.F (c,(i:Int),())=some ((fcs c i,()),()):=by
 have h4:=(h.2 i hi).1.1.2;obtain⟨s,hs⟩:∃ s,c.getD i []=s:=⟨_,rfl⟩;rw[hs]at h4;have hmem:∀ f∈A0V s,f∈c:=fun f hf=>A1i h hi (hs▸hf);have hfc:fcs c i=(A0V s).map fun f=>((A0Q c f:Nat):Int):=by rw[fcs,hs]
 refine Aa2.of _ _ (Ev.of_eq (N:=fun k=>Aa2.l4 k c s ((0:Nat):Int) []) ?_ fun k=>by rw[Aa2.T,if_pos (by omega)];simp only[Int.toNat_natCast,hs];rfl);by_cases h1:1<s.length
 . have hf:A0V s=(List.range s.length).map (A0w s):=by rw[A0V,if_pos h1]
   obtain⟨x,hx,hg⟩:=Goes.loop (R:=((List Int×Unit)×Unit)) (fun k j (x:List Int)=>Aa2.l4 k c s (j:Int) x) s.length (fun j x=>x=((List.range j).map (A0w s)).map fun f=>((A0Q c f:Nat):Int)) (fun j x hj h2=>⟨_,rfl,Goes.succ fun k=>by
     have hm:A0w s j∈c:=hmem _ (by rw[hf];exact List.mem_map.2 ⟨j,List.mem_range.2 hj,rfl⟩);rw[Aa2.l4_eq,if_pos (ltI.2 hj),if_pos (by simp only[decide_eq_true_eq];omega),Ai2.val s j hj (by omega)];simp only[Option.bind_some,A3a h hm];rw[if_pos (by rw[h2];simp only[List.length_map,List.length_range,List.length_cons,List.length_nil,bigA];omega),A0x (by omega),h2,List.range_succ,List.map_append,List.map_append];rfl⟩) 0 [] (Nat.zero_le _) rfl
   rw[hfc,hf];refine hg _ ((Ev.const _).succ fun k=>?_);rw[Aa2.l4_eq,if_neg (by simp),hx]
 . have hf:A0V s=[]:=by rw[A0V,if_neg h1]
   rw[hfc,hf];refine(Ev.const _).succ fun k=>?_;rw[Aa2.l4_eq];by_cases h0:(0:Nat)<s.length
   . rw[if_pos (ltI.2 h0),if_neg (by simp only[decide_eq_true_eq];omega)];rfl
   . rw[if_neg (by simp only[decide_eq_true_eq];omega)];rfl
theorem A1S {c:List (List Int)} (h:CplxOk c) {i:Nat} (hi:i<c.length):(A0V (c.getD i [])).length≤4:=by
 have h4:=(h.2 i hi).1.1.2;unfold A0V;split
 . simpa using h4
 . simp
theorem Ab0.val (c:List (List Int)) (h:CplxOk c) (i:Nat) (hi:i<c.length):Ab0.F (c,(i:Int),())=some ((fcs c i,()),()):=by
 have h4:=(h.2 i hi).1.1.2;have h5:=A1S h hi;obtain⟨fs,hfs⟩:∃ fs,A0V (c.getD i [])=fs:=⟨_,rfl⟩;have hmem:∀ f∈fs,f∈c:=fun f hf=>A1i h hi (hfs▸hf);have hfc:fcs c i=fs.map fun f=>((A0Q c f:Nat):Int):=by rw[fcs,hfs]
 rw[hfs]at h5;refine Ab0.of _ _ (Ev.of_eq (N:=fun k=>Ab0.l3 k (fs.length:Int) ((0:Nat):Int) c [] fs) ?_ fun k=>by rw[Ab0.T,if_pos (by omega)];simp only[Int.toNat_natCast];rw[Ae0.val _ (by omega),hfs];rfl);obtain⟨x,hx,hg⟩:=Goes.loop (R:=((List Int×Unit)×Unit)) (fun k j (x:List Int)=>Ab0.l3 k (fs.length:Int) (j:Int) c x fs) fs.length (fun j x=>x=(fs.take j).map fun f=>((A0Q c f:Nat):Int)) (fun j x hj h2=>⟨_,rfl,Goes.succ fun k=>by
   rw[Ab0.l3_eq,if_pos (ltI.2 hj),if_pos (idxI.2 hj)];simp only[Int.toNat_natCast,A3P h (hmem _ (A0z [] hj)),Option.bind_some];rw[if_pos (by rw[h2];simp only[List.length_map,List.length_take,List.length_cons,List.length_nil,bigA];omega),A0x (by omega),h2,List.take_add_one,List.getElem?_eq_getElem hj,Option.toList_some,List.map_append,A0y hj];rfl⟩) 0 [] (Nat.zero_le _) rfl
 rw[List.take_of_length_le (Nat.le_refl _)]at hx;rw[hfc];refine hg _ ((Ev.const _).succ fun k=>?_);rw[Ab0.l3_eq,if_neg (by simp),hx]
def off (c:List (List Int)):Nat->Nat
 | 0=>0
 | s+1=>off c s+(fcs c s).length
def A5v (c:List (List Int)) (s:Nat):List A2I:=(List.range (fcs c s).length).map fun(j:Nat)=>((s:Int),(j:Int),(fcs c s).getD j 0)
def arr (c:List (List Int)) (n:Nat):List A2I:=(List.range n).flatMap (A5v c)
theorem A2g (c:List (List Int)) (n:Nat):arr c (n+1)=arr c n++A5v c n:=by simp[arr,List.range_succ]
theorem A0I (c:List (List Int)) (n:Nat):(arr c n).length=off c n:=by
 induction n with
 | zero=>rfl
 | succ n ih=>rw[A2g,List.length_append,ih,A5v,List.length_map,List.length_range,off]
theorem A1G {c:List (List Int)} (h:CplxOk c) {n:Nat} (hn:n≤c.length):off c n≤4*n:=by
 induction n with
 | zero=>exact Nat.le_refl _
 | succ n ih =>
   have h5:=A1S h (show n<c.length by omega);have:=ih (by omega);have e:(fcs c n).length=(A0V (c.getD n [])).length:=by simp[fcs]
   rw[off,e];omega
theorem A2x (c:List (List Int)) {n s j:Nat} (hs:s<n) (hj:j<(fcs c s).length):(arr c n).getD (off c s+j) (0,0,0)=((s:Int),(j:Int),(fcs c s).getD j 0):=by
 induction n with
 | zero=>omega
 | succ n ih =>
   rw[A2g,List.getD_eq_getElem?_getD];by_cases h:s<n
   . have hmono:∀ a b,a≤b->off c a≤off c b:=fun a b hab=>by
       induction hab with
       | refl=>exact Nat.le_refl _
       | step _ ih=>exact Nat.le_trans ih (Nat.le_add_right _ _)
     have h1:=hmono (s+1) n (by omega);rw[off]at h1;rw[List.getElem?_append_left (by rw[A0I];omega),<-List.getD_eq_getElem?_getD];exact ih h
   . obtain rfl:s=n:=by omega
     rw[List.getElem?_append_right (by rw[A0I];omega),A0I,show off c s+j-off c s=j by omega,A5v,List.getElem?_map,List.getElem?_range hj];rfl
theorem Ad9.val (c:List (List Int)) (h:CplxOk c):Ad9.F (c,())=some ((arr c c.length,()),()):=by
 have hn:=h.1;refine Ad9.of _ (Ev.of_eq (N:=fun k=>Ad9.l3 k (c.length:Int) ((0:Nat):Int) c []) ?_ fun k=>by rw[Ad9.T,Ak7.eq,Ak7.T];rfl);obtain⟨x,hx,hg⟩:=Goes.loop (R:=((List A2I×Unit)×Unit)) (fun k i (x:List A2I)=>Ad9.l3 k (c.length:Int) (i:Int) c x) c.length (fun i x=>x=arr c i) (fun i x hi h2=>by
   have hoff:=A1G h (show i≤c.length by omega);have h5:=A1S h hi;have e5:(fcs c i).length=(A0V (c.getD i [])).length:=by simp[fcs]
   refine⟨_,rfl,(Goes.succ fun k=>by rw[Ad9.l3_eq,if_pos (ltI.2 hi),Ab0.val c h i hi]).trans ?_⟩;obtain⟨y,hy,hg2⟩:=Goes.loop (R:=((List A2I×Unit)×Unit)) (fun k j (y:List A2I)=>Ad9.l6 k (i:Int) (c.length:Int) (i:Int) ((fcs c i).length:Int) (j:Int) c y (fcs c i)) (fcs c i).length (fun j y=>y=arr c i++(List.range j).map fun(j:Nat)=>((i:Int),(j:Int),(fcs c i).getD j 0)) (fun j y hj h3=>⟨_,rfl,Goes.succ fun k=>by
     rw[Ad9.l6_eq,if_pos (ltI.2 hj),if_pos (idxI.2 hj),if_pos (by rw[h3];simp only[List.length_append,List.length_map,List.length_range,List.length_cons,List.length_nil,A0I,bigA];omega),A0x (by omega),h3,List.range_succ,List.map_append,List.append_assoc];simp only[Int.toNat_natCast];rfl⟩) 0 x (Nat.zero_le _) (by simp[h2])
   refine hg2.trans (Goes.succ fun k=>?_);rw[Ad9.l6_eq,if_neg (by simp),A0x (by omega),hy,A2g];rfl) 0 [] (Nat.zero_le _) rfl
 refine hg _ ((Ev.const _).succ fun k=>?_);rw[Ad9.l3_eq,if_neg (by simp),hx]
theorem Ab8.val (c:List (List Int)) (h:CplxOk c) (s:Nat) (hs:s≤c.length) (j:Nat) (hj:j≤1000):Ab8.F (c,(s:Int),(j:Int),())=some ((((off c s+j:Nat):Int),()),()):=by
 have hn:=h.1;have hos:=A1G h hs;refine Ab8.of _ _ _ (Ev.of_eq (N:=fun k=>Ab8.l3 k c (s:Int) (j:Int) 0 ((0:Nat):Int)) ?_ fun k=>rfl);obtain⟨x,hx,hg⟩:=Goes.loop (R:=((Int×Unit)×Unit)) (fun k i (x:Int)=>Ab8.l3 k c (s:Int) (j:Int) x (i:Int)) s (fun i x=>x=(off c i:Int)) (fun i x hi h2=>⟨_,rfl,Goes.succ fun k=>by
   have hic:i<c.length:=by omega
   have hoff:=A1G h (show i≤c.length by omega);have h4:=(h.2 i hic).1.1.2;rw[Ab8.l3_eq,if_pos (ltI.2 hi),if_pos (idxI.2 hic)];simp only[Int.toNat_natCast];rw[off,A0k];by_cases h1:1<(c.getD i []).length
   . rw[if_pos (by simp only[decide_eq_true_eq];omega),if_pos (idxI.2 hic),if_pos h1,A0j (by omega) (by omega),A0x (by omega),h2];congr 1
   . rw[if_neg (by simp only[decide_eq_true_eq];omega),if_neg h1,A0x (by omega),h2];rfl⟩) 0 0 (Nat.zero_le _) rfl
 refine hg _ ((Ev.const _).succ fun k=>?_);rw[Ab8.l3_eq,if_neg (by simp),hx,A0j (by omega) (by omega)];congr 3
def A0B (c:List (List Int)) (d:Int) (i:Nat):List Int:=((List.range i).filter fun j=>((c.getD j []).length:Int)==d+1).map fun(j:Nat)=>(j:Int)
theorem A1F (c:List (List Int)) (d:Int) (i:Nat):A0B c d (i+1)=if ((c.getD i []).length:Int)==d+1 then A0B c d i++[(i:Int)]else A0B c d i:=by
 simp only[A0B,List.range_succ,List.filter_append,List.map_append];split
 . rename_i h;rw[List.filter_cons_of_pos (by exact h)];simp
 . rename_i h;rw[List.filter_cons_of_neg (by exact h)];simp
theorem A0M (c:List (List Int)) (d:Int) (i:Nat):(A0B c d i).length≤i:=by
 simp only[A0B,List.length_map];exact Nat.le_trans (List.length_filter_le _ _) (by simp)
theorem A3v {c:List (List Int)} {d:Int} {i:Nat} {x:Int} (h:x∈A0B c d i):∃ j:Nat,x=j/\j<i:=by
 simp only[A0B,List.mem_map,List.mem_filter,List.mem_range]at h;obtain⟨j,⟨h1,-⟩,rfl⟩:=h;exact⟨j,rfl,h1⟩
theorem Ae5.val (c:List (List Int)) (d:Int) (hd:-1≤d/\d≤1000) (hn:c.length≤1048576):Ae5.F (c,d,())=some ((A0B c d c.length,()),()):=by
 refine Ae5.of _ _ ?_;obtain⟨s,hs,hg⟩:=Goes.loop (R:=((List Int×Unit)×Unit)) (fun k i (x:List Int)=>Ae5.l3 k c d (i:Int) x) c.length (fun i x=>x=A0B c d i) (fun i x hi h2=>⟨_,rfl,Goes.succ fun k=>by
   have hl:=A0M c d i;rw[Ae5.l3_eq,if_pos (ltI.2 hi),if_pos (idxI.2 hi),A0j (x:=d+1) (by omega) (by omega),A1F];simp only[Int.toNat_natCast];by_cases h:(((c.getD i []).length:Int)==d+1)=true
   . rw[if_pos h,if_pos h,if_pos (by rw[h2];simp only[List.length_cons,List.length_nil,bigA];omega),A0x (by omega),h2]
   . rw[if_neg h,if_neg h,A0x (by omega),h2]⟩) 0 [] (Nat.zero_le _) rfl
 refine Ev.of_eq (hg _ ((Ev.const _).succ fun k=>?_)) fun k=>rfl;rw[Ae5.l3_eq,if_neg (by simp),hs]
theorem Ae1.val (c:List (List Int)) (d:Int) (hd:-1≤d/\d≤1000) (hn:c.length≤1048576):Ae1.F (c,d,())=some ((A0B c d c.length,()),()):=by
 refine Ae1.of _ _ ?_;obtain⟨s,hs,hg⟩:=Goes.loop (R:=((List Int×Unit)×Unit)) (fun k i (x:List Int)=>Ae1.l3 k d c (c.length:Int) (i:Int) x) c.length (fun i x=>x=A0B c d i) (fun i x hi h2=>⟨_,rfl,Goes.succ fun k=>by
   have hl:=A0M c d i;rw[Ae1.l3_eq,if_pos (ltI.2 hi),if_pos (idxI.2 hi),A0j (x:=d+1) (by omega) (by omega),A1F,Ac6.eq,Ac6.T];simp only[Int.toNat_natCast,Option.bind_some];by_cases h:(((c.getD i []).length:Int)==d+1)=true
   . rw[if_pos h,if_pos h,if_pos (by rw[h2];simp only[List.length_cons,List.length_nil,bigA];omega),A0x (by omega),h2]
   . rw[if_neg h,if_neg h,A0x (by omega),h2]⟩) 0 [] (Nat.zero_le _) rfl
 refine Ev.of_eq (hg _ ((Ev.const _).succ fun k=>?_)) fun k=>rfl;rw[Ae1.l3_eq,if_neg (by simp),hs]
def sumL (st:List Int) (js:List Int):Int:=js.foldl (fun acc j=>IntKind.i64.wrap (acc+st.getD j.toNat 0)) 0
theorem Ad4.val (c:List (List Int)) (st:List Int) (d:Int) (hd:-1≤d/\d≤1000) (hn:c.length≤1048576) (hs:st.length=c.length):Ad4.F (c,st,d,())=some ((sumL st (A0B c d c.length),()),()):=by
 have hl:=A0M c d c.length;refine Ad4.of _ _ _ (Ev.of_eq (N:=fun k=>Ad4.l4 k st 0 ((0:Nat):Int) (A0B c d c.length)) ?_ fun k=>by rw[Ad4.T,Ae5.val c d hd hn];rfl);refine Goes.foldl (L:=fun k i s=>Ad4.l4 k st s (i:Int) (A0B c d c.length)) (A0B c d c.length) 0 (fun acc j=>IntKind.i64.wrap (acc+st.getD j.toNat 0)) (fun k i s hi=>?_) 0 _ ((Ev.const _).succ fun k=>by rw[Ad4.l4_eq,if_neg (by simp)];rfl);obtain⟨j,hj,hjc⟩:=A3v (A0z (0:Int) hi);rw[Ad4.l4_eq,if_pos (ltI.2 hi),if_pos (idxI.2 hi)];simp only[Int.toNat_natCast];rw[if_pos (by rw[hj];omega),A0x (by omega)]
theorem Ac4.val (c:List (List Int)) (p:Int) (st:List Int) (ms:List MatV) (d:Int) (hd:-1≤d/\d≤1000) (hn:c.length≤1048576) (hs:st.length=c.length):Ac4.F ((c,(p,(st,ms))),d,())=some ((sumL st (A0B c d c.length),()),()):=by
 have hl:=A0M c d c.length;refine Ac4.of _ _ _ _ _ (Ev.of_eq (N:=fun k=>Ac4.l3 k 0 (A0B c d c.length).length ((0:Nat):Int) c p st ms (A0B c d c.length)) ?_ fun k=>by rw[Ac4.T,Ae1.val c d hd hn];rfl);refine Goes.foldl (L:=fun k i s=>Ac4.l3 k s (A0B c d c.length).length (i:Int) c p st ms (A0B c d c.length)) (A0B c d c.length) 0 (fun acc j=>IntKind.i64.wrap (acc+st.getD j.toNat 0)) (fun k i s hi=>?_) 0 _ ((Ev.const _).succ fun k=>by rw[Ac4.l3_eq,if_neg (by simp)];rfl);obtain⟨j,hj,hjc⟩:=A3v (A0z (0:Int) hi);rw[Ac4.l3_eq,if_pos (ltI.2 hi),if_pos (idxI.2 hi)];simp only[Int.toNat_natCast];rw[if_pos (by rw[hj];omega),A0x (by omega)]
def A4M (c:List (List Int)) (st:List Int):Prop:=st.length=c.length/\A0N 0 3 st/\∀ k:Nat,k<4->sumL st (A0B c k c.length)≤32
theorem Aj3.val (c:List (List Int)) (st:List Int) (hn:c.length≤1048576) (hs:st.length≤1048576):∃ v,Aj3.F (c,st,())=some ((v,()),())/\(v=true↔A4M c st):=by
 obtain⟨v1,h1,h1'⟩:=Ah6.val st (c.length:Int) 4 (by omega);rw[A0j (x:=(4:Int)-1) (by omega) (by omega)]at h1';cases v1 with
 | false=>exact⟨false,Aj3.of _ _ ((Ev.const _).of_eq fun k=>by rw[Aj3.T,h1];rfl),by simp only[Bool.false_eq_true,false_iff];exact fun h=>absurd (h1'.2 ⟨by have:=h.1;omega,h.2.1⟩) (by simp)⟩
 | true =>
   obtain⟨hl,ha⟩:=h1'.1 rfl;obtain⟨v,hv,hv'⟩:=Ev.allP (L:=fun k i=>Aj3.l4 k c st (i:Int)) (a:=()) (b:=()) (n:=4) (fun i=>sumL st (A0B c i c.length)≤32) true (fun i hi=>by
     have E:=fun k=>Aj3.l4_eq k c st (i:Int);simp only[if_pos (show decide ((i:Int)≤3)=true by simp;omega),Ad4.val c st (i:Int) (by omega) hn (by omega),Option.bind_some,A0x (show i<4611686018427387904 by omega)]at E;by_cases h:sumL st (A0B c i c.length)≤32
     . exact .inl ⟨h,fun k=>by rw[E,if_neg (by simp only[decide_eq_true_eq];omega)]⟩
     . exact .inr ⟨h,fun k=>by rw[E,if_pos (by simp only[decide_eq_true_eq];omega)]⟩) ((Ev.const _).succ fun k=>by rw[Aj3.l4_eq,if_neg (by simp)]) 0 (Nat.zero_le _)
   exact⟨v,Aj3.of _ _ (hv.of_eq fun k=>by rw[Aj3.T,h1];rfl),hv'.trans ⟨fun⟨_,h⟩=>⟨by omega,ha,fun k hk=>h k (Nat.zero_le _) hk⟩,fun h=>⟨rfl,fun k _ hk=>h.2.2 k hk⟩⟩⟩
theorem Ag4.val (c:List (List Int)) (st:List Int) (hn:c.length≤1048576) (hs:st.length≤1048576):∃ v,Ag4.F (c,st,())=some ((v,()),())/\(v=true↔A4M c st):=by
 by_cases hl:st.length=c.length
 . have hcf:=Ac9.val st (Ar2.cloG (())) (fun a=>!decide (0≤a/\a≤3)) (fun a _=>by
     show(Ar2.F (a,())).map (·.1)=_;rw[Ar2.eq,Ar2.T,Ab1.val];rfl) (by omega)
   by_cases ha:A0N 0 3 st
   . have hany:(st.any fun a=>!decide (0≤a/\a≤3))=false:=by
       simp only[List.any_eq_false];intro x hx;simp only[Bool.not_eq_true',decide_eq_false_iff_not,Classical.not_not];exact ha x hx
     obtain⟨v,hv,hv'⟩:=Ev.allP (L:=fun k i=>Ag4.l4 k st (i:Int) c) (a:=()) (b:=()) (n:=4) (fun i=>sumL st (A0B c i c.length)≤32) true (fun i hi=>by
       have E:=fun k=>Ag4.l4_eq k st (i:Int) c;simp only[if_pos (show decide ((i:Int)<4)=true by simp;omega),Ac4.val c 0 st [] (i:Int) (by omega) hn (by omega),Option.bind_some,A0x (show i<4611686018427387904 by omega)]at E;by_cases h:sumL st (A0B c i c.length)≤32
       . exact .inl ⟨h,fun k=>by rw[E,if_neg (by simp only[decide_eq_true_eq];omega)]⟩
       . exact .inr ⟨h,fun k=>by rw[E,if_pos (by simp only[decide_eq_true_eq];omega)]⟩) ((Ev.const _).succ fun k=>by rw[Ag4.l4_eq,if_neg (by simp)]) 0 (Nat.zero_le _)
     exact⟨v,Ag4.of _ _ (hv.of_eq fun k=>by rw[Ag4.T,if_neg (by simp[hl]),hcf,hany];rfl),hv'.trans ⟨fun⟨_,h⟩=>⟨hl,ha,fun k hk=>h k (Nat.zero_le _) hk⟩,fun h=>⟨rfl,fun k _ hk=>h.2.2 k hk⟩⟩⟩
   . have hany:(st.any fun a=>!decide (0≤a/\a≤3))=true:=by
       refine Classical.byContradiction fun hc=>ha fun x hx=>?_;simp only[Bool.not_eq_true,List.any_eq_false,Bool.not_eq_true',decide_eq_false_iff_not,Classical.not_not]at hc;exact hc x hx
     exact⟨false,Ag4.of _ _ ((Ev.const _).of_eq fun k=>by rw[Ag4.T,if_neg (by simp[hl]),hcf,hany];rfl),by simp only[Bool.false_eq_true,false_iff];exact fun h=>ha h.2.1⟩
 . exact⟨false,Ag4.of _ _ ((Ev.const _).of_eq fun k=>by rw[Ag4.T,if_pos (by simp;omega)]),by simp only[Bool.false_eq_true,false_iff];exact fun h=>hl h.1⟩
def A4z (c:List (List Int)) (p:Int) (st:List Int) (m:MatV) (i j:Nat):Prop:=MatOk m/\m.1=p/\m.2.1=st.getD i 0/\m.2.2.1=st.getD ((fcs c i).getD j 0).toNat 0
def A4f (s:ShfV) (i:Nat):Prop:=∀ j,j<(fcs s.1 i).length->A4z s.1 s.2.1 s.2.2.1 (s.2.2.2.getD (off s.1 i+j) (0,0,0,[])) i j
def SheafOk (s:ShfV):Prop:=CplxOk s.1/\A0G s.2.1/\A4M s.1 s.2.2.1/\s.2.2.2.length=off s.1 s.1.length/\∀ i,i<s.1.length->A4f s i
theorem A6X (c:List (List Int)) {a b:Nat} (h:a≤b):off c a≤off c b:=by
 induction h with
 | refl=>exact Nat.le_refl _
 | step _ ih=>exact Nat.le_trans ih (Nat.le_add_right _ _)
theorem A3j {c:List (List Int)} {i j:Nat} (hi:i<c.length) (hj:j<(fcs c i).length):off c i+j<off c c.length:=by
 have:=A6X c (show i+1≤c.length by omega);rw[off]at this;omega
theorem Aq5.val (c:List (List Int)) (p:Int) (st:List Int) (ms:List MatV) (m:MatV) (h:CplxOk c) (hst:st.length=c.length) (hm:m.2.2.2.length<4611686018427387904) (i j:Nat) (hi:i<c.length) (hj:j<(fcs c i).length) :
   ∃ v,Aq5.F ((c,(p,(st,ms))),(i:Int),(j:Int),m,())=some ((v,()),())/\(v=true↔A4z c p st m i j):=by
 obtain⟨q,r,cc,xs⟩:=m;obtain⟨v1,h1,h1'⟩:=Aq2.val (q,r,cc,xs) hm;obtain⟨x,hx,hxc⟩:=A4S h hi (A0z (0:Int) hj);rw[Aq5.eq,Aq5.T,Aa2.val c h i hi];simp only[Option.bind_some];rw[if_pos (by omega),h1];simp only[Option.bind_some,Int.toNat_natCast];unfold A4z;cases v1 with
 | false=>exact⟨false,by rw[if_neg (by simp)],by simp only[Bool.false_eq_true,false_iff];exact fun hh=>absurd (h1'.2 hh.1) (by simp)⟩
 | true =>
   have hmat:=h1'.1 rfl;rw[if_pos rfl];by_cases e1:q=p
   . rw[if_pos (by simp[e1]),if_pos (by omega)];by_cases e2:r=st.getD i 0
     . rw[if_pos (by simp only[beq_iff_eq];exact e2),if_pos (by rw[hx];omega)];exact⟨_,rfl,by simp only[beq_iff_eq];exact⟨fun e3=>⟨hmat,e1,e2,e3⟩,fun hh=>hh.2.2.2⟩⟩
     . exact⟨false,by rw[if_neg (by simp only[beq_iff_eq];exact e2)],by simp only[Bool.false_eq_true,false_iff];exact fun hh=>e2 hh.2.2.1⟩
   . exact⟨false,by rw[if_neg (by simp only[beq_iff_eq];exact e1)],by simp only[Bool.false_eq_true,false_iff];exact fun hh=>e1 hh.2.1⟩
theorem Aa8.val (s:ShfV) (hsm:SmSh s):∃ v,Aa8.F (s,())=some ((v,()),())/\(v=true↔SheafOk s):=by
 obtain⟨c,p,st,ms⟩:=s;obtain⟨hc,hst,hms⟩:=hsm;have hc:SmL c:=hc;have hst:st.length≤1048576:=hst;have hms:SmMs ms:=hms;unfold SheafOk;simp only[];obtain⟨v1,h1,h1'⟩:=Aa3.val c hc;obtain⟨v2,h2,h2'⟩:=Aj1.val p;obtain⟨v3,h3,h3'⟩:=Aj3.val c st hc.1 hst;have h2p:Ak1.F (p,())=some ((v2,()),()):=by rw[Ak1.eq,Ak1.T,h2];rfl
 cases v1 with
 | false=>exact⟨false,Aa8.of _ _ _ _ ((Ev.const _).of_eq fun k=>by rw[Aa8.T,h1];rfl),by simp only[Bool.false_eq_true,false_iff];exact fun hh=>absurd (h1'.2 hh.1) (by simp)⟩
 | true =>
 cases v2 with
 | false=>exact⟨false,Aa8.of _ _ _ _ ((Ev.const _).of_eq fun k=>by rw[Aa8.T,h1,h2p];rfl),by simp only[Bool.false_eq_true,false_iff];exact fun hh=>absurd (h2'.2 hh.2.1) (by simp)⟩
 | true =>
 cases v3 with
 | false=>exact⟨false,Aa8.of _ _ _ _ ((Ev.const _).of_eq fun k=>by rw[Aa8.T,h1,h2p,h3];rfl),by simp only[Bool.false_eq_true,false_iff];exact fun hh=>absurd (h3'.2 hh.2.2.1) (by simp)⟩
 | true =>
 have hcx:=h1'.1 rfl;have hstalk:=h3'.1 rfl;have hcl:=hcx.1;have hoff:=A1G hcx (Nat.le_refl c.length);have h4:Ar9.F (c,())=some ((((off c c.length:Nat):Int),()),()):=by
   have:=Ab8.val c hcx c.length (Nat.le_refl _) 0 (by omega);rw[Ar9.eq,Ar9.T,show(0:Int)=((0:Nat):Int)from rfl,this];rfl
 by_cases hlen:ms.length=off c c.length
 . obtain⟨v,hv,b,rfl,hb⟩:=Ev.loop (σ:=Unit) (R:=(Bool×Unit)×Unit) (fun k i _=>Aa8.l4 k c p st ms (i:Int)) c.length (fun i _=>∀ n,n<i->A4f (c,p,st,ms) n) (fun r=>∃ b,r=((b,()),())/\(b=true↔∀ n,n<c.length->A4f (c,p,st,ms) n))
     (fun i _ hi hI=>by
       have E4:∀ k,Aa8.l4 (k+1) c p st ms (i:Int)=Aa8.l7 k c p st ms (i:Int) ((0:Nat):Int):=fun k=>by rw[Aa8.l4_eq,if_pos (ltI.2 hi)];rfl
       have hlc:=(hcx.2 i hi).1.1;have step:∀ j,j<(fcs c i).length->∃ v,(v=true↔A4z c p st (ms.getD (off c i+j) (0,0,0,[])) i j)/\∀ k,Aa8.l7 (k+1) c p st ms (i:Int) (j:Int)=if (!v)=true then some ((false,()),())else Aa8.l7 k c p st ms (i:Int) ((j+1:Nat):Int):=fun j hj=>by
         have hlt:=A3j hi hj;have hj2:=hj;rw[A0k]at hj2;have h1l:1<(c.getD i []).length:=by
           by_cases hh:1<(c.getD i []).length
           . exact hh
           . rw[if_neg hh]at hj2;omega
         rw[if_pos h1l]at hj2;have hml:(ms.getD (off c i+j) (0,0,0,[])).2.2.2.length<4611686018427387904:=by
           have:(ms.getD (off c i+j) (0,0,0,[])).2.2.2.length≤1048576:=hms.2 _ (A0z _ (by omega));omega
         obtain⟨v,hv,hv'⟩:=Aq5.val c p st ms (ms.getD (off c i+j) (0,0,0,[])) hcx hstalk.1 hml i j hi hj;refine⟨v,hv',fun k=>?_⟩;rw[Aa8.l7_eq,if_pos (idxI.2 hi)];simp only[Int.toNat_natCast];rw[if_pos (by simp only[decide_eq_true_eq];omega),if_pos (idxI.2 hi),if_pos (by simp only[decide_eq_true_eq];omega),Ab8.val c hcx i (by omega) j (by omega)];simp only[Option.bind_some,Int.toNat_natCast];rw[if_pos (by omega),hv];simp only[Option.bind_some];rw[A0x (by omega)]
       have stop:∀ k,Aa8.l7 (k+1) c p st ms (i:Int) (((fcs c i).length:Nat):Int)=Aa8.l4 k c p st ms ((i+1:Nat):Int):=fun k=>by
         rw[Aa8.l7_eq,if_pos (idxI.2 hi),A0k];simp only[Int.toNat_natCast];by_cases h1l:1<(c.getD i []).length
         . rw[if_pos h1l,if_neg (by simp),A0x (by omega)]
         . rw[if_neg h1l,if_pos (by simp only[decide_eq_true_eq];omega),if_pos (idxI.2 hi),if_neg (by simp only[decide_eq_true_eq];omega),A0x (by omega)]
       by_cases hP:A4f (c,p,st,ms) i
       . refine .inr ⟨(),fun n hn=>?_,(Goes.succ E4).trans ?_⟩
         . by_cases hni:n=i
           . rw[hni];exact hP
           . exact hI n (by omega)
         . obtain⟨_,_,hg⟩:=Goes.loop (σ:=Unit) (R:=(Bool×Unit)×Unit) (fun k j _=>Aa8.l7 k c p st ms (i:Int) (j:Int)) (fcs c i).length (fun _ _=>True) (fun j _ hj _=>⟨(),trivial,by
             obtain⟨v,hv,hv2⟩:=step j hj;have:v=true:=hv.2 (hP j hj);subst this;exact Goes.succ fun k=>by rw[hv2];rfl⟩) 0 () (Nat.zero_le _) trivial
           exact hg.trans (Goes.succ stop)
       . left;obtain⟨v,hv,hv'⟩:=Ev.loop (σ:=Unit) (R:=(Bool×Unit)×Unit) (fun k j _=>Aa8.l7 k c p st ms (i:Int) (j:Int)) (fcs c i).length (fun j _=>∀ n,n<j->A4z c p st (ms.getD (off c i+n) (0,0,0,[])) i n) (fun r=>r=((false,()),())) (fun j _ hj hJ=>by
           obtain⟨v,hv,hv2⟩:=step j hj;cases v with
           | false=>exact .inl ⟨_,(Ev.const _).succ fun k=>by rw[hv2];rfl,rfl⟩
           | true =>
             refine .inr ⟨(),fun n hn=>?_,Goes.succ fun k=>by rw[hv2];rfl⟩;by_cases hnj:n=j
             . rw[hnj];exact hv.1 rfl
             . exact hJ n (by omega)) (fun _ hJ=>absurd (fun j hj=>hJ j hj) hP) 0 () (Nat.zero_le _) (by intro n hn;omega)
         subst hv';exact⟨_,hv.succ E4,false,rfl,by simp only[Bool.false_eq_true,false_iff];exact fun hh=>hP (hh i hi)⟩)
     (fun _ hI=>⟨_,(Ev.const _).succ fun k=>by rw[Aa8.l4_eq,if_neg (by simp)],true,rfl,by simp only[true_iff];exact hI⟩) 0 () (Nat.zero_le _) (by intro n hn;omega)
   refine⟨b,Aa8.of _ _ _ _ (hv.of_eq fun k=>?_),hb.trans ⟨fun hh=>⟨hcx,h2'.1 rfl,hstalk,hlen,hh⟩,fun hh=>hh.2.2.2.2⟩⟩;rw[Aa8.T,h1,h2p,h3,h4];simp only[Option.bind_some,Bool.not_true,Bool.false_eq_true,if_false];rw[if_neg (by simp[hlen])];rfl
 . refine⟨false,Aa8.of _ _ _ _ ((Ev.const _).of_eq fun k=>?_),by simp only[Bool.false_eq_true,false_iff];exact fun hh=>hlen hh.2.2.2.1⟩;rw[Aa8.T,h1,h2p,h3,h4];simp only[Option.bind_some,Bool.not_true,Bool.false_eq_true,if_false];rw[if_pos (by simp;omega)]
theorem Ab7.same (xs ys:List Int) (h:Sm xs):∃ b,Ab7.F (xs,ys,())=some ((b,()),())/\(b=true↔xs=ys):=by
 have hn:xs.length≤1048576:=h;by_cases hl:xs.length=ys.length
 . obtain⟨b,hb,hb'⟩:=A1L (fun k i=>Ab7.l4 k xs ys xs.length (i:Int)) xs ys 0 hl (fun i hi=>⟨xs.getD i 0==ys.getD i 0,by simp,fun k=>by
     rw[Ab7.l4_eq,if_pos (ltI.2 hi),if_pos (idxI.2 hi),if_pos (idx2 (hl▸hi))];simp only[Int.toNat_natCast];rw[A0x (by omega)];rfl⟩) (fun k=>by rw[Ab7.l4_eq,if_neg (by simp)])
   exact⟨b,Ab7.of _ _ (hb.of_eq fun k=>by rw[Ab7.T,if_neg (by simp[hl])];rfl),hb'⟩
 . exact⟨false,Ab7.of _ _ ((Ev.const _).of_eq fun k=>by rw[Ab7.T,if_pos (by simp;omega)]),by simp;intro e;exact hl (by rw[e])⟩
theorem Af0.same (m n:MatV) (h:SmM m):∃ b,Af0.F (m,n,())=some ((b,()),())/\(b=true↔m=n):=by
 obtain⟨a,b,c,xs⟩:=m;obtain⟨a',b',c',ys⟩:=n;have hn:xs.length≤1048576:=h;simp only[Prod.mk.injEq];by_cases h1:a=a'
 . by_cases h2:b=b'
   . by_cases h3:c=c'
     . by_cases hl:xs.length=ys.length
       . obtain⟨e,he,he'⟩:=A1L (fun k i=>Af0.l4 k a b c xs a' b' c' ys (i:Int)) xs ys 0 hl (fun i hi=>⟨xs.getD i 0==ys.getD i 0,by simp,fun k=>by
           rw[Af0.l4_eq,if_pos (ltI.2 hi),if_pos (idxI.2 hi),if_pos (idx2 (hl▸hi))];simp only[Int.toNat_natCast];rw[A0x (by omega)];rfl⟩) (fun k=>by rw[Af0.l4_eq,if_neg (by simp)])
         exact⟨e,Af0.of _ _ _ _ _ _ _ _ (he.of_eq fun k=>by rw[Af0.T,if_neg (by simp[h1]),if_neg (by simp[h2]),if_neg (by simp[h3]),if_neg (by simp[hl])];rfl),by simp[h1,h2,h3,he']⟩
       . exact⟨false,Af0.of _ _ _ _ _ _ _ _ ((Ev.const _).of_eq fun k=>by rw[Af0.T,if_neg (by simp[h1]),if_neg (by simp[h2]),if_neg (by simp[h3]),if_pos (by simp;omega)]),by simp[h1,h2,h3];intro e;exact hl (by rw[e])⟩
     . exact⟨false,Af0.of _ _ _ _ _ _ _ _ ((Ev.const _).of_eq fun k=>by rw[Af0.T,if_neg (by simp[h1]),if_neg (by simp[h2]),if_pos (by simp[h3])]),by simp[h3]⟩
   . exact⟨false,Af0.of _ _ _ _ _ _ _ _ ((Ev.const _).of_eq fun k=>by rw[Af0.T,if_neg (by simp[h1]),if_pos (by simp[h2])]),by simp[h2]⟩
 . exact⟨false,Af0.of _ _ _ _ _ _ _ _ ((Ev.const _).of_eq fun k=>by rw[Af0.T,if_pos (by simp[h1])]),by simp[h1]⟩
theorem Ao0.same (m n:MatV) (h:SmM m):∃ b,Ao0.F (m,n,())=some ((b,()),())/\(b=true↔m=n):=by
 obtain⟨a,b,c,xs⟩:=m;obtain⟨a',b',c',ys⟩:=n;obtain⟨e,he,he'⟩:=Ab7.same xs ys h;rw[Ao0.eq,Ao0.T,he];simp only[Option.bind_some,Prod.mk.injEq];by_cases h1:a=a'
 . by_cases h2:b=b'
   . by_cases h3:c=c'
     . exact⟨e,by rw[if_pos (by simp[h1]),if_pos (by simp[h2]),if_pos (by simp[h3])],by simp[h1,h2,h3,he']⟩
     . exact⟨false,by rw[if_pos (by simp[h1]),if_pos (by simp[h2]),if_neg (by simp[h3])],by simp[h3]⟩
   . exact⟨false,by rw[if_pos (by simp[h1]),if_neg (by simp[h2])],by simp[h2]⟩
 . exact⟨false,by rw[if_neg (by simp[h1])],by simp[h1]⟩
theorem Goes.find {R T:Type} {L:Nat->Nat->Option R} {M:Nat->Option R} {n:Nat} (i0:Nat) (f:Nat->Option T) (res:T->R)
   (hstep:∀ i,i0≤i->i<n->(f i=none/\Goes (fun k=>L k i) (fun k=>L k (i+1)))∨(∃ t,f i=some t/\Ev (fun k=>L k i) (res t)))
   (hend:Goes (fun k=>L k n) M) (i:Nat) (h0:i0≤i) (hi:i≤n) :
   ((List.range' i (n-i)).findSome? f=none/\Goes (fun k=>L k i) M)∨(∃ t,(List.range' i (n-i)).findSome? f=some t/\Ev (fun k=>L k i) (res t)):=by
 have key:∀ m i,i0≤i->i+m=n->((List.range' i m).findSome? f=none/\Goes (fun k=>L k i) M)∨(∃ t,(List.range' i m).findSome? f=some t/\Ev (fun k=>L k i) (res t)):=by
   intro m;induction m with
   | zero => intro i h0 hi;obtain rfl:i=n:=by omega
             exact .inl ⟨rfl,hend⟩
   | succ m ih =>
     intro i h0 hi;rw[List.range'_succ,List.findSome?_cons];rcases hstep i h0 (by omega)with⟨h1,h2⟩|⟨t,h1,h2⟩
     . rw[h1];rcases ih (i+1) (by omega) (by omega)with⟨h3,h4⟩|⟨t,h3,h4⟩
       . exact .inl ⟨h3,h2.trans h4⟩
       . exact .inr ⟨t,h3,h2 _ h4⟩
     . rw[h1];exact .inr ⟨t,rfl,h2⟩
 exact key (n-i) i h0 (by omega)
def A0v (s:ShfV) (i j:Nat):MatV:=s.2.2.2.getD (off s.1 i+j) (0,0,0,[])
theorem A3Y {c:List (List Int)} (h:CplxOk c) {k i:Nat} (hk:k<c.length) (hi:i<(fcs c k).length):∃ f:Nat,(fcs c k).getD i 0=(f:Int)/\f<c.length/\c.getD f []=A0w (c.getD k []) i/\i<(c.getD k []).length/\1<(c.getD k []).length:=by
 rw[A0k]at hi;have h1:1<(c.getD k []).length:=by
   by_cases h1:1<(c.getD k []).length
   . exact h1
   . rw[if_neg h1]at hi;omega
 rw[if_pos h1]at hi;have hf:(A0V (c.getD k []))=(List.range (c.getD k []).length).map (A0w (c.getD k [])):=by rw[A0V,if_pos h1]
 have hm:A0w (c.getD k []) i∈A0V (c.getD k []):=by rw[hf];exact List.mem_map.2 ⟨i,List.mem_range.2 hi,rfl⟩
 obtain⟨h2,h3⟩:=A0E (A1i h hk hm);refine⟨_,?_,h2,h3,hi,h1⟩;rw[fcs,hf];obtain⟨s,hs⟩:∃ s,c.getD k []=s:=⟨_,rfl⟩;rw[hs]at hi ⊢;simp only[List.getD_eq_getElem?_getD,List.getElem?_map,List.getElem?_range hi,Option.map_some,Option.getD_some]
theorem Ai5.val (s:ShfV) (h:CplxOk s.1) (n:Nat) (hn:n≤s.1.length):Ai5.F (s,(n:Int),())=some ((((off s.1 n:Nat):Int),()),()):=by
 obtain⟨c,p,st,ms⟩:=s;have h:CplxOk c:=h;have hn:n≤c.length:=hn;have hcl:=h.1;have hos:=A1G h hn;have hcut:cutL c (0:Int) (n:Int)=c.take n:=by simp[cutL]
 have hlen:(c.take n).length=n:=by simp;omega
 refine Ai5.of _ _ _ _ _ (Ev.of_eq (N:=fun k=>Ai5.l3 k 0 (c.take n) (n:Int) ((0:Nat):Int)) ?_ fun k=>by rw[Ai5.T,if_pos (by omega),hcut,hlen];rfl);obtain⟨x,hx,hg⟩:=Goes.loop (R:=((Int×Unit)×Unit)) (fun k i (x:Int)=>Ai5.l3 k x (c.take n) (n:Int) (i:Int)) n (fun i x=>x=(off c i:Int)) (fun i x hi h2=>⟨_,rfl,Goes.succ fun k=>by
   have hic:i<c.length:=by omega
   have hoff:=A1G h (show i≤c.length by omega);have h4:=(h.2 i hic).1.1.2;have ht:(c.take n).getD i []=c.getD i []:=by simp only[List.getD_eq_getElem?_getD,List.getElem?_take,hi,if_true]
   rw[Ai5.l3_eq,if_pos (ltI.2 hi),if_pos (by rw[hlen];omega)];simp only[Int.toNat_natCast,ht];rw[off,A0k];by_cases h1:1<(c.getD i []).length
   . rw[if_pos (by simp only[decide_eq_true_eq];omega),Ac6.eq,Ac6.T,if_pos h1];simp only[Option.bind_some];rw[A0j (by omega) (by omega),A0x (by omega),h2];congr 1
   . rw[if_neg (by simp only[decide_eq_true_eq];omega),if_neg h1,A0x (by omega),h2];rfl⟩) 0 0 (Nat.zero_le _) rfl
 refine hg _ ((Ev.const _).succ fun k=>?_);rw[Ai5.l3_eq,if_neg (by simp),hx]
theorem Ab3.val (s:ShfV) (h:SheafOk s) (i j:Nat) (hi:i<s.1.length) (hj:j<(fcs s.1 i).length):Ab3.F (s,(i:Int),(j:Int),())=some ((A0v s i j,()),()):=by
 have h1:=Ai5.val s h.1 i (by omega);have h2:=A3j hi hj;have h3:=h.2.2.2.1;have h4:=A1G h.1 (Nat.le_refl s.1.length);have h5:=h.1.1;have hT:Ab3.F (s,(i:Int),(j:Int),())=Ab3.T s.1 s.2.1 s.2.2.1 s.2.2.2 (i:Int) (j:Int):=Ab3.eq _ _ _ _ _ _;have hw:IntKind.i64.wrap (((off s.1 i:Nat):Int)+(j:Int))=((off s.1 i+j:Nat):Int):=by rw[A0j (by omega) (by omega)];omega
 have h1:Ai5.F ((s.1,(s.2.1,(s.2.2.1,s.2.2.2))),(i:Int),())=_:=h1;rw[hT,Ab3.T,h1];simp only[Option.bind_some,hw];rw[if_pos (by omega)];simp only[Int.toNat_natCast];rfl
theorem Aa4.val (s:ShfV) (h:SheafOk s) (i j:Nat) (hi:i<s.1.length) (hj:j<(fcs s.1 i).length):Aa4.F (s,(i:Int),(j:Int),())=some ((A0v s i j,()),()):=by
 have h2:=A3j hi hj;have h3:=h.2.2.2.1;have h4:=A1G h.1 (Nat.le_refl s.1.length);have h5:=h.1.1;have h1:=Ab8.val s.1 h.1 i (by omega) j (by omega);have hT:Aa4.F (s,(i:Int),(j:Int),())=Aa4.T s.1 s.2.1 s.2.2.1 s.2.2.2 (i:Int) (j:Int):=Aa4.eq _ _ _ _ _ _;rw[hT,Aa4.T,h1];simp only[Option.bind_some];rw[if_pos (by omega)];simp only[Int.toNat_natCast];rfl
def fc (c:List (List Int)) (k i:Nat):Nat:=((fcs c k).getD i 0).toNat
def sqA (s:ShfV) (k i j:Nat):MatV:=mulM (A0v s k i) (A0v s (fc s.1 k i) (j-1))
def sqB (s:ShfV) (k i j:Nat):MatV:=mulM (A0v s k j) (A0v s (fc s.1 k j) i)
theorem A0r {s:ShfV} (h:SheafOk s) {i j:Nat} (hi:i<s.1.length) (hj:j<(fcs s.1 i).length):A4z s.1 s.2.1 s.2.2.1 (A0v s i j) i j:=h.2.2.2.2 i hi j hj
structure SqFit (s:ShfV) (k i j:Nat) (f:Nat):Prop where
 at_:(fcs s.1 k).getD i 0=(f:Int)
 fc_:fc s.1 k i=f
 lt:f<s.1.length
 jlt:j<(fcs s.1 f).length
 ilt:i<(fcs s.1 k).length
 dir:Ag7.F (A0v s k i,A0v s f j,())=some ((mulM (A0v s k i) (A0v s f j),()),())
 tim:Ac5.F (A0v s k i,A0v s f j,())=some ((mulM (A0v s k i) (A0v s f j),()),())
 ok:MatOk (mulM (A0v s k i) (A0v s f j))
theorem A6v {s:ShfV} (h:SheafOk s) {k i j:Nat} (hk:k<s.1.length) (h3:2<(s.1.getD k []).length) (hi:i<(s.1.getD k []).length) (hj:j+1<(s.1.getD k []).length):∃ f,SqFit s k i j f:=by
 have hil:i<(fcs s.1 k).length:=by rw[A0k,if_pos (by omega)];exact hi
 obtain⟨f,h1,h2,h4,h5,h6⟩:=A3Y h.1 hk hil;have hfl:(s.1.getD f []).length=(s.1.getD k []).length-1:=by rw[h4];exact A0L hi
 have hjl:j<(fcs s.1 f).length:=by rw[A0k,if_pos (by omega)];omega
 have m1:=A0r h hk hil;have m2:=A0r h h2 hjl;have hp:(A0v s k i).1=(A0v s f j).1:=by rw[m1.2.1,m2.2.1]
 have hs:(A0v s k i).2.2.1=(A0v s f j).2.1:=by rw[m1.2.2.2,m2.2.2.1,h1];rfl
 exact⟨f,h1,by rw[fc,h1,Int.toNat_natCast],h2,hjl,hil,Ag7.val _ _ m1.1 m2.1 hp hs,Ac5.val _ _ m1.1 m2.1 hp hs,A5Z m1.1 m2.1⟩
theorem MatOk.small {m:MatV} (h:MatOk m):SmM m:=by
 have:=A6U h.2.1 h.2.2.1;have:=h.2.2.2.1;unfold SmM Sm;omega
noncomputable def A2H (s:ShfV) (k i j:Nat):Option (Nat×Nat×Nat):=@ite _ (sqA s k i j=sqB s k i j) (Classical.propDecidable _) none (some (k,i,j))
noncomputable def A3F (s:ShfV) (k n i:Nat):Option (Nat×Nat×Nat):=(List.range' (i+1) (n-(i+1))).findSome? (A2H s k i)
noncomputable def A1e (s:ShfV) (k:Nat):Option (Nat×Nat×Nat):=if (s.1.getD k []).length<3 then none else(List.range' 0 ((s.1.getD k []).length-0)).findSome? (A3F s k (s.1.getD k []).length)
noncomputable def A1f (s:ShfV):Option (Nat×Nat×Nat):=(List.range' 0 (s.1.length-0)).findSome? (A1e s)
theorem Ac2.val (s:ShfV) (h:SheafOk s):Ac2.F (s,())=some ((match A1f s with|none=>(0,0,false,())|some (k,i,j)=>((k:Int),(fcs s.1 (fc s.1 k i)).getD (j-1) 0,true,())),()):=by
 have hcl:=h.1.1;have hT:∀ r,Ev (fun k=>Ac2.T k s.1 s.2.1 s.2.2.1 s.2.2.2) r->Ac2.F (s,())=some r:=fun r hr=>Ac2.of _ _ _ _ hr;have res:∀ t:Nat×Nat×Nat,((Int×Int×Bool×Unit)×Unit):=fun t=>(((t.1:Int),(fcs s.1 (fc s.1 t.1 t.2.1)).getD (t.2.2-1) 0,true,()),());have main:=Goes.find (R:=((Int×Int×Bool×Unit)×Unit)) (L:=fun n k=>Ac2.l2 n s.1 (s.1.length:Int) (k:Int) s.1 s.2.1 s.2.2.1 s.2.2.2) (M:=fun _=>some ((0,0,false,()),())) (n:=s.1.length) 0 (A1e s) (fun t:Nat×Nat×Nat=>(((t.1:Int),(fcs s.1 (fc s.1 t.1 t.2.1)).getD (t.2.2-1) 0,true,()),())) (fun k _ hk=>by
   have E:=fun n=>Ac2.l2_eq n s.1 (s.1.length:Int) (k:Int) s.1 s.2.1 s.2.2.1 s.2.2.2;simp only[if_pos (ltI.2 hk),if_pos (idxI.2 hk),Int.toNat_natCast,A0x (show k<4611686018427387904 by omega),Ab0.val s.1 h.1 k hk,Option.bind_some]at E;by_cases h3:(s.1.getD k []).length<3
   . exact .inl ⟨by rw[A1e,if_pos h3],Goes.succ fun n=>by rw[E,if_pos (by simp only[decide_eq_true_eq];omega)]⟩
   obtain⟨t,ht⟩:∃ t,s.1.getD k []=t:=⟨_,rfl⟩;have h4:=(h.1.2 k hk).1.1.2;rw[ht]at h4 h3;have hw:A1e s k=(List.range' 0 (t.length-0)).findSome? (A3F s k t.length):=by rw[A1e,ht,if_neg h3]
   rw[hw];simp only[ht]at E;have e0:Goes (fun n=>Ac2.l2 n s.1 (s.1.length:Int) (k:Int) s.1 s.2.1 s.2.2.1 s.2.2.2) (fun n=>Ac2.l8 n t (k:Int) s.1 (s.1.length:Int) (k:Int) (t.length:Int) ((0:Nat):Int) s.1 s.2.1 s.2.2.1 s.2.2.2 (fcs s.1 k)):=Goes.succ fun n=>by rw[E,if_neg (by simp only[decide_eq_true_eq];omega)];rfl
   have inner:=Goes.find (R:=((Int×Int×Bool×Unit)×Unit)) (L:=fun n i=>Ac2.l8 n t (k:Int) s.1 (s.1.length:Int) (k:Int) (t.length:Int) (i:Int) s.1 s.2.1 s.2.2.1 s.2.2.2 (fcs s.1 k)) (M:=fun n=>Ac2.l2 n s.1 (s.1.length:Int) ((k+1:Nat):Int) s.1 s.2.1 s.2.2.1 s.2.2.2) (n:=t.length) 0 (A3F s k t.length) (fun t:Nat×Nat×Nat=>(((t.1:Int),(fcs s.1 (fc s.1 t.1 t.2.1)).getD (t.2.2-1) 0,true,()),())) (fun i _ hi=>by
     have e1:Goes (fun n=>Ac2.l8 n t (k:Int) s.1 (s.1.length:Int) (k:Int) (t.length:Int) (i:Int) s.1 s.2.1 s.2.2.1 s.2.2.2 (fcs s.1 k)) (fun n=>Ac2.l11 n t (k:Int) (i:Int) ((i+1:Nat):Int) s.1 (s.1.length:Int) (k:Int) (t.length:Int) (i:Int) s.1 s.2.1 s.2.2.1 s.2.2.2 (fcs s.1 k)):=Goes.succ fun n=>by rw[Ac2.l8_eq,if_pos (ltI.2 hi),A0x (by omega)]
     have deep:=Goes.find (R:=((Int×Int×Bool×Unit)×Unit)) (L:=fun n j=>Ac2.l11 n t (k:Int) (i:Int) (j:Int) s.1 (s.1.length:Int) (k:Int) (t.length:Int) (i:Int) s.1 s.2.1 s.2.2.1 s.2.2.2 (fcs s.1 k)) (M:=fun n=>Ac2.l8 n t (k:Int) s.1 (s.1.length:Int) (k:Int) (t.length:Int) ((i+1:Nat):Int) s.1 s.2.1 s.2.2.1 s.2.2.2 (fcs s.1 k)) (n:=t.length) (i+1) (A2H s k i) (fun t:Nat×Nat×Nat=>(((t.1:Int),(fcs s.1 (fc s.1 t.1 t.2.1)).getD (t.2.2-1) 0,true,()),())) (fun j hij hj=>by
       obtain⟨f,F⟩:=A6v h hk (by rw[ht];omega) (show i<_ by rw[ht];omega) (show j-1+1<_ by rw[ht];omega);obtain⟨g,G⟩:=A6v h hk (by rw[ht];omega) (show j<_ by rw[ht];omega) (show i+1<_ by rw[ht];omega);have hA:sqA s k i j=mulM (A0v s k i) (A0v s f (j-1)):=by rw[sqA,F.fc_]
       have hB:sqB s k i j=mulM (A0v s k j) (A0v s g i):=by rw[sqB,G.fc_]
       obtain⟨b,hb,hb'⟩:=Ao0.same (mulM (A0v s k i) (A0v s f (j-1))) (mulM (A0v s k j) (A0v s g i)) F.ok.small;have E2:=fun n=>Ac2.l11_eq n t (k:Int) (i:Int) (j:Int) s.1 (s.1.length:Int) (k:Int) (t.length:Int) (i:Int) s.1 s.2.1 s.2.2.1 s.2.2.2 (fcs s.1 k);simp only[if_pos (ltI.2 hj),Ab3.val s h k i hk F.ilt,Ab3.val s h k j hk G.ilt,A5L (show 0<j by omega) (show j<4611686018427387904 by omega),Option.bind_some,if_pos (idxI.2 F.ilt),if_pos (idxI.2 G.ilt),Int.toNat_natCast,F.at_,G.at_,Ab3.val s h f (j-1) F.lt F.jlt,Ab3.val s h g i G.lt G.jlt,F.dir,G.dir,hb,Ab0.val s.1 h.1 f F.lt,if_pos (idxI.2 F.jlt),A0x (show j<4611686018427387904 by omega)]at E2;cases b with
       | true=>exact .inl ⟨by rw[A2H,if_pos (by rw[hA,hB];exact hb'.1 rfl)],Goes.succ fun n=>by rw[E2,if_neg (by simp)]⟩
       | false=>exact .inr ⟨(k,i,j),by rw[A2H,if_neg (by rw[hA,hB];exact fun e=>absurd (hb'.2 e) (by simp))],(Ev.const _).succ fun n=>by rw[E2,if_pos (by simp)];simp only[F.fc_]⟩) (Goes.succ fun n=>by rw[Ac2.l11_eq,if_neg (by simp),A0x (by omega)]) (i+1) (Nat.le_refl _) (by omega)
     rcases deep with⟨d1,d2⟩|⟨r,d1,d2⟩
     . exact .inl ⟨d1,e1.trans d2⟩
     . exact .inr ⟨r,d1,e1 _ d2⟩) (Goes.succ fun n=>by rw[Ac2.l8_eq,if_neg (by simp),A0x (by omega)]) 0 (Nat.le_refl _) (Nat.zero_le _)
   rcases inner with⟨d1,d2⟩|⟨r,d1,d2⟩
   . exact .inl ⟨d1,e0.trans d2⟩
   . exact .inr ⟨r,d1,e0 _ d2⟩) (Goes.succ fun n=>by rw[Ac2.l2_eq,if_neg (by simp)]) 0 (Nat.le_refl _) (Nat.zero_le _)
 rcases main with⟨d1,d2⟩|⟨⟨k,i,j⟩,d1,d2⟩
 . rw[A1f,d1];exact hT _ ((d2 _ (Ev.const _)).of_eq fun n=>rfl)
 . rw[A1f,d1];exact hT _ (d2.of_eq fun n=>rfl)
theorem Ao8.val (m:MatV) (p a b:Int) (hm:m.2.2.2.length<4611686018427387904):∃ v,Ao8.F (m,p,a,b,())=some ((v,()),())/\(v=true↔MatOk m/\m.1=p/\m.2.1=b/\m.2.2.1=a):=by
 obtain⟨q,r,cc,xs⟩:=m;obtain⟨v1,h1,h1'⟩:=Ao2.val (q,r,cc,xs) hm;rw[Ao8.eq,Ao8.T,h1];simp only[Option.bind_some];cases v1 with
 | false=>exact⟨false,by rw[if_neg (by simp)],by simp only[Bool.false_eq_true,false_iff];exact fun hh=>absurd (h1'.2 hh.1) (by simp)⟩
 | true =>
   have hmat:=h1'.1 rfl;rw[if_pos rfl];by_cases e1:q=p
   . rw[if_pos (by simp only[beq_iff_eq];exact e1)];by_cases e2:r=b
     . rw[if_pos (by simp only[beq_iff_eq];exact e2)];exact⟨_,rfl,by simp only[beq_iff_eq];exact⟨fun e3=>⟨hmat,e1,e2,e3⟩,fun hh=>hh.2.2.2⟩⟩
     . exact⟨false,by rw[if_neg (by simp only[beq_iff_eq];exact e2)],by simp only[Bool.false_eq_true,false_iff];exact fun hh=>e2 hh.2.2.1⟩
   . exact⟨false,by rw[if_neg (by simp only[beq_iff_eq];exact e1)],by simp only[Bool.false_eq_true,false_iff];exact fun hh=>e1 hh.2.1⟩
theorem A4D {c:List (List Int)}:∀ {n q:Nat},q<off c n->∃ s,s<n/\∃ j,j<(fcs c s).length/\q=off c s+j:=by
 intro n;induction n with
 | zero=>intro q h;simp[off]at h
 | succ n ih =>
   intro q h;by_cases hq:q<off c n
   . obtain⟨s,hs,j,hj,e⟩:=ih hq;exact⟨s,by omega,j,hj,e⟩
   . rw[off]at h;exact⟨n,by omega,q-off c n,by omega,by omega⟩
theorem Af1.val (s:ShfV) (hsm:SmSh s):∃ v,Af1.F (s,())=some ((v,()),())/\(v=true↔SheafOk s):=by
 obtain⟨c,p,st,ms⟩:=s;obtain⟨hc,hst,hms⟩:=hsm;have hc:SmL c:=hc;have hst:st.length≤1048576:=hst;have hms:SmMs ms:=hms;unfold SheafOk;simp only[];obtain⟨v1,h1,h1'⟩:=Aa9.val c hc;obtain⟨v2,h2,h2'⟩:=Af7.val p;obtain⟨v3,h3,h3'⟩:=Ag4.val c st hc.1 hst;cases v1 with
 | false=>exact⟨false,Af1.of _ _ _ _ ((Ev.const _).of_eq fun k=>by rw[Af1.T,h1];rfl),by simp only[Bool.false_eq_true,false_iff];exact fun hh=>absurd (h1'.2 hh.1) (by simp)⟩
 | true =>
 cases v2 with
 | false=>exact⟨false,Af1.of _ _ _ _ ((Ev.const _).of_eq fun k=>by rw[Af1.T,h1,h2];rfl),by simp only[Bool.false_eq_true,false_iff];exact fun hh=>absurd (h2'.2 hh.2.1) (by simp)⟩
 | true =>
 cases v3 with
 | false=>exact⟨false,Af1.of _ _ _ _ ((Ev.const _).of_eq fun k=>by rw[Af1.T,h1,h2,h3];rfl),by simp only[Bool.false_eq_true,false_iff];exact fun hh=>absurd (h3'.2 hh.2.2.1) (by simp)⟩
 | true =>
 have hcx:=h1'.1 rfl;have hstalk:=h3'.1 rfl;have hcl:=hcx.1;have hoff:=A1G hcx (Nat.le_refl c.length);have hal:=A0I c c.length;obtain⟨A,hA⟩:∃ A,arr c c.length=A:=⟨_,rfl⟩;rw[hA]at hal;obtain⟨b,hb,hb'⟩:=Ev.allP (L:=fun k q=>Af1.l5 k (A.length:Int) (q:Int) c p st ms A) (a:=()) (b:=()) (n:=A.length) (fun q=>q<ms.length/\∀ i j,i<c.length->j<(fcs c i).length->q=off c i+j->A4z c p st (ms.getD q (0,0,0,[])) i j) ((A.length:Int)==(ms.length:Int)) (fun q hq=>by
   obtain⟨i,hi,j,hj,e⟩:=A4D (show q<off c c.length by omega);have hg:=A2x c hi hj;rw[<-e,hA]at hg;obtain⟨x,hx,hxc⟩:=A4S hcx hi (A0z (0:Int) hj);have E:=fun k=>Af1.l5_eq k (A.length:Int) (q:Int) c p st ms A;simp only[if_pos (ltI.2 hq),if_pos (idxI.2 hq),Int.toNat_natCast,hg,A0x (show q<4611686018427387904 by omega)]at E;have huniq:∀ i' j',i'<c.length->j'<(fcs c i').length->q=off c i'+j'->i'=i/\j'=j:=fun i' j' hi' hj' e'=>by
     have g2:=A2x c hi' hj';rw[<-e',hA,hg]at g2;simp only[Prod.mk.injEq,Int.ofNat_inj]at g2;exact⟨g2.1.symm,g2.2.1.symm⟩
   by_cases hqm:q<ms.length
   . have hml:(ms.getD q (0,0,0,[])).2.2.2.length<4611686018427387904:=by
       have:(ms.getD q (0,0,0,[])).2.2.2.length≤1048576:=hms.2 _ (A0z _ hqm);omega
     obtain⟨v,hv,hv'⟩:=Ao8.val (ms.getD q (0,0,0,[])) p (st.getD ((fcs c i).getD j 0).toNat 0) (st.getD i 0) hml;have hst2:=hstalk.1;simp only[if_neg (show ¬ decide ((q:Int)≥(ms.length:Int))=true by simp only[decide_eq_true_eq];omega),if_pos (idxI.2 hqm),if_pos (show 0≤(fcs c i).getD j 0/\(fcs c i).getD j 0<(st.length:Int)by rw[hx];omega),if_pos (show 0≤(i:Int)/\(i:Int)<(st.length:Int)by omega),hv,Option.bind_some]at E;cases v with
     | true=>exact .inl ⟨⟨hqm,fun i' j' hi' hj' e'=>by obtain⟨rfl,rfl⟩:=huniq i' j' hi' hj' e';exact hv'.1 rfl⟩,fun k=>by rw[E];rfl⟩
     | false=>exact .inr ⟨fun hh=>absurd (hv'.2 (hh.2 i j hi hj e)) (by simp),fun k=>by rw[E];rfl⟩
   . exact .inr ⟨fun hh=>hqm hh.1,fun k=>by rw[E,if_pos (by simp only[decide_eq_true_eq];omega)]⟩) ((Ev.const _).succ fun k=>by rw[Af1.l5_eq,if_neg (by simp)]) 0 (Nat.zero_le _)
 refine⟨b,Af1.of _ _ _ _ (hb.of_eq fun k=>?_),hb'.trans ?_⟩
 . rw[Af1.T,h1,h2,h3,Ad9.val c hcx,hA];rfl
 . simp only[beq_iff_eq,Int.ofNat_inj];constructor
   . rintro⟨e,hall⟩;refine⟨hcx,h2'.1 rfl,hstalk,by omega,fun i hi j hj=>?_⟩;have:=A3j hi hj;exact(hall (off c i+j) (Nat.zero_le _) (by omega)).2 i j hi hj rfl
   . rintro⟨-,-,-,e,hall⟩;exact⟨by omega,fun q _ hq=>⟨by omega,fun i j hi hj e'=>e'▸hall i hi j hj⟩⟩
theorem Ai3.val (s:ShfV) (h:SheafOk s) {k i j:Nat} (hk:k<s.1.length) (h3:2<(s.1.getD k []).length) (hi:i<(s.1.getD k []).length) (hj:j<(s.1.getD k []).length) (hij:i≠j) :
   Ai3.F (s,(k:Int),(i:Int),(j:Int),())=some ((mulM (A0v s k i) (A0v s (fc s.1 k i) (if i<j then j-1 else j)),()),()):=by
 have hT:Ai3.F (s,(k:Int),(i:Int),(j:Int),())=Ai3.T s.1 s.2.1 s.2.2.1 s.2.2.2 (k:Int) (i:Int) (j:Int):=Ai3.eq _ _ _ _ _ _ _;have h4:=(h.1.2 k hk).1.1.2;have hcl:=h.1.1;rw[hT,Ai3.T,Aa2.val s.1 h.1 k hk];simp only[Option.bind_some];by_cases hlt:i<j
 . obtain⟨f,F⟩:=A6v h hk h3 hi (show j-1+1<_ by omega);have g1:Aa4.F ((s.1,(s.2.1,(s.2.2.1,s.2.2.2))),(k:Int),(i:Int),())=_:=Aa4.val s h k i hk F.ilt;have g2:Aa4.F ((s.1,(s.2.1,(s.2.2.1,s.2.2.2))),(f:Int),((j-1:Nat):Int),())=_:=Aa4.val s h f (j-1) F.lt F.jlt;rw[if_pos (idxI.2 F.ilt),if_pos (by simp only[decide_eq_true_eq];omega),g1,A5L (by omega) (by omega)];simp only[Option.bind_some,Int.toNat_natCast,F.at_,g2,F.tim];rw[if_pos hlt,F.fc_]
 . obtain⟨f,F⟩:=A6v h hk h3 hi (show j+1<_ by omega);have g1:Aa4.F ((s.1,(s.2.1,(s.2.2.1,s.2.2.2))),(k:Int),(i:Int),())=_:=Aa4.val s h k i hk F.ilt;have g2:Aa4.F ((s.1,(s.2.1,(s.2.2.1,s.2.2.2))),(f:Int),(j:Int),())=_:=Aa4.val s h f j F.lt F.jlt;rw[if_pos (idxI.2 F.ilt),if_neg (by simp only[decide_eq_true_eq];omega),g1];simp only[Option.bind_some,Int.toNat_natCast,F.at_,g2,F.tim];rw[if_neg hlt,F.fc_]
theorem Ab9.val (s:ShfV) (h:SheafOk s):Ab9.F (s,())=some ((match A1f s with|none=>(-1,0,0,())|some (k,i,j)=>((k:Int),(i:Int),(j:Int),())),()):=by
 have hcl:=h.1.1;have hT:∀ r,Ev (fun k=>Ab9.T k s.1 s.2.1 s.2.2.1 s.2.2.2) r->Ab9.F (s,())=some r:=fun r hr=>Ab9.of _ _ _ _ hr;have main:=Goes.find (R:=((Int×Int×Int×Unit)×Unit)) (L:=fun n k=>Ab9.l2 n s.1 s.2.1 s.2.2.1 s.2.2.2 (k:Int)) (M:=fun _=>some ((-1,0,0,()),())) (n:=s.1.length) 0 (A1e s) (fun t:Nat×Nat×Nat=>(((t.1:Int),(t.2.1:Int),(t.2.2:Int),()),())) (fun k _ hk=>by
   obtain⟨t,ht⟩:∃ t,s.1.getD k []=t:=⟨_,rfl⟩;have h4:=(h.1.2 k hk).1.1;rw[ht]at h4;have e0:Goes (fun n=>Ab9.l2 n s.1 s.2.1 s.2.2.1 s.2.2.2 (k:Int)) (fun n=>Ab9.l6 n s.1 s.2.1 s.2.2.1 s.2.2.2 (k:Int) (t.length:Int) ((0:Nat):Int)):=Goes.succ fun n=>by rw[Ab9.l2_eq,if_pos (ltI.2 hk),if_pos (idxI.2 hk)];simp only[Int.toNat_natCast,ht];rfl
   by_cases h3:t.length<3
   . exact .inl ⟨by rw[A1e,ht,if_pos h3],e0.trans (Goes.succ fun n=>by rw[Ab9.l6_eq,if_pos (by simp only[decide_eq_true_eq];omega),if_neg (by simp only[decide_eq_true_eq];omega),A0x (by omega)])⟩
   have hw:A1e s k=(List.range' 0 (t.length-0)).findSome? (A3F s k t.length):=by rw[A1e,ht,if_neg h3]
   rw[hw];have inner:=Goes.find (R:=((Int×Int×Int×Unit)×Unit)) (L:=fun n i=>Ab9.l6 n s.1 s.2.1 s.2.2.1 s.2.2.2 (k:Int) (t.length:Int) (i:Int)) (M:=fun n=>Ab9.l2 n s.1 s.2.1 s.2.2.1 s.2.2.2 ((k+1:Nat):Int)) (n:=t.length) 0 (A3F s k t.length) (fun t:Nat×Nat×Nat=>(((t.1:Int),(t.2.1:Int),(t.2.2:Int),()),())) (fun i _ hi=>by
     have e1:Goes (fun n=>Ab9.l6 n s.1 s.2.1 s.2.2.1 s.2.2.2 (k:Int) (t.length:Int) (i:Int)) (fun n=>Ab9.l9 n s.1 s.2.1 s.2.2.1 s.2.2.2 (k:Int) (t.length:Int) (i:Int) ((i+1:Nat):Int)):=Goes.succ fun n=>by rw[Ab9.l6_eq,if_pos (ltI.2 hi),if_pos (by simp only[decide_eq_true_eq];omega),A0x (by omega)]
     have deep:=Goes.find (R:=((Int×Int×Int×Unit)×Unit)) (L:=fun n j=>Ab9.l9 n s.1 s.2.1 s.2.2.1 s.2.2.2 (k:Int) (t.length:Int) (i:Int) (j:Int)) (M:=fun n=>Ab9.l6 n s.1 s.2.1 s.2.2.1 s.2.2.2 (k:Int) (t.length:Int) ((i+1:Nat):Int)) (n:=t.length) (i+1) (A2H s k i) (fun t:Nat×Nat×Nat=>(((t.1:Int),(t.2.1:Int),(t.2.2:Int),()),())) (fun j hij hj=>by
       have A:=Ai3.val s h hk (by rw[ht];omega) (show i<_ by rw[ht];omega) (show j<_ by rw[ht];omega) (by omega);have B:=Ai3.val s h hk (by rw[ht];omega) (show j<_ by rw[ht];omega) (show i<_ by rw[ht];omega) (by omega);rw[if_pos (by omega)]at A;rw[if_neg (by omega)]at B;have A:Ai3.F ((s.1,(s.2.1,(s.2.2.1,s.2.2.2))),(k:Int),(i:Int),(j:Int),())=some ((sqA s k i j,()),()):=A;have B:Ai3.F ((s.1,(s.2.1,(s.2.2.1,s.2.2.2))),(k:Int),(j:Int),(i:Int),())=some ((sqB s k i j,()),()):=B;obtain⟨f,F⟩:=A6v h hk (by rw[ht];omega) (show i<_ by rw[ht];omega) (show j-1+1<_ by rw[ht];omega);have hA:sqA s k i j=mulM (A0v s k i) (A0v s f (j-1)):=by rw[sqA,F.fc_]
       obtain⟨b,hb,hb'⟩:=Af0.same (sqA s k i j) (sqB s k i j) (by rw[hA];exact F.ok.small);have E2:=fun n=>Ab9.l9_eq n s.1 s.2.1 s.2.2.1 s.2.2.2 (k:Int) (t.length:Int) (i:Int) (j:Int);simp only[if_pos (ltI.2 hj),A,B,Option.bind_some,hb,A0x (show j<4611686018427387904 by omega)]at E2;cases b with
       | true=>exact .inl ⟨by rw[A2H,if_pos (hb'.1 rfl)],Goes.succ fun n=>by rw[E2,if_neg (by simp)]⟩
       | false=>exact .inr ⟨(k,i,j),by rw[A2H,if_neg (fun e=>absurd (hb'.2 e) (by simp))],(Ev.const _).succ fun n=>by rw[E2,if_pos (by simp)]⟩) (Goes.succ fun n=>by rw[Ab9.l9_eq,if_neg (by simp),A0x (by omega)]) (i+1) (Nat.le_refl _) (by omega)
     rcases deep with⟨d1,d2⟩|⟨r,d1,d2⟩
     . exact .inl ⟨d1,e1.trans d2⟩
     . exact .inr ⟨r,d1,e1 _ d2⟩) (Goes.succ fun n=>by rw[Ab9.l6_eq,if_neg (by simp),A0x (by omega)]) 0 (Nat.le_refl _) (Nat.zero_le _)
   rcases inner with⟨d1,d2⟩|⟨r,d1,d2⟩
   . exact .inl ⟨d1,e0.trans d2⟩
   . exact .inr ⟨r,d1,e0 _ d2⟩) (Goes.succ fun n=>by rw[Ab9.l2_eq,if_neg (by simp)]) 0 (Nat.le_refl _) (Nat.zero_le _)
 rcases main with⟨d1,d2⟩|⟨⟨k,i,j⟩,d1,d2⟩
 . rw[A1f,d1];exact hT _ ((d2 _ (Ev.const _)).of_eq fun n=>rfl)
 . rw[A1f,d1];exact hT _ (d2.of_eq fun n=>rfl)
def A1q (s:ShfV):Prop:=SheafOk s/\A1f s=none
theorem Af6.val (s:ShfV) (hs:SmSh s):∃ v,Af6.F (s,())=some ((v,()),())/\(v=true↔A1q s):=by
 have hT:Af6.F (s,())=Af6.T s.1 s.2.1 s.2.2.1 s.2.2.2:=Af6.eq _ _ _ _;obtain⟨v,hv,hv'⟩:=Af1.val s hs;have hv:Af1.F ((s.1,(s.2.1,(s.2.2.1,s.2.2.2))),())=_:=hv;rw[hT,Af6.T,hv];simp only[Option.bind_some];cases v with
 | false=>exact⟨false,by rw[if_pos (by simp)],by simp only[Bool.false_eq_true,false_iff];exact fun h=>absurd (hv'.2 h.1) (by simp)⟩
 | true =>
   have hok:=hv'.1 rfl;have hw:Ac2.F ((s.1,(s.2.1,(s.2.2.1,s.2.2.2))),())=_:=Ac2.val s hok;rw[if_neg (by simp),hw];simp only[Option.bind_some];cases hwt:A1f s with
   | none=>exact⟨true,rfl,by simp[A1q,hok,hwt]⟩
   | some t=>obtain⟨k,i,j⟩:=t;exact⟨false,rfl,by simp[A1q,hwt]⟩
theorem Ad1.val (s:ShfV) (hs:SmSh s):∃ v,Ad1.F (s,())=some ((v,()),())/\(v=true↔A1q s):=by
 have hT:Ad1.F (s,())=Ad1.T s.1 s.2.1 s.2.2.1 s.2.2.2:=Ad1.eq _ _ _ _;obtain⟨v,hv,hv'⟩:=Aa8.val s hs;have hv:Aa8.F ((s.1,(s.2.1,(s.2.2.1,s.2.2.2))),())=_:=hv;rw[hT,Ad1.T,hv];simp only[Option.bind_some];cases v with
 | false=>exact⟨false,by rw[if_pos (by simp)],by simp only[Bool.false_eq_true,false_iff];exact fun h=>absurd (hv'.2 h.1) (by simp)⟩
 | true =>
   have hok:=hv'.1 rfl;have hw:Ab9.F ((s.1,(s.2.1,(s.2.2.1,s.2.2.2))),())=_:=Ab9.val s hok;rw[if_neg (by simp),hw];simp only[Option.bind_some];cases hwt:A1f s with
   | none=>exact⟨true,rfl,by simp[A1q,hok,hwt]⟩
   | some t=>obtain⟨k,i,j⟩:=t;exact⟨false,by simp,by simp[A1q,hwt]⟩
def A0C (s:ShfV) (k:Int):Int:=sumL s.2.2.1 (A0B s.1 k s.1.length)
theorem Ac4.val' (s:ShfV) (h:SheafOk s) (k:Int) (hk:-1≤k/\k≤1000):Ac4.F (s,k,())=some ((A0C s k,()),()):=Ac4.val s.1 s.2.1 s.2.2.1 s.2.2.2 k hk (by have:=h.1.1;omega) h.2.2.1.1
theorem Ad4.val' (s:ShfV) (h:SheafOk s) (k:Int) (hk:-1≤k/\k≤1000):Ad4.F (s.1,s.2.2.1,k,())=some ((A0C s k,()),()):=Ad4.val s.1 s.2.2.1 k hk (by have:=h.1.1;omega) h.2.2.1.1
theorem A6f {s:ShfV} (h:SheafOk s) {k:Int} (hk:0≤k/\k≤3):A0C s k≤32:=by
 obtain⟨n,rfl⟩:=Int.eq_ofNat_of_zero_le hk.1;exact h.2.2.1.2.2 n (by omega)
def psum (c:List (List Int)) (st:List Int) (d:Int):Nat->Int
 | 0=>0
 | i+1=>psum c st d i+if ((c.getD i []).length:Int)=d+1 then st.getD i 0 else 0
theorem A4F {c:List (List Int)} {st:List Int} {d:Int} (ha:A0N 0 3 st) {i:Nat} (hi:i<st.length):psum c st d i≤psum c st d (i+1)/\psum c st d (i+1)≤psum c st d i+3:=by
 have:=A0D ha hi;simp only[psum];split<;>omega
theorem A1u {c:List (List Int)} {st:List Int} {d:Int} (ha:A0N 0 3 st):∀ i,i≤st.length->0≤psum c st d i/\psum c st d i≤3*(i:Int):=by
 intro i;induction i with
 | zero=>intro _;simp[psum]
 | succ i ih=>intro h;have:=ih (by omega);have:=A4F (c:=c) (d:=d) ha (show i<st.length by omega);omega
theorem A3A {c:List (List Int)} {st:List Int} {d:Int} (ha:A0N 0 3 st) {i j:Nat} (h:i≤j) (hj:j≤st.length):psum c st d i≤psum c st d j:=by
 induction h with
 | refl=>exact Int.le_refl _
 | @step m h ih =>
   have h1:=A4F (c:=c) (d:=d) ha (show m<st.length by omega);have h2:=ih (by omega);exact Int.le_trans h2 h1.1
theorem A2D {c:List (List Int)} {st:List Int} {d:Int} (ha:A0N 0 3 st):∀ i,i≤st.length->i≤1000->sumL st (A0B c d i)=psum c st d i:=by
 intro i;induction i with
 | zero=>intro _ _;rfl
 | succ i ih =>
   intro h h2;have e:=ih (by omega) (by omega);have b:=A1u (c:=c) (d:=d) ha i (by omega);have g:=A0D ha (show i<st.length by omega);rw[A1F];by_cases hd:((c.getD i []).length:Int)=d+1
   . rw[if_pos (by rw[beq_iff_eq];exact hd)];simp only[psum,sumL,List.foldl_append,List.foldl_cons,List.foldl_nil,Int.toNat_natCast];rw[if_pos hd,show List.foldl (fun acc (j:Int)=>IntKind.i64.wrap (acc+st.getD j.toNat 0)) 0 (A0B c d i)=sumL st (A0B c d i)from rfl,e,A0j (by omega) (by omega)]
   . rw[if_neg (by rw[beq_iff_eq];exact hd)];simp only[psum];rw[if_neg hd,e];omega
theorem A2y {s:ShfV} (h:SheafOk s) (k:Int):A0C s k=psum s.1 s.2.2.1 k s.1.length:=by
 have h1:=h.2.2.1.1;have h2:=h.1.1;exact A2D h.2.2.1.2.1 _ (by omega) (by omega)
theorem A5n {c:List (List Int)} {st:List Int} {d:Int}:∀ i,(∀ j,j<i->((c.getD j []).length:Int)≠d+1)->psum c st d i=0:=by
 intro i;induction i with
 | zero=>intro _;rfl
 | succ i ih=>intro h;simp only[psum];rw[if_neg (h i (by omega)),ih fun j hj=>h j (by omega)];rfl
theorem A0P {s:ShfV} (h:SheafOk s) (k:Int):0≤A0C s k/\A0C s k≤32:=by
 have h1:=h.2.2.1.1;have e:=A2y h k;refine⟨by rw[e];exact(A1u h.2.2.1.2.1 _ (by omega)).1,?_⟩;by_cases hk:0≤k/\k≤3
 . exact A6f h hk
 . rw[e,A5n _ fun j hj=>?_]
   . omega
   . have:=(h.1.2 j hj).1.1;omega
def A0T (s:ShfV) (h:Nat):Int:=psum s.1 s.2.2.1 (((s.1.getD h []).length:Int)-1) h
theorem A1R {s:ShfV} (h:SheafOk s) {n:Nat} (hn:n<s.1.length):0≤A0T s n/\A0T s n+s.2.2.1.getD n 0≤A0C s (((s.1.getD n []).length:Int)-1):=by
 have h1:=h.2.2.1.1;have ha:=h.2.2.1.2.1;refine⟨(A1u ha _ (by omega)).1,?_⟩;have:=A3A (c:=s.1) (d:=((s.1.getD n []).length:Int)-1) ha (show n+1≤s.1.length by omega) (by omega);simp only[psum]at this;rw[if_pos (by omega)]at this;rw[A2y h];exact this
theorem A4b {c:List (List Int)} {d:Int} {h n:Nat} (hn:h<n) (hd:((c.getD h []).length:Int)=d+1):∃ rest,A0B c d n=A0B c d h++((h:Int)::rest):=by
 induction n with
 | zero=>omega
 | succ n ih =>
   rw[A1F];by_cases hh:h=n
   . subst hh;exact⟨[],by rw[if_pos (by rw[beq_iff_eq];exact hd)]⟩
   . obtain⟨rest,hr⟩:=ih (by omega);split
     . exact⟨rest++[(n:Int)],by rw[hr];simp⟩
     . exact⟨rest,hr⟩
theorem Af2.val (s:ShfV) (h:SheafOk s) (n:Nat) (hn:n<s.1.length):Af2.F (s,(n:Int),())=some ((A0T s n,()),()):=by
 have hcl:=h.1.1;have hsl:=h.2.2.1.1;have ha:=h.2.2.1.2.1;have h4:=(h.1.2 n hn).1.1;obtain⟨d,hd⟩:∃ d:Int,d=((s.1.getD n []).length:Int)-1:=⟨_,rfl⟩;obtain⟨rest,hr⟩:=A4b (c:=s.1) (d:=d) hn (by omega);have hT:∀ r,Ev (fun k=>Af2.T k s.1 s.2.1 s.2.2.1 s.2.2.2 (n:Int)) r->Af2.F (s,(n:Int),())=some r:=fun r hr=>Af2.of _ _ _ _ _ hr;refine hT _ (Ev.of_eq (N:=fun k=>Af2.l3 k (n:Int) 0 (((A0B s.1 d s.1.length).length:Nat):Int) ((0:Nat):Int) s.1 s.2.1 s.2.2.1 s.2.2.2 (A0B s.1 d s.1.length)) ?_ fun k=>?_)
 . have hpl:=A0M s.1 d n;have hfull:=A0M s.1 d s.1.length;have hlen:(A0B s.1 d s.1.length).length=(A0B s.1 d n).length+(rest.length+1):=by rw[hr];simp
   have hg:=Goes.foldl (L:=fun k i (x:Int)=>Af2.l3 k (n:Int) x (((A0B s.1 d s.1.length).length:Nat):Int) (i:Int) s.1 s.2.1 s.2.2.1 s.2.2.2 (A0B s.1 d s.1.length)) (A0B s.1 d n) 0 (fun acc j=>IntKind.i64.wrap (acc+s.2.2.1.getD j.toNat 0)) (fun k i x hi=>by
     obtain⟨j,hj,hjn⟩:=A3v (A0z (0:Int) hi);have e:(A0B s.1 d s.1.length).getD i 0=(j:Int):=by
       rw[hr,List.getD_eq_getElem?_getD,List.getElem?_append_left hi,<-List.getD_eq_getElem?_getD,hj]
     rw[Af2.l3_eq,if_pos (by simp only[decide_eq_true_eq];omega),if_pos (by omega)];simp only[Int.toNat_natCast,e];rw[if_neg (by simp only[beq_iff_eq];omega),if_pos (by omega),A0x (by omega),hj];simp only[Int.toNat_natCast]) 0
   refine hg _ ((Ev.const _).succ fun k=>?_);have e:(A0B s.1 d s.1.length).getD (A0B s.1 d n).length 0=(n:Int):=by
     rw[hr,List.getD_eq_getElem?_getD,List.getElem?_append_right (Nat.le_refl _),Nat.sub_self];rfl
   rw[Af2.l3_eq,if_pos (by simp only[decide_eq_true_eq];omega),if_pos (by omega)];simp only[Int.toNat_natCast,e];rw[if_pos (by simp),show List.foldl (fun acc (j:Int)=>IntKind.i64.wrap (acc+s.2.2.1.getD j.toNat 0)) 0 (A0B s.1 d n)=sumL s.2.2.1 (A0B s.1 d n)from rfl,A2D ha _ (by omega) (by omega),A0T,hd]
 . rw[Af2.T,if_pos (idxI.2 hn),Ac6.eq,Ac6.T];simp only[Option.bind_some,Int.toNat_natCast];rw[A0j (x:=((s.1.getD n []).length:Int)-1) (by omega) (by omega),<-hd,Ae1.val s.1 d (by omega) (by omega)];rfl
theorem Ag2.val (s:ShfV) (h:SheafOk s) (n:Nat) (hn:n<s.1.length):Ag2.F (s,(n:Int),())=some ((A0T s n,()),()):=by
 have hcl:=h.1.1;have hsl:=h.2.2.1.1;have ha:=h.2.2.1.2.1;have hT:∀ r,Ev (fun k=>Ag2.T k s.1 s.2.1 s.2.2.1 s.2.2.2 (n:Int)) r->Ag2.F (s,(n:Int),())=some r:=fun r hr=>Ag2.of _ _ _ _ _ hr;obtain⟨d,hd⟩:∃ d:Int,d=((s.1.getD n []).length:Int)-1:=⟨_,rfl⟩;obtain⟨x,hx,hg⟩:=Goes.loop (R:=((Int×Unit)×Unit)) (fun k i (x:Int)=>Ag2.l3 k s.1 s.2.1 s.2.2.1 s.2.2.2 (n:Int) x (i:Int)) n (fun i x=>x=psum s.1 s.2.2.1 d i) (fun i x hi h2=>⟨_,rfl,Goes.succ fun k=>by
   have b:=A1u (c:=s.1) (d:=d) ha i (by omega);have g:=A0D ha (show i<s.2.2.1.length by omega);rw[Ag2.l3_eq,if_pos (ltI.2 hi),if_pos (by omega),if_pos (by omega)];simp only[Int.toNat_natCast];simp only[psum];by_cases hh:(s.1.getD i []).length=(s.1.getD n []).length
   . rw[if_pos (by simp only[beq_iff_eq];omega),if_pos (by omega),A0x (by omega),h2,A0j (by omega) (by omega),if_pos (by omega)]
   . rw[if_neg (by simp only[beq_iff_eq];omega),A0x (by omega),h2,if_neg (by omega),Int.add_zero]⟩) 0 0 (Nat.zero_le _) rfl
 refine hT _ ((hg _ ((Ev.const _).succ fun k=>?_)).of_eq fun k=>rfl);rw[Ag2.l3_eq,if_neg (by simp),hx,A0T,hd]
def zeroM (p:Int) (R C:Nat):MatV:=(p,(R:Int),(C:Int),List.replicate (R*C) 0)
theorem Ap5.val (p:Int) (R C:Nat) (hR:R≤32) (hC:C≤32):Ap5.F (p,(R:Int),(C:Int),())=some ((zeroM p R C,()),()):=by
 rw[Ap5.eq,Ap5.T,Ab4.val p R C _ (fun _ _=>0) hR hC (fun i j _ _=>by
   show(As8.F ((i:Int),(j:Int),())).map (·.1)=_;rw[As8.eq,As8.T];rfl)]
 simp only[Option.bind_some,zeroM];rw[A3Z (R:=R) (C:=C) (g:=fun _ _=>0) (ys:=List.replicate (R*C) 0) (by simp) fun i j hi hj=>by
   have:=A5G hi hj;simp[List.getD_eq_getElem?_getD,List.getElem?_replicate,this]]
def wr (ws:List (Nat×Int)) (x:List Int):List Int:=ws.foldl (fun x w=>x.set w.1 w.2) x
theorem A2G (ws:List (Nat×Int)):∀ x,(wr ws x).length=x.length:=by
 induction ws with
 | nil=>intro x;rfl
 | cons w ws ih=>intro x;show(wr ws (x.set w.1 w.2)).length=_;rw[ih];simp
theorem A6D (ws vs:List (Nat×Int)) (x:List Int):wr (ws++vs) x=wr vs (wr ws x):=by simp[wr,List.foldl_append]
theorem wr_all {P:Int->Prop} (ws:List (Nat×Int)):∀ x:List Int,(∀ w∈ws,P w.2)->(∀ a∈x,P a)->∀ a∈wr ws x,P a:=by
 induction ws with
 | nil=>intro x _ h;exact h
 | cons w ws ih =>
   intro x hw hx;refine ih (x.set w.1 w.2) (fun v hv=>hw v (by simp[hv])) fun a ha=>?_;rcases List.mem_or_eq_of_mem_set ha with h|h
   . exact hx a h
   . rw[h];exact hw w (by simp)
theorem Goes.writes {R:Type} (L:Nat->Nat->List Int->Option R) (n Z:Nat) (w:Nat->List (Nat×Int)) (hstep:∀ i x,i<n->x.length=Z->Goes (fun k=>L k i x) (fun k=>L k (i+1) (wr (w i) x))) (x:List Int) (hx:x.length=Z) :
   Goes (fun k=>L k 0 x) (fun k=>L k n (wr ((List.range n).flatMap w) x)):=by
 obtain⟨y,hy,hg⟩:=Goes.loop (R:=R) L n (fun i y=>y=wr ((List.range i).flatMap w) x) (fun i y hi h=>⟨_,rfl,by
   have:=hstep i y hi (by rw[h,A2G,hx]);rw[List.range_succ,List.flatMap_append,A6D,<-h];simpa using this⟩) 0 x (Nat.zero_le _) rfl
 rw[<-hy];exact hg
def sgn (p:Int) (i:Nat):Int:=if i%2=0 then 1 else p-1
theorem A7z {p:Int} (hp:2≤p/\p≤251) (i:Nat):0≤sgn p i/\sgn p i≤p-1:=by unfold sgn;split<;>omega
theorem Ao4.val (i:Nat) (p:Int) (hp:2≤p/\p≤251):Ao4.F ((i:Int),p,())=some ((sgn p i,()),()):=by
 have e:(i:Int).tmod 2=((i%2:Nat):Int):=by rw[A2U (by omega)];omega
 rw[Ao4.eq,Ao4.T,if_neg (by omega),e,sgn];by_cases h:i%2=0
 . rw[if_pos (by simp[h]),if_pos h]
 . rw[if_neg (by simp only[beq_iff_eq];omega),if_neg h,A0j (by omega) (by omega)]
theorem Aq4.val (i:Nat) (p:Int) (hp:2≤p/\p≤251):Aq4.F ((i:Int),p,())=some ((sgn p i,()),()):=by
 have e:(i:Int).tmod 2=((i%2:Nat):Int):=by rw[A2U (by omega)];omega
 rw[Aq4.eq,Aq4.T,if_neg (by omega),e,sgn];by_cases h:i%2=0
 . rw[if_pos (by simp[h]),if_neg (by omega),if_pos h,A2U (by omega),Int.emod_eq_of_lt (by omega) (by omega)]
 . rw[if_neg (by simp only[beq_iff_eq];omega),if_neg h,A0j (by omega) (by omega)]
def A2K (s:ShfV) (W h i a:Nat):List (Nat×Int):=(List.range (A0v s h i).2.2.1.toNat).map fun b=>(((A0T s h).toNat+a)*W+(A0T s (fc s.1 h i)).toNat+b,((A0v s h i).2.2.2.getD (a*(A0v s h i).2.2.1.toNat+b) 0*sgn s.2.1 i)%s.2.1)
def A3G (s:ShfV) (W h i:Nat):List (Nat×Int):=(List.range (A0v s h i).2.1.toNat).flatMap (A2K s W h i)
def A3T (s:ShfV) (W h:Nat):List (Nat×Int):=(List.range (fcs s.1 h).length).flatMap (A3G s W h)
def cobW (s:ShfV) (k:Int):List (Nat×Int):=if k<0 then[]else(List.range (A0B s.1 (k+1) s.1.length).length).flatMap fun n=>A3T s (A0C s k).toNat ((A0B s.1 (k+1) s.1.length).getD n 0).toNat
def cobM (s:ShfV) (k:Int):MatV:=(s.2.1,A0C s (k+1),A0C s k,wr (cobW s k) (List.replicate ((A0C s (k+1)).toNat*(A0C s k).toNat) 0))
theorem A2c (n:Nat) (f:Nat->Nat×Int):(List.range n).map f=(List.range n).flatMap fun b=>[f b]:=by induction n with
 | zero=>rfl
 | succ n ih=>rw[List.range_succ,List.map_append,List.flatMap_append,ih];rfl
theorem A2J {s:ShfV} (h:SheafOk s) (k:Int):MatOk (cobM s k):=by
 have hp:=h.2.1;obtain⟨a1,a2⟩:=A0P h (k+1);obtain⟨b1,b2⟩:=A0P h k;refine⟨hp,⟨a1,a2⟩,⟨b1,b2⟩,?_,?_⟩
 . simp only[cobM,A2G,List.length_replicate];obtain⟨x,hx⟩:=Int.eq_ofNat_of_zero_le a1;obtain⟨y,hy⟩:=Int.eq_ofNat_of_zero_le b1;rw[hx,hy];simp
 . refine wr_all (P:=fun a=>0≤a/\a≤s.2.1-1) _ _ (fun w hw=>?_) fun a ha=>?_
   . unfold cobW at hw;split at hw
     . cases hw
     . simp only[List.mem_flatMap,A3T,A3G,A2K,List.mem_map]at hw;obtain⟨_,_,_,_,_,_,_,_,rfl⟩:=hw;exact A2d hp.1.1
   . have:=(List.mem_replicate.1 ha).2;have:=hp.1.1;omega
structure Blk (s:ShfV) (k:Int) (h i:Nat) (f R C W H T L:Nat):Prop where
 at_:(fcs s.1 h).getD i 0=(f:Int)
 flt:f<s.1.length
 fc_:fc s.1 h i=f
 rows:(A0v s h i).2.1=(R:Int)
 cols:(A0v s h i).2.2.1=(C:Int)
 cells:(A0v s h i).2.2.2.length=R*C
 el:A0N 0 (s.2.1-1) (A0v s h i).2.2.2
 prime:(A0v s h i).1=s.2.1
 top:A0T s h=(T:Int)
 left:A0T s f=(L:Int)
 bT:T+R≤H
 bL:L+C≤W
 bH:H≤32
 bW:W≤32
theorem blk {s:ShfV} (ho:SheafOk s) {k:Int} {h i:Nat} (hh:h<s.1.length) (hd:((s.1.getD h []).length:Int)=k+2) (hi:i<(fcs s.1 h).length):∃ f R C T L,Blk s k h i f R C (A0C s k).toNat (A0C s (k+1)).toNat T L:=by
 obtain⟨f,h1,h2,h4,h5,h6⟩:=A3Y ho.1 hh hi;have m1:=A0r ho hh hi;obtain⟨R,C,r1,r2,r3,r4,r5,r6,r7⟩:=m1.1.nat;have hfl:(s.1.getD f []).length=(s.1.getD h []).length-1:=by rw[h4];exact A0L h5
 obtain⟨a1,a2⟩:=A1R ho hh;obtain⟨b1,b2⟩:=A1R ho h2;obtain⟨T,hT⟩:=Int.eq_ofNat_of_zero_le a1;obtain⟨L,hL⟩:=Int.eq_ofNat_of_zero_le b1;obtain⟨c1,c2⟩:=A0P ho k;obtain⟨d1,d2⟩:=A0P ho (k+1);rw[show((s.1.getD h []).length:Int)-1=k+1 by omega]at a2;rw[show((s.1.getD f []).length:Int)-1=k by omega]at b2;have eR:s.2.2.1.getD h 0=(R:Int):=by rw[<-m1.2.2.1,r1]
 have eC:s.2.2.1.getD f 0=(C:Int):=by rw[<-r2,m1.2.2.2,h1];rfl
 exact⟨f,R,C,T,L,h1,h2,by rw[fc,h1,Int.toNat_natCast],r1,r2,r5,by rw[<-m1.2.1];exact r7,m1.2.1,hT,hL,by omega,by omega,by omega,by omega⟩
theorem A6n {T L W H R C a b:Nat} (bT:T+R≤H) (bL:L+C≤W) (bH:H≤32) (bW:W≤32) (ha:a<R) (hb:b<C) :
   IntKind.i64.wrap ((IntKind.i64.wrap ((IntKind.i64.wrap ((IntKind.i64.wrap ((T:Int)+(a:Int)))*(W:Int)))+(L:Int)))+(b:Int))=(((T+a)*W+L+b:Nat):Int)/\(T+a)*W+L+b<H*W:=by
 have h1:=A5G (R:=H) (C:=W) (show T+a<H by omega) (show L+b<W by omega);have h2:H*W≤32*32:=Nat.mul_le_mul bH bW;have e:((T+a:Nat):Int)*(W:Int)=(((T+a)*W:Nat):Int):=by simp
 refine⟨?_,by omega⟩;rw[A0j (x:=(T:Int)+(a:Int)) (by omega) (by omega),show(T:Int)+(a:Int)=((T+a:Nat):Int)by omega,e,A0j (x:=(((T+a)*W:Nat):Int)) (by omega) (by omega),A0j (x:=(((T+a)*W:Nat):Int)+(L:Int)) (by omega) (by omega),A0j (by omega) (by omega)];omega
theorem A3d {c:List (List Int)} {d:Int} {n m:Nat} (h:m<(A0B c d n).length):∃ j:Nat,(A0B c d n).getD m 0=(j:Int)/\j<n/\((c.getD j []).length:Int)=d+1:=by
 have hm:=A0z (0:Int) h;simp only[A0B,List.mem_map,List.mem_filter,List.mem_range,beq_iff_eq]at hm;obtain⟨j,⟨h1,h2⟩,h3⟩:=hm;exact⟨j,h3.symm,h1,h2⟩
theorem Aa5.val (s:ShfV) (ho:SheafOk s) (k:Int) (hk:-1≤k/\k≤10):Aa5.F (s,k,())=some ((cobM s k,()),()):=by
 have hcl:=ho.1.1;have hp:=ho.2.1.1;obtain⟨c1,c2⟩:=A0P ho k;obtain⟨d1,d2⟩:=A0P ho (k+1);obtain⟨W,hW⟩:∃ W,(A0C s k).toNat=W:=⟨_,rfl⟩;obtain⟨H,hH⟩:∃ H,(A0C s (k+1)).toNat=H:=⟨_,rfl⟩;have eW:A0C s k=(W:Int):=by omega
 have eH:A0C s (k+1)=(H:Int):=by omega
 obtain⟨hs,ehs⟩:∃ hs,A0B s.1 (k+1) s.1.length=hs:=⟨_,rfl⟩;have hsl:hs.length≤48:=by rw[<-ehs];have:=A0M s.1 (k+1) s.1.length;omega
 have hsat:∀ m,m<hs.length->∃ j:Nat,hs.getD m 0=(j:Int)/\j<s.1.length/\((s.1.getD j []).length:Int)=k+2:=fun m hm=>by
   rw[<-ehs]at hm ⊢;obtain⟨j,a,b,c⟩:=A3d hm;exact⟨j,a,b,by omega⟩
 have hT:∀ r,Ev (fun n=>Aa5.T n s.1 s.2.1 s.2.2.1 s.2.2.2 k) r->Aa5.F (s,k,())=some r:=fun r hr=>Aa5.of _ _ _ _ _ hr;have w1:IntKind.i64.wrap (k+1)=k+1:=A0j (by omega) (by omega);have g1:Ac4.F ((s.1,(s.2.1,(s.2.2.1,s.2.2.2))),k+1,())=_:=Ac4.val' s ho (k+1) (by omega);have g2:Ac4.F ((s.1,(s.2.1,(s.2.2.1,s.2.2.2))),k,())=_:=Ac4.val' s ho k (by omega);have g3:=Ae1.val s.1 (k+1) (by omega) (by omega);rw[ehs]at g3;have hM:cobM s k=(s.2.1,(H:Int),(W:Int),wr (cobW s k) (List.replicate (H*W) 0)):=by rw[cobM,eH,eW];simp only[Int.toNat_natCast]
 rw[hM];refine hT _ (Ev.of_eq (N:=fun n=>Aa5.l3 n k (hs.length:Int) ((0:Nat):Int) s.1 s.2.1 s.2.2.1 s.2.2.2 0 0 0 [] s.2.1 (H:Int) (W:Int) (List.replicate (H*W) 0) hs) ?_ fun n=>?_)
 . by_cases hneg:k<0
   . have:cobW s k=[]:=by rw[cobW,if_pos hneg]
     rw[this];refine(Ev.const _).succ fun n=>?_;rw[Aa5.l3_eq];by_cases h0:0<hs.length
     . rw[if_pos (ltI.2 h0),if_pos (idxI.2 h0),if_pos (by simp only[decide_eq_true_eq];exact hneg)];rfl
     . rw[if_neg (by simp only[decide_eq_true_eq];omega)];rfl
   . have:cobW s k=(List.range hs.length).flatMap fun n=>A3T s W (hs.getD n 0).toNat:=by rw[cobW,if_neg hneg,ehs,hW]
     rw[this];have main:=Goes.writes (R:=((MatV×Unit)×Unit)) (fun n m x=>Aa5.l3 n k (hs.length:Int) (m:Int) s.1 s.2.1 s.2.2.1 s.2.2.2 0 0 0 [] s.2.1 (H:Int) (W:Int) x hs) hs.length (H*W) (fun n=>A3T s W (hs.getD n 0).toNat) (fun m x hm hx=>by
       obtain⟨h,e1,e2,e3⟩:=hsat m hm;have f4:(fcs s.1 h).length≤4:=by have:=A1S ho.1 e2;simp only[fcs,List.length_map];exact this
       have E3 := fun n=>Aa5.l3_eq n k (hs.length:Int) (m:Int) s.1 s.2.1 s.2.2.1 s.2.2.2 0 0 0 [] s.2.1 (H:Int) (W:Int) x hs;simp only[if_pos (ltI.2 hm),if_pos (idxI.2 hm),if_neg (show ¬ decide (k<0)=true by simp only[decide_eq_true_eq];exact hneg),Int.toNat_natCast,e1,Ab0.val s.1 ho.1 h e2,Option.bind_some]at E3;refine(Goes.succ E3).trans ?_;rw[e1,Int.toNat_natCast];refine(Goes.writes (R:=((MatV×Unit)×Unit)) (fun n i x=>Aa5.l7 n k (h:Int) (hs.length:Int) (m:Int) ((fcs s.1 h).length:Int) (i:Int) s.1 s.2.1 s.2.2.1 s.2.2.2 0 0 0 [] s.2.1 (H:Int) (W:Int) x hs (fcs s.1 h)) (fcs s.1 h).length (H*W) (A3G s W h) (fun i x hi hx=>by
         obtain⟨f,R,C,T,L,B⟩:=blk ho e2 e3 hi;rw[hW,hH]at B;have q1:Ab3.F ((s.1,(s.2.1,(s.2.2.1,s.2.2.2))),(h:Int),(i:Int),())=_:=Ab3.val s ho h i e2 hi;have q2:Af2.F ((s.1,(s.2.1,(s.2.2.1,s.2.2.2))),(h:Int),())=_:=Af2.val s ho h e2;have q3:Af2.F ((s.1,(s.2.1,(s.2.2.1,s.2.2.2))),(f:Int),())=_:=Af2.val s ho f B.flt;rw[B.top]at q2;rw[B.left]at q3;have E7:=fun n=>Aa5.l7_eq n k (h:Int) (hs.length:Int) (m:Int) ((fcs s.1 h).length:Int) (i:Int) s.1 s.2.1 s.2.2.1 s.2.2.2 0 0 0 [] s.2.1 (H:Int) (W:Int) x hs (fcs s.1 h);simp only[if_pos (ltI.2 hi),if_pos (idxI.2 hi),Int.toNat_natCast,B.at_,q1,q2,q3,Option.bind_some,B.rows,B.cols,B.prime]at E7;refine(Goes.succ E7).trans ?_;have ew:A3G s W h i=(List.range R).flatMap (A2K s W h i):=by rw[A3G,B.rows,Int.toNat_natCast]
         rw[ew];refine(Goes.writes (R:=((MatV×Unit)×Unit)) (fun n a x=>Aa5.l12 n k (h:Int) (i:Int) (T:Int) (L:Int) (hs.length:Int) (m:Int) ((fcs s.1 h).length:Int) (i:Int) (R:Int) (a:Int) s.1 s.2.1 s.2.2.1 s.2.2.2 0 0 0 [] s.2.1 (H:Int) (W:Int) x s.2.1 (R:Int) (C:Int) (A0v s h i).2.2.2 hs (fcs s.1 h)) R (H*W) (A2K s W h i) (fun a x ha hx=>by
           refine(Goes.succ fun n=>by rw[Aa5.l12_eq,if_pos (ltI.2 ha)]).trans ?_;have ew3:A2K s W h i a=(List.range C).flatMap fun b=>[((T+a)*W+L+b,((A0v s h i).2.2.2.getD (a*C+b) 0*sgn s.2.1 i)%s.2.1)]:=by
             rw[A2K,B.cols,B.top,B.fc_,B.left];simp only[Int.toNat_natCast];exact A2c _ _
           rw[ew3];refine(Goes.writes (R:=((MatV×Unit)×Unit)) (fun n b x=>Aa5.l15 n k (h:Int) (i:Int) (T:Int) (L:Int) (a:Int) (hs.length:Int) (m:Int) ((fcs s.1 h).length:Int) (i:Int) (R:Int) (a:Int) (C:Int) (b:Int) s.1 s.2.1 s.2.2.1 s.2.2.2 0 0 0 [] s.2.1 (H:Int) (W:Int) x s.2.1 (R:Int) (C:Int) (A0v s h i).2.2.2 hs (fcs s.1 h)) C (H*W) (fun b=>[((T+a)*W+L+b,((A0v s h i).2.2.2.getD (a*C+b) 0*sgn s.2.1 i)%s.2.1)]) (fun b x hb hx=>Goes.succ fun n=>by
             obtain⟨p1,p2⟩:=A6n B.bT B.bL B.bH B.bW ha hb;have bT:=B.bT;have bL:=B.bL;have bH:=B.bH;have bW:=B.bW;obtain⟨e5,e6⟩:=A1P (show R≤32 by omega) (show C≤32 by omega) ha hb;have hce:=B.cells;have hel:=A2X hp (A0D B.el (show a*C+b<(A0v s h i).2.2.2.length by omega)) (A7z hp i);have hat:Aj5.F ((s.2.1,((R:Int),((C:Int),(A0v s h i).2.2.2))),(a:Int),(b:Int),())=some (((A0v s h i).2.2.2.getD (a*C+b) 0,()),()):=by
               rw[Aj5.eq,Aj5.T,e5,if_pos (by omega)];rfl
             rw[Aa5.l15_eq,if_pos (ltI.2 hb),hat];simp only[Option.bind_some,Ao4.val i s.2.1 hp,p1];rw[if_neg (by omega),if_pos (by omega),A0x (by omega)];simp only[Int.toNat_natCast];rw[A0j (x:=(A0v s h i).2.2.2.getD (a*C+b) 0*sgn s.2.1 i) (by omega) (by omega),A2U (by omega)];rfl) x hx).trans (Goes.succ fun n=>by
               have bT:=B.bT;have bH:=B.bH;rw[Aa5.l15_eq,if_neg (by simp),A0x (by omega)])) x hx).trans (Goes.succ fun n=>by rw[Aa5.l12_eq,if_neg (by simp),A0x (by omega)])) x hx).trans (Goes.succ fun n=>by rw[Aa5.l7_eq,if_neg (by simp),A0x (by omega)];rfl)) (List.replicate (H*W) 0) (by simp)
     refine main _ ((Ev.const _).succ fun n=>?_);rw[Aa5.l3_eq,if_neg (by simp)]
 . rw[Aa5.T,w1,g1,g2,eH,eW];simp only[Option.bind_some];rw[Ap5.val s.2.1 H W (by omega) (by omega),g3];rfl
def A1W (acc:Int) (ws:List (Nat×Int)) (i:Nat):Int:=ws.foldl (fun acc w=>if w.1=i then w.2 else acc) acc
theorem A6E (ws:List (Nat×Int)):∀ (x:List Int) (i:Nat),i<x.length->(wr ws x).getD i 0=A1W (x.getD i 0) ws i:=by
 induction ws with
 | nil=>intro x i _;rfl
 | cons w ws ih =>
   intro x i hi;show(wr ws (x.set w.1 w.2)).getD i 0=A1W (if w.1=i then w.2 else x.getD i 0) ws i;rw[ih _ _ (by simpa using hi)];congr 1;simp only[List.getD_eq_getElem?_getD,List.getElem?_set];by_cases h:w.1=i
   . subst h;simp[hi]
   . simp[h]
theorem A1Z (acc:Int) (ws vs:List (Nat×Int)) (i:Nat):A1W acc (ws++vs) i=A1W (A1W acc ws i) vs i:=by simp[A1W,List.foldl_append]
theorem A3L {ws:List (Nat×Int)} {i:Nat} (h:∀ w∈ws,w.1≠i) (acc:Int):A1W acc ws i=acc:=by
 induction ws generalizing acc with
 | nil=>rfl
 | cons w ws ih =>
   show A1W (if w.1=i then w.2 else acc) ws i=acc;rw[if_neg (h w (by simp)),ih fun w hw=>h w (by simp[hw])]
theorem A1j {α:Type} (f:Nat->List α) (n:Nat):(List.range (n+1)).flatMap f=(List.range n).flatMap f++f n:=by
 rw[List.range_succ,List.flatMap_append];simp
theorem A4k {f:Nat->List (Nat×Int)} {x0 i:Nat}:∀ (n:Nat),x0<n->(∀ x,x<n->x≠x0->∀ w∈f x,w.1≠i)->∀ acc,A1W acc ((List.range n).flatMap f) i=A1W acc (f x0) i:=by
 intro n;induction n with
 | zero=>intro h;omega
 | succ n ih =>
   intro h0 hne acc;rw[A1j,A1Z];by_cases hx:x0=n
   . subst hx;rw[A3L (ws:=(List.range x0).flatMap f) fun w hw=>by
       simp only[List.mem_flatMap,List.mem_range]at hw;obtain⟨x,hx,hw⟩:=hw;exact hne x (by omega) (by omega) w hw]
   . rw[ih (by omega) (fun x hx=>hne x (by omega)) acc,A3L (hne n (by omega) fun e=>hx e.symm)]
theorem A4W {f g:Nat->List (Nat×Int)} {i j:Nat}:∀ (n:Nat),(∀ x,x<n->∀ acc,A1W acc (f x) i=A1W acc (g x) j)->∀ acc,A1W acc ((List.range n).flatMap f) i=A1W acc ((List.range n).flatMap g) j:=by
 intro n;induction n with
 | zero=>intro _ acc;rfl
 | succ n ih=>intro h acc;rw[A1j,A1j,A1Z,A1Z,ih (fun x hx=>h x (by omega)),h n (by omega)]
theorem A4X (o:Nat) {l:List Nat} (p:Nat->Nat) (v:Nat->Int) (i:Nat):∀ acc,A1W acc (l.map fun b=>(o+p b,v b)) (o+i)=A1W acc (l.map fun b=>(p b,v b)) i:=by
 induction l with
 | nil=>intro acc;rfl
 | cons b l ih =>
   intro acc;show A1W (if o+p b=o+i then v b else acc) _ _=A1W (if p b=i then v b else acc) _ _;rw[ih];by_cases h:p b=i
   . rw[if_pos h,if_pos (by omega)]
   . rw[if_neg h,if_neg (by omega)]
def cobR (s:ShfV) (h i a:Nat):List (Nat×Int):=(List.range (A0v s h i).2.2.1.toNat).map fun b=>((A0T s (fc s.1 h i)).toNat+b,((A0v s h i).2.2.2.getD (a*(A0v s h i).2.2.1.toNat+b) 0*sgn s.2.1 i)%s.2.1)
def rowC (s:ShfV) (W h a:Nat):List Int:=wr ((List.range (fcs s.1 h).length).flatMap fun i=>cobR s h i a) (List.replicate W 0)
theorem A6u {W r r' c c':Nat} (hc:c<W) (hc':c'<W) (h:r≠r'):r*W+c≠r'*W+c':=by
 intro e;rcases Nat.lt_or_gt_of_ne h with h|h
 . have:=Nat.mul_le_mul_right W (show r+1≤r' by omega);rw[Nat.add_mul,Nat.one_mul]at this;omega
 . have:=Nat.mul_le_mul_right W (show r'+1≤r by omega);rw[Nat.add_mul,Nat.one_mul]at this;omega
theorem A2h {s:ShfV} (ho:SheafOk s) {h h':Nat} (hlt:h<h') (hh:h'<s.1.length) (hd:(s.1.getD h []).length=(s.1.getD h' []).length):A0T s h+s.2.2.1.getD h 0≤A0T s h':=by
 have hsl:=ho.2.2.1.1;have:=A3A (c:=s.1) (d:=((s.1.getD h' []).length:Int)-1) ho.2.2.1.2.1 (show h+1≤h' by omega) (by omega);simp only[psum]at this;rw[if_pos (by omega)]at this;unfold A0T;rw[hd];exact this
theorem A1x {s:ShfV} (h:SheafOk s) {k:Nat} (hk:k<s.1.length):((s.2.2.1.getD k 0).toNat:Int)=s.2.2.1.getD k 0/\(s.2.2.1.getD k 0).toNat≤3:=by
 have:=A0D h.2.2.1.2.1 (i:=k) (by rw[h.2.2.1.1];exact hk);omega
theorem A5O {s:ShfV} (ho:SheafOk s) {k:Int} (hk:0≤k) {n h:Nat} (hn:n<(A0B s.1 (k+1) s.1.length).length) (hh:(A0B s.1 (k+1) s.1.length).getD n 0=(h:Int)) {a:Nat} (ha:a<(s.2.2.1.getD h 0).toNat) :
   rowL (cobM s k).2.2.2 (A0C s k).toNat ((A0T s h).toNat+a)=rowC s (A0C s k).toNat h a:=by
 obtain⟨D,hD⟩:∃ D,A0B s.1 (k+1) s.1.length=D:=⟨_,rfl⟩;obtain⟨W,hW⟩:∃ W,(A0C s k).toNat=W:=⟨_,rfl⟩;obtain⟨H,hH⟩:∃ H,(A0C s (k+1)).toNat=H:=⟨_,rfl⟩;have hat:∀ m,m<D.length->∃ j:Nat,D.getD m 0=(j:Int)/\j<s.1.length/\((s.1.getD j []).length:Int)=k+2:=fun m hm=>by
   rw[<-hD]at hm ⊢;obtain⟨j,q1,q2,q3⟩:=A3d hm;exact⟨j,q1,q2,by omega⟩
 have hinj:∀ m m',m<m'->m'<D.length->∀ j j':Nat,D.getD m 0=(j:Int)->D.getD m' 0=(j':Int)->j<j':=fun m m' hlt hm' j j' e e'=>by
   have hp:(A0B s.1 (k+1) s.1.length).Pairwise (·<·):=by
     unfold A0B;rw[List.pairwise_map];refine List.Pairwise.imp (fun h=>by omega) ((List.pairwise_lt_range (n:=s.1.length)).filter _)
   rw[hD]at hp;have:=List.pairwise_iff_getElem.1 hp m m' (by omega) hm' hlt;rw[<-A0y (d:=0),<-A0y (d:=0),e,e']at this;omega
 rw[hD]at hn hh;obtain⟨j0,e0,hhl,hdim⟩:=hat n hn;obtain rfl:j0=h:=by rw[hh]at e0;omega
 have hst:=A1x ho hhl;obtain⟨T0,T1⟩:=A1R ho hhl;rw[show((s.1.getD j0 []).length:Int)-1=k+1 by omega]at T1;have hrl:(A0T s j0).toNat+a<H:=by omega
 obtain⟨c1,c2⟩:=A0P ho k;have hlen:(cobM s k).2.2.2.length=H*W:=by
   show(wr _ _).length=_;rw[A2G,List.length_replicate,hW,hH]
 rw[hW];refine List.ext_getElem ?_ fun c hc1 hc2=>?_
 . rw[A0Y hlen hrl,rowC,A2G,List.length_replicate]
 . have hcW:c<W:=by rw[A0Y hlen hrl]at hc1;exact hc1
   rw[<-A0y (d:=0) hc1,<-A0y (d:=0) hc2,A0l hcW,rowC,A6E _ _ _ (by simpa using hcW)];have hidx:((A0T s j0).toNat+a)*W+c<H*W:=A5G hrl hcW;have e1:(cobM s k).2.2.2=wr (cobW s k) (List.replicate (H*W) 0):=by rw[cobM,hW,hH]
   rw[e1,A6E _ _ _ (by simpa using hidx)];have z1:(List.replicate (H*W) (0:Int)).getD (((A0T s j0).toNat+a)*W+c) 0=0:=by simp[List.getD_eq_getElem?_getD,List.getElem?_replicate,hidx]
   have z2:(List.replicate W (0:Int)).getD c 0=0:=by simp[List.getD_eq_getElem?_getD,List.getElem?_replicate,hcW]
   rw[z1,z2];have e2:cobW s k=(List.range D.length).flatMap fun n=>A3T s W (D.getD n 0).toNat:=by rw[cobW,if_neg (by omega),hD,hW]
   rw[e2];have wloc:∀ h',h'<s.1.length->((s.1.getD h' []).length:Int)=k+2->∀ i,i<(fcs s.1 h').length->∀ a' w,w∈A2K s W h' i a'->∃ c',c'<W/\w.1=((A0T s h').toNat+a')*W+c':=fun h' hh' hd' i hi a' w hw=>by
     obtain⟨f,R,C,T,L,B⟩:=blk ho hh' hd' hi;rw[hW]at B;simp only[A2K,List.mem_map,List.mem_range]at hw;obtain⟨b,hb,rfl⟩:=hw;rw[B.cols,Int.toNat_natCast]at hb;have:=B.bL;refine⟨(A0T s (fc s.1 h' i)).toNat+b,by rw[B.fc_,B.left,Int.toNat_natCast];omega,by simp only[];omega⟩
   rw[A4k D.length hn fun m hm hne w hw=>?_]
   . rw[hh,Int.toNat_natCast];unfold A3T;refine A4W _ (fun i hi acc=>?_) 0;obtain⟨f,R,C,T,L,B⟩:=blk ho hhl hdim hi;have haR:a<(A0v s j0 i).2.1.toNat:=by
       have:=(A0r ho hhl hi).2.2.1;rw[this];exact ha
     unfold A3G;rw[A4k _ haR fun a' _ hne w hw=>by
       obtain⟨c',h1,h2⟩:=wloc j0 hhl hdim i hi a' w hw;rw[h2];exact A6u h1 hcW (by omega)]
     unfold A2K cobR;have:=A4X (((A0T s j0).toNat+a)*W) (l:=List.range (A0v s j0 i).2.2.1.toNat) (fun b=>(A0T s (fc s.1 j0 i)).toNat+b) (fun b=>((A0v s j0 i).2.2.2.getD (a*(A0v s j0 i).2.2.1.toNat+b) 0*sgn s.2.1 i)%s.2.1) c acc;rw[<-this];congr 1;refine List.map_congr_left fun b _=>?_;rw[Nat.add_assoc]
   . obtain⟨j,q1,q2,q3⟩:=hat m hm;rw[q1,Int.toNat_natCast]at hw;simp only[A3T,A3G,List.mem_flatMap,List.mem_range]at hw;obtain⟨i,hi,a',ha',hw⟩:=hw;obtain⟨c',h1,h2⟩:=wloc j q2 q3 i hi a' w hw;rw[h2];refine A6u h1 hcW fun e=>?_;have hra:(a':Int)<s.2.2.1.getD j 0:=by
       have:=(A0r ho q2 hi).2.2.1;have hs2:=A1x ho q2;omega
     obtain⟨U0,U1⟩:=A1R ho q2;rcases Nat.lt_or_gt_of_ne hne with hlt|hlt
     . have:=A2h ho (hinj m n hlt hn j j0 q1 hh) hhl (by omega);omega
     . have:=A2h ho (hinj n m hlt hm j0 j hh q1) q2 (by omega);omega
theorem Goes.push {A R:Type} (L:Nat->Nat->List A->Option R) (n:Nat) (f:Nat->A) (hstep:∀ i s,i<n->s.length=i->Goes (fun k=>L k i s) (fun k=>L k (i+1) (s++[f i]))):Goes (fun k=>L k 0 []) (fun k=>L k n ((List.range n).map f)):=by
 obtain⟨s,hs,hg⟩:=Goes.loop (R:=R) L n (fun i s=>s=(List.range i).map f) (fun i s hi h2=>⟨s++[f i],by rw[h2,List.range_succ,List.map_append];rfl,hstep i s hi (by rw[h2];simp)⟩) 0 [] (Nat.zero_le _) rfl;rw[<-hs];exact hg
theorem A2z {A:Type} {s:List A} {x:A} {i:Nat} (h:s.length=i) (hi:i<1048576):s.length+[x].length≤bigA:=by simp only[List.length_cons,List.length_nil,bigA];omega
theorem A0K {A:Type} (f:Nat->A) {n i:Nat} (d:A) (h:i<n):((List.range n).map f).getD i d=f i:=by simp[List.getD_eq_getElem?_getD,h]
def addL (p c:Int) (xs ys:List Int):List Int:=(List.range xs.length).map fun i=>(xs.getD i 0+c*ys.getD i 0)%p
theorem A1O (p c:Int) (xs ys:List Int):(addL p c xs ys).length=xs.length:=by simp[addL]
theorem A3S {p c:Int} (h:2≤p) (xs ys:List Int):A0N 0 (p-1) (addL p c xs ys):=fun x hx=>by
 simp only[addL,List.mem_map]at hx;obtain⟨i,_,rfl⟩:=hx;exact A2d h
theorem A6F {p c a b:Int} (hp:2≤p/\p≤251) (hc:0≤c/\c≤p-1) (ha:0≤a/\a≤p-1) (hb:0≤b/\b≤p-1):(IntKind.i64.wrap (a+IntKind.i64.wrap (c*b))).tmod p=(a+c*b)%p:=by
 have:=A2X hp hc hb;rw[A0j (x:=c*b) (by omega) (by omega),A0j (by omega) (by omega),A2U (by omega)]
theorem Ae9.val (xs ys:List Int) (c p:Int) (hp:2≤p/\p≤251) (hc:0≤c/\c≤p-1) (hx:A0N 0 (p-1) xs) (hy:A0N 0 (p-1) ys) (hl:ys.length=xs.length) (hn:xs.length<1048576):Ae9.F (xs,ys,c,p,())=some ((addL p c xs ys,()),()):=by
 refine Ae9.of _ _ _ _ ?_;have g:=Goes.push (R:=((List Int×Unit)×Unit)) (fun k i s=>Ae9.l3 k xs ys c p (xs.length:Int) (i:Int) s) xs.length (fun i=>(xs.getD i 0+c*ys.getD i 0)%p) (fun i s hi hs=>Goes.succ fun k=>by
   rw[Ae9.l3_eq,if_pos (ltI.2 hi),if_pos (idxI.2 hi),if_pos (idxI.2 (by omega)),if_neg (by omega)];simp only[Int.toNat_natCast,A6F hp hc (A0D hx hi) (A0D hy (i:=i) (by omega))];rw[if_pos (A2z hs (by omega)),A0x (by omega)])
 refine Ev.of_eq (g _ ((Ev.const _).succ fun k=>?_)) fun k=>rfl;rw[Ae9.l3_eq,if_neg (by simp)];rfl
theorem A4p (a b p:Int):(a%p*b)%p=(a*b)%p:=by rw[Int.mul_emod,Int.emod_emod,<-Int.mul_emod]
theorem A3n (a p:Int):∀ n:Nat,(a%p) ^ n%p=a ^ n%p
 | 0=>by rw[Int.pow_zero,Int.pow_zero]
 | n+1=>by rw[Int.pow_succ,Int.pow_succ,Int.mul_emod,A3n a p n,Int.emod_emod,<-Int.mul_emod]
theorem A3r {p a b:Int} (hp:2≤p/\p≤251) (ha:0≤a/\a≤p-1) (hb:0≤b/\b≤p-1):(IntKind.i64.wrap (a*b)).tmod p=(a*b)%p:=by
 have:=A2X hp ha hb;rw[A0j (x:=a*b) (by omega) (by omega),A2U (by omega)]
theorem Ai1.val (a p:Int) (hp:2≤p/\p≤251) (ha:0≤a/\a≤p-1):Ai1.F (a,p,())=some ((a ^ (p-2).toNat%p,()),()):=by
 obtain⟨n,hn⟩:∃ n:Nat,p-2=n:=⟨(p-2).toNat,by omega⟩;have hw:IntKind.i64.wrap (p-2)=(n:Int):=by rw[A0j (by omega) (by omega),hn]
 have hnn:(p-2).toNat=n:=by omega
 rw[hnn];refine Ai1.of _ _ ?_;obtain⟨s,hs,hg⟩:=Goes.loop (R:=((Int×Unit)×Unit)) (fun k j (s:Int)=>Ai1.l3 k a p s ((n-j:Nat):Int)) n (fun j s=>s=a ^ j%p) (fun j s hj h2=>⟨_,rfl,Goes.succ fun k=>by
   have hs:0≤s/\s≤p-1:=by rw[h2];exact A2d hp.1
   have hw2:IntKind.i64.wrap (((n-j:Nat):Int)-1)=((n-(j+1):Nat):Int):=by rw[A0j (by omega) (by omega)];omega
   rw[Ai1.l3_eq,if_pos (by simp;omega),if_neg (by omega),A3r hp hs ha,hw2,h2,A4p,<-Int.pow_succ]⟩) 0 1 (Nat.zero_le _) (by
     show(1:Int)=a ^ 0%p;rw[Int.pow_zero,Int.emod_eq_of_lt (by omega) (by omega)])
 refine Ev.of_eq (hg _ ((Ev.const _).succ fun k=>?_)) fun k=>?_
 . rw[Ai1.l3_eq,if_neg (by simp),hs]
 . rw[Ai1.T,hw];rfl
theorem Aj6.loop (p:Int) (hp:2≤p/\p≤251):∀ (m n:Nat) (a r:Int),n≤m->n≤1000->0≤a/\a≤p-1->0≤r/\r≤p-1->Ev (fun k=>Aj6.l2 k a (n:Int) p r) ((r*a ^ n%p,()),()):=by
 intro m;induction m with
 | zero =>
   intro n a r hn _ ha hr;obtain rfl:n=0:=by omega
   refine(Ev.const _).succ fun k=>?_;rw[Aj6.l2_eq,if_neg (by simp),Int.pow_zero,Int.mul_one,Int.emod_eq_of_lt (by omega) (by omega)]
 | succ m ih =>
   intro n a r hn hn2 ha hr;rcases Nat.eq_zero_or_pos n with rfl|hpos
   . refine(Ev.const _).succ fun k=>?_;rw[Aj6.l2_eq,if_neg (by simp),Int.pow_zero,Int.mul_one,Int.emod_eq_of_lt (by omega) (by omega)]
   . have hdiv:IntKind.i64.wrap ((n:Int).tdiv 2)=((n/2:Nat):Int):=by
       have:(n:Int).tdiv 2=((n/2:Nat):Int):=rfl;rw[this,A0j (by omega) (by omega)]
     have hmod:(n:Int).tmod 2=((n%2:Nat):Int):=rfl;have hsq:=A2d (a:=a*a) hp.1;by_cases ho:n%2=1
     . have hra:=A2d (a:=r*a) hp.1;have:=ih (n/2) (a*a%p) (r*a%p) (by omega) (by omega) hsq hra;have e:r*a%p*(a*a%p) ^ (n/2)%p=r*a ^ n%p:=by
         rw[A4p,Int.mul_emod,A3n,<-Int.mul_emod,Int.mul_assoc];congr 2;have hn3:n=2*(n/2)+1:=by omega
         conv=>rhs;rw[hn3,Int.pow_succ,Int.pow_mul]
         rw[show a ^ 2=a*a from by rw[Int.pow_succ,Int.pow_succ,Int.pow_zero,Int.one_mul],Int.mul_comm]
       rw[e]at this;refine this.succ fun k=>?_;rw[Aj6.l2_eq,if_pos (by simp;omega),if_neg (by decide),hmod,ho,if_pos (by decide),if_neg (by omega),if_neg (by omega),if_neg (by decide),A3r hp ha ha,A3r hp hr ha,hdiv]
     . have:=ih (n/2) (a*a%p) r (by omega) (by omega) hsq hr;have e:r*(a*a%p) ^ (n/2)%p=r*a ^ n%p:=by
         rw[Int.mul_emod,A3n,<-Int.mul_emod];congr 2;have hn3:n=2*(n/2):=by omega
         conv=>rhs;rw[hn3,Int.pow_mul]
         rw[show a ^ 2=a*a from by rw[Int.pow_succ,Int.pow_succ,Int.pow_zero,Int.one_mul]]
       rw[e]at this;refine this.succ fun k=>?_;have h0:n%2=0:=by omega
       rw[Aj6.l2_eq,if_pos (by simp;omega),if_neg (by decide),hmod,h0,if_neg (by decide),if_neg (by omega),if_neg (by decide),A3r hp ha ha,hdiv]
theorem Am1.val (a p:Int) (hp:2≤p/\p≤251) (ha:0≤a/\a≤p-1):Am1.F (a,p,())=some ((a ^ (p-2).toNat%p,()),()):=by
 obtain⟨n,hn⟩:∃ n:Nat,p-2=n:=⟨(p-2).toNat,by omega⟩;have hw:IntKind.i64.wrap (p-2)=(n:Int):=by rw[A0j (by omega) (by omega),hn]
 have hnn:(p-2).toNat=n:=by omega
 have h1:=Aj6.loop p hp n n a 1 (Nat.le_refl _) (by omega) ha (by omega);rw[Int.one_mul]at h1;have h2:Aj6.F (a,(n:Int),p,())=_:=Aj6.of _ _ _ (h1.of_eq fun k=>rfl);rw[Am1.eq,Am1.T,hw,h2,hnn];rfl
theorem Ab2.val (xs:List Int) (h:xs.length≤1048576):Ab2.F (xs,())=some ((xs,()),()):=by
 rw[Ab2.eq,Ab2.T,if_pos (by simp only[List.length_nil,bigA];omega)];rfl
structure RowsOk (p:Int) (h w:Nat) (R:List (List Int)):Prop where
 len:R.length=h
 row:∀ r∈R,r.length=w/\A0N 0 (p-1) r
theorem RowsOk.at {p:Int} {h w:Nat} {R:List (List Int)} (o:RowsOk p h w R) {i:Nat} (hi:i<h):(R.getD i []).length=w/\A0N 0 (p-1) (R.getD i []):=o.row _ (A0z [] (by rw[o.len];exact hi))
theorem RowsOk.set {p:Int} {h w:Nat} {R:List (List Int)} (o:RowsOk p h w R) {r:List Int} (hr:r.length=w/\A0N 0 (p-1) r) (i:Nat):RowsOk p h w (R.set i r) :=
 ⟨by rw[List.length_set];exact o.len,fun x hx=>(List.mem_or_eq_of_mem_set hx).elim (o.row x) fun e=>e▸hr⟩
theorem A4l:∀ {R:List (List Int)} {w i j:Nat},(∀ r∈R,r.length=w)->i<R.length->j<w->R.flatten.getD (i*w+j) 0=(R.getD i []).getD j 0
 | [],_,_,_,_,h,_=>absurd h (by simp)
 | r :: R,w,i,j,hr,hi,hj=>by
   have h1:=hr r (by simp);simp only[List.flatten_cons,List.getD_eq_getElem?_getD];cases i with
   | zero=>rw[List.getElem?_append_left (by omega)];simp
   | succ i =>
     have e:(i+1)*w=w+i*w:=by rw[Nat.add_mul,Nat.one_mul,Nat.add_comm]
     have:=A4l (R:=R) (w:=w) (i:=i) (j:=j) (fun r hr'=>hr r (by simp[hr'])) (by simpa using hi) hj;simp only[List.getD_eq_getElem?_getD]at this;rw[e,List.getElem?_append_right (by omega),h1,show w+i*w+j-w=i*w+j by omega,this];simp
theorem A4n:∀ {R:List (List Int)} {w i j:Nat} (v:Int),(∀ r∈R,r.length=w)->i<R.length->j<w->R.flatten.set (i*w+j) v=(R.set i ((R.getD i []).set j v)).flatten
 | [],_,_,_,_,_,h,_=>absurd h (by simp)
 | r :: R,w,i,j,v,hr,hi,hj=>by
   have h1:=hr r (by simp);cases i with
   | zero=>simp only[List.flatten_cons,Nat.zero_mul,Nat.zero_add];rw[List.set_append_left _ _ (by omega)];simp
   | succ i =>
     have e:(i+1)*w=w+i*w:=by rw[Nat.add_mul,Nat.one_mul,Nat.add_comm]
     have:=A4n (R:=R) (w:=w) (i:=i) (j:=j) v (fun r hr'=>hr r (by simp[hr'])) (by simpa using hi) hj;simp only[List.flatten_cons,List.set_cons_succ];rw[e,List.set_append_right _ _ (by omega),h1,show w+i*w+j-w=i*w+j by omega,this];simp
theorem A4m:∀ {R:List (List Int)} {w:Nat},(∀ r∈R,r.length=w)->R.flatten.length=R.length*w
 | [],_,_=>by simp
 | r::R,w,hr=>by
   have:=A4m (R:=R) (w:=w) fun r hr'=>hr r (by simp[hr']);simp only[List.flatten_cons,List.length_append,List.length_cons,hr r (by simp),this];rw[Nat.add_mul,Nat.one_mul,Nat.add_comm]
theorem A1Q {h w i j:Nat} (hh:h≤4096) (hw:w≤256) (hi:i<h) (hj:j<w):IntKind.i64.wrap (IntKind.i64.wrap ((i:Int)*(w:Int))+(j:Int))=((i*w+j:Nat):Int)/\i*w+j<h*w:=by
 have h1:(i+1)*w≤h*w:=Nat.mul_le_mul_right w hi;have h2:h*w≤4096*256:=Nat.mul_le_mul hh hw;have e:(i+1)*w=i*w+w:=by rw[Nat.add_mul,Nat.one_mul]
 have e2:(i:Int)*(w:Int)=((i*w:Nat):Int):=by simp
 rw[e2,A0j (x:=((i*w:Nat):Int)) (by omega) (by omega),A0j (by omega) (by omega)];omega
def inv_ (p a:Int):Int:=a ^ (p-2).toNat%p
def A0b (R:List (List Int)) (t a:Nat):List (List Int):=(R.set t (R.getD a [])).set a (R.getD t [])
def A1M (p:Int) (w t c:Nat) (R:List (List Int)):List (List Int):=R.set t (addL p (inv_ p ((R.getD t []).getD c 0)) (List.replicate w 0) (R.getD t []))
def A0X (p:Int) (t c:Nat) (R:List (List Int)) (i:Nat):List Int:=if i=t∨(R.getD i []).getD c 0=0 then R.getD i []else addL p (p-(R.getD i []).getD c 0) (R.getD i []) (R.getD t [])
def A1C (p:Int) (t c:Nat) (R:List (List Int)):List (List Int):=(List.range R.length).map (A0X p t c R)
def pivA (R:List (List Int)) (t c:Nat):Nat:=t+(R.drop t).findIdx fun r=>r.getD c 0 !=0
def A0R (p:Int) (w c:Nat) (s:List (List Int)×List Int):List (List Int)×List Int :=
 if pivA s.1 s.2.length c<s.1.length then(A1C p s.2.length c (A1M p w s.2.length c (A0b s.1 s.2.length (pivA s.1 s.2.length c))),s.2++[(c:Int)])else s
theorem A6s {p:Int} (hp:2≤p) (a:Int):0≤inv_ p a/\inv_ p a≤p-1:=by
 have h1:=Int.emod_nonneg (a ^ (p-2).toNat) (show p≠0 by omega);have h2:=Int.emod_lt_of_pos (a ^ (p-2).toNat) (show 0<p by omega);unfold inv_;omega
theorem A3s {p:Int} {h w:Nat} {R:List (List Int)} (o:RowsOk p h w R) {t a:Nat} (ht:t<h) (ha:a<h):RowsOk p h w (A0b R t a):=(o.set (o.at ha) t).set (o.at ht) a
theorem A4L {R:List (List Int)} {t:Nat} (ht:t<R.length):A0b R t t=R:=by
 have e:R.set t (R.getD t [])=R:=by rw[A0y ht];exact List.set_getElem_self ht
 rw[A0b,e,e]
theorem A2o {p:Int} {h w:Nat} {R:List (List Int)} (hp:2≤p) (o:RowsOk p h w R) (t c:Nat):RowsOk p h w (A1M p w t c R):=o.set ⟨by rw[A1O,List.length_replicate],A3S hp _ _⟩ t
theorem elim_ok {p:Int} {h w:Nat} {R:List (List Int)} (hp:2≤p) (o:RowsOk p h w R) (t c:Nat):RowsOk p h w (A1C p t c R):=by
 refine⟨by simp[A1C,o.len],fun r hr=>?_⟩;unfold A1C at hr;obtain⟨i,hi,rfl⟩:=List.mem_map.1 hr;have hi:=List.mem_range.1 hi;have:=o.at (i:=i) (by rw[<-o.len];exact hi);unfold A0X;split
 . exact this
 . exact⟨by rw[A1O];exact this.1,A3S hp _ _⟩
theorem A6w {p:Int} {h w c:Nat} {s:List (List Int)×List Int} (hp:2≤p) (o:RowsOk p h w s.1) (hl:s.2.length≤h):RowsOk p h w (A0R p w c s).1/\(A0R p w c s).2.length≤h:=by
 unfold A0R;split
 . rename_i hlt;rw[o.len]at hlt;have ht:s.2.length<h:=Nat.lt_of_le_of_lt (Nat.le_add_right _ _) hlt;exact⟨elim_ok hp (A2o hp (A3s o ht hlt) _ _) _ _,by rw[List.length_append,List.length_cons,List.length_nil];omega⟩
 . exact⟨o,hl⟩
theorem A6q {p:Int} {w c:Nat} {s:List (List Int)×List Int} (h:s.1.length≤s.2.length):A0R p w c s=s:=if_neg (by unfold pivA;omega)
theorem A3w (R:List (List Int)) (t c:Nat) (ht:t≤R.length):t≤pivA R t c/\pivA R t c≤R.length/\(∀ i,t≤i->i<pivA R t c->(R.getD i []).getD c 0=0)/\(pivA R t c<R.length->(R.getD (pivA R t c) []).getD c 0≠0):=by
 unfold pivA;generalize hj:(R.drop t).findIdx (fun r=>r.getD c 0 !=0)=j;have hle:j≤(R.drop t).length:=by rw[<-hj];exact List.findIdx_le_length
 rw[List.length_drop]at hle;have hd:∀ i,t+i<R.length->(R.drop t).getD i []=R.getD (t+i) []:=fun i hi=>by simp[List.getD_eq_getElem?_getD]
 refine⟨Nat.le_add_right _ _,by omega,fun i h1 h2=>?_,fun h=>?_⟩
 . have hlt:i-t<(R.drop t).findIdx (fun r=>r.getD c 0 !=0):=by omega
   have:=List.not_of_lt_findIdx hlt;have e:=hd (i-t) (by omega);rw[show t+(i-t)=i by omega,A0y (by rw[List.length_drop];omega)]at e;rw[e]at this;simpa using this
 . have hlt:j<(R.drop t).length:=by rw[List.length_drop];omega
   have h3:=List.findIdx_getElem (w:=by rw[hj];exact hlt) (p:=fun r:List Int=>r.getD c 0 !=0) (xs:=R.drop t);have e:=hd j h;rw[A0y hlt]at e;simp only[hj,e]at h3;simpa using h3
def mix {A:Type} (n:Nat) (f g:Nat->A) (i:Nat):List A:=(List.range n).map fun q=>if q<i then f q else g q
theorem A4a {A:Type} (n:Nat) (f g:Nat->A) (i:Nat):(mix n f g i).length=n:=by simp[mix]
theorem A1l {A:Type} (n:Nat) (f g:Nat->A):mix n f g 0=(List.range n).map g:=List.map_congr_left fun q _=>if_neg (by omega)
theorem A2O {A:Type} (n:Nat) (f g:Nat->A):mix n f g n=(List.range n).map f:=List.map_congr_left fun q hq=>if_pos (List.mem_range.1 hq)
theorem A1a {A:Type} {n:Nat} (f g:Nat->A) (i:Nat) {q:Nat} (d:A) (hq:q<n):(mix n f g i).getD q d=if q<i then f q else g q:=A0K _ d hq
theorem A2P {A:Type} {n:Nat} (f g:Nat->A) {i:Nat} (hi:i<n):(mix n f g i).set i (f i)=mix n f g (i+1):=by
 refine List.ext_getElem (by simp[mix]) fun q h1 h2=>?_;rw[List.getElem_set];simp only[mix,List.getElem_map,List.getElem_range];by_cases e:i=q
 . subst e;rw[if_pos rfl,if_pos (by omega)]
 . rw[if_neg e];by_cases l:q<i
   . rw[if_pos l,if_pos (by omega)]
   . rw[if_neg l,if_neg (by omega)]
theorem A2n {A:Type} (n:Nat) {f g:Nat->A} {i:Nat} (h:f i=g i):mix n f g (i+1)=mix n f g i:=List.map_congr_left fun q _=>by
 by_cases e:q=i
 . subst e;rw[if_pos (by omega),if_neg (by omega),h]
 . by_cases l:q<i
   . rw[if_pos (by omega),if_pos l]
   . rw[if_neg (by omega),if_neg l]
theorem A3O (R:List (List Int)):(List.range R.length).map (fun q=>R.getD q [])=R:=by
 refine List.ext_getElem (by simp) fun q h1 h2=>?_;simp only[List.getElem_map,List.getElem_range];exact A0y h2
theorem A4c (r:List Int):(List.range r.length).map (fun q=>r.getD q 0)=r:=by
 refine List.ext_getElem (by simp) fun q h1 h2=>?_;simp only[List.getElem_map,List.getElem_range];exact A0y h2
theorem A1B (p:Int) (t c:Nat) (R:List (List Int)):A0X p t c R t=R.getD t []:=if_pos (.inl rfl)
theorem A5V {p:Int} {h w:Nat} (hp:2≤p/\p≤251) (hh:h≤4096) (hw:w≤256) {R:List (List Int)} (o:RowsOk p h w R) {t c:Nat} (ht:t<h) (hc:c<w) (det:Int) (piv:List Int) :
   Goes (fun k=>Ac0.l17 k (w:Int) p det (t:Int) (w:Int) (c:Int) (h:Int) 0 R piv (c:Int)) (fun k=>Ac0.l17 k (w:Int) p det (t:Int) (w:Int) (c:Int) (h:Int) (h:Int) (A1C p t c R) piv (c:Int)):=by
 have hlen:=o.len;obtain⟨s,hs,hg⟩:=Goes.loop (R:=(List Int×Int×Unit)×(List (List Int)×Unit)) (fun k i (s:List (List Int))=>Ac0.l17 k (w:Int) p det (t:Int) (w:Int) (c:Int) (h:Int) (i:Int) s piv (c:Int)) h (fun i s=>s=mix h (A0X p t c R) (fun q=>R.getD q []) i) (fun i s hi h2=>⟨_,rfl,Goes.succ fun k=>by
   have ri:=o.at hi;have rt:=o.at ht;have g1:s.getD i []=R.getD i []:=by rw[h2,A1a _ _ _ _ hi,if_neg (by omega)]
   have g2:s.getD t []=R.getD t []:=by
     rw[h2,A1a _ _ _ _ ht];split
     . exact A1B p t c R
     . rfl
   have hsl:s.length=h:=by rw[h2,A4a]
   have hx:=A0D ri.2 (i:=c) (by omega);rw[Ac0.l17_eq,if_pos (ltI.2 hi),if_pos (idxI.2 (by omega))];simp only[Int.toNat_natCast,g1,g2];by_cases e:i=t
   . subst e;rw[if_neg (by simp),A0x (by omega),h2,A2n h (A1B p i c R)]
   . rw[if_pos (by simp;omega),if_pos (idxI.2 (by omega))];by_cases z:(R.getD i []).getD c 0=0
     . rw[if_neg (by rw[z];decide),A0x (by omega),h2,A2n h (show A0X p t c R i=R.getD i []from if_pos (.inr z))]
     . rw[if_pos (by rw[bne_iff_ne];exact z),if_pos (idxI.2 (by omega)),if_pos (idxI.2 (by omega)),A0j (by omega) (by omega),Ae9.val _ _ _ _ hp (by omega) ri.2 rt.2 (by omega) (by omega)];simp only[Option.bind_some];have e2:A0X p t c R i=addL p (p-(R.getD i []).getD c 0) (R.getD i []) (R.getD t []):=if_neg (by rintro(h|h)<;>contradiction);rw[if_pos (idxI.2 (by omega)),A0x (by omega),<-e2,h2,A2P (A0X p t c R) (fun q=>R.getD q []) hi]⟩) 0 R (Nat.zero_le _) (by rw[A1l,<-hlen,A3O])
 rw[hs,A2O]at hg;have e:A1C p t c R=(List.range h).map (A0X p t c R):=by rw[A1C,hlen]
 rw[e];exact hg
theorem A5W {p:Int} {h w:Nat} (hp:2≤p/\p≤251) (hh:h≤4096) (hw:w≤256) {R:List (List Int)} (o:RowsOk p h w R) {c:Nat} (hc:c<w) (det:Int) (piv:List Int) (hl:piv.length≤h) :
   ∃ det',Goes (fun k=>Ac0.l4 k (w:Int) p det (w:Int) (c:Int) R piv) (fun k=>Ac0.l4 k (w:Int) p det' (w:Int) ((c+1:Nat):Int) (A0R p w c (R,piv)).1 (A0R p w c (R,piv)).2):=by
 have hlen:=o.len;have hcut:cutL R (piv.length:Int) (R.length:Int)=R.drop piv.length:=by simp only[cutL,Int.toNat_natCast,List.take_length]
 obtain⟨r,hr,hr'⟩:=Ah5.val (R.drop piv.length) (Ar4.cloG ((c:Int),())) (fun r=>r.getD c 0 !=0) (fun x hx=>by
   have:=(o.row x (List.mem_of_mem_drop hx)).1;show(Ar4.F (x,(c:Int),())).map (·.1)=_;rw[Ar4.eq,Ar4.T,if_pos (idxI.2 (by omega))];simp only[Int.toNat_natCast];rfl) (by rw[List.length_drop];omega)
 have hstart:∀ k,Ac0.l4 (k+1) (w:Int) p det (w:Int) (c:Int) R piv=_:=fun k=>by
   rw[Ac0.l4_eq,if_pos (ltI.2 hc),if_pos (by omega),hcut,hr]
 rcases hr' with⟨e,hall⟩|⟨j,hj,e,hj1,hj2⟩
 . refine⟨0,Goes.succ fun k=>?_⟩;have hno:¬ pivA R piv.length c<R.length:=by
     unfold pivA;have:(R.drop piv.length).findIdx (fun r=>r.getD c 0 !=0)=(R.drop piv.length).length:=List.findIdx_eq_length.2 fun x hx=>hall x hx;rw[this,List.length_drop];omega
   have hs:A0R p w c (R,piv)=(R,piv):=if_neg hno;rw[hstart];simp only[Option.bind_some,e];rw[if_pos (by decide),A0x (by omega),hs]
 . rw[List.length_drop]at hj;have hjj:(R.drop piv.length).findIdx (fun r=>r.getD c 0 !=0)=j:=by
     have hlt:j<(R.drop piv.length).length:=by rw[List.length_drop];omega
     refine(List.findIdx_eq hlt).2 ⟨by rw[<-A0y (d:=[]) hlt];exact hj1,fun i hi=>?_⟩;have:=hj2 i hi;rw[A0y (xs:=R.drop piv.length) (i:=i) (d:=[]) (by omega)]at this;exact this
   have hpa:pivA R piv.length c=piv.length+j:=by rw[pivA,hjj]
   have ht:piv.length<h:=by omega
   have ha:piv.length+j<h:=by omega
   have o2:=A3s o ht ha;have hl2:=o2.len;have r2:=o2.at ht;have hs:A0R p w c (R,piv)=(A1C p piv.length c (A1M p w piv.length c (A0b R piv.length (piv.length+j))),piv++[(c:Int)]):=by
     rw[A0R,if_pos (by show pivA R piv.length c<R.length;omega)];simp only[hpa]
   have hx:=A0D r2.2 (i:=c) (by omega);have hiv:=A6s hp.1 (((A0b R piv.length (piv.length+j)).getD piv.length []).getD c 0);have hin:Am1.F (((A0b R piv.length (piv.length+j)).getD piv.length []).getD c 0,p,())=some ((inv_ p (((A0b R piv.length (piv.length+j)).getD piv.length []).getD c 0),()),()):=Am1.val _ _ hp hx;have hzero:A0N 0 (p-1) (List.replicate w (0:Int)):=fun x hx=>by rw[(List.mem_replicate.1 hx).2];omega
   have hadd:=Ae9.val (List.replicate w 0) ((A0b R piv.length (piv.length+j)).getD piv.length []) (inv_ p (((A0b R piv.length (piv.length+j)).getD piv.length []).getD c 0)) p hp hiv hzero r2.2 (by rw[List.length_replicate];omega) (by rw[List.length_replicate];omega);have o3:=A2o (h:=h) hp.1 o2 piv.length c;have hfin:∀ d:Int,Goes (fun k=>Ac0.l17 k (w:Int) p d (piv.length:Int) (w:Int) (c:Int) (h:Int) 0 (A1M p w piv.length c (A0b R piv.length (piv.length+j))) piv (c:Int)) (fun k=>Ac0.l4 k (w:Int) p d (w:Int) ((c+1:Nat):Int) (A0R p w c (R,piv)).1 (A0R p w c (R,piv)).2):=fun d=>by
     refine(A5V hp hh hw o3 ht hc d piv).trans (Goes.succ fun k=>?_);rw[Ac0.l17_eq,if_neg (by simp),if_pos (by simp only[List.length_cons,List.length_nil,bigA];omega),A0x (by omega),hs]
   by_cases j0:j=0
   . subst j0;have hsw:A0b R piv.length (piv.length+0)=R:=A4L (by omega);rw[hsw]at hin hadd hfin;refine⟨(IntKind.i64.wrap (det*((R.getD piv.length []).getD c 0))).tmod p,Goes.trans (Goes.succ fun k=>?_) (hfin _)⟩;rw[hstart];simp only[Option.bind_some,e];rw[if_neg (by decide),if_neg (by decide),if_pos (idxI.2 (by omega))];simp only[Int.toNat_natCast];have hrw:=(o.at ht).1;rw[if_pos (idxI.2 (by omega)),if_neg (by omega),if_pos (by simp only[bigN];omega),if_pos (idxI.2 (by omega)),hin];simp only[Option.bind_some];rw[hadd];simp only[Option.bind_some];rw[if_pos (idxI.2 (by omega)),List.length_set,hlen];rfl
   . refine⟨(IntKind.i64.wrap ((IntKind.i64.wrap ((IntKind.i64.wrap (0-det)).tmod p+p)).tmod p*(((A0b R piv.length (piv.length+j)).getD piv.length []).getD c 0))).tmod p,Goes.trans (Goes.succ fun k=>?_) (hfin _)⟩;rw[hstart];simp only[Option.bind_some,e];rw[if_neg (by simp only[decide_eq_true_eq];omega),if_pos (by simp only[decide_eq_true_eq];omega)];have ew:IntKind.i64.wrap ((piv.length:Int)+(j:Int))=((piv.length+j:Nat):Int):=by rw[A0j (by omega) (by omega)];omega
     simp only[ew,Int.toNat_natCast];have hl3:(R.set piv.length (R.getD (piv.length+j) [])).length=h:=by rw[List.length_set];exact hlen
     have esw:(R.set piv.length (R.getD (piv.length+j) [])).set (piv.length+j) (R.getD piv.length [])=A0b R piv.length (piv.length+j):=rfl;rw[if_pos (idxI.2 (by omega)),if_pos (idxI.2 (by omega)),if_pos (idxI.2 (by omega)),if_pos (idxI.2 (by omega)),Ah8.eq,Ah8.T,if_neg (by omega),if_neg (by omega)];simp only[Option.bind_some,esw];rw[if_pos (idxI.2 (by omega)),if_pos (idxI.2 (by omega)),if_neg (by omega),if_pos (by simp only[bigN];omega),if_pos (idxI.2 (by omega)),hin];simp only[Option.bind_some];rw[hadd];simp only[Option.bind_some];rw[if_pos (idxI.2 (by omega)),List.length_set,hl2];rfl
def gjN (p:Int) (w:Nat) (R:List (List Int)):Nat->List (List Int)×List Int
 | 0=>(R,[])
 | c+1=>A0R p w c (gjN p w R c)
theorem A5U {p:Int} {h w:Nat} {R:List (List Int)} (hp:2≤p) (o:RowsOk p h w R):∀ c,RowsOk p h w (gjN p w R c).1/\(gjN p w R c).2.length≤h
 | 0=>⟨o,Nat.zero_le _⟩
 | c+1=>by obtain⟨h1,h2⟩:=A5U hp o c;exact A6w hp h1 h2
theorem Ac0.val {p:Int} {h w:Nat} (hp:2≤p/\p≤251) (hh:h≤4096) (hw:w≤256) {R:List (List Int)} (o:RowsOk p h w R):∃ det,Ac0.F (R,(w:Int),p,())=some (((gjN p w R w).2,det,()),((gjN p w R w).1,())):=by
 obtain⟨⟨det,s⟩,hs,hg⟩:=Goes.loop (R:=(List Int×Int×Unit)×(List (List Int)×Unit)) (fun k i (s:Int×(List (List Int)×List Int))=>Ac0.l4 k (w:Int) p s.1 (w:Int) (i:Int) s.2.1 s.2.2) w (fun i s=>s.2=gjN p w R i) (fun i s hi h2=>by
   obtain⟨o',hl'⟩:=A5U hp.1 o i;rw[<-h2]at o' hl';obtain⟨d,hd⟩:=A5W hp hh hw o' hi s.1 s.2.2 hl';exact⟨(d,A0R p w i s.2),by simp only[gjN,h2],hd⟩) 0 (1,(R,[])) (Nat.zero_le _) rfl
 have hs:s=gjN p w R w:=hs;refine⟨det,Ac0.of _ _ _ (Ev.of_eq (hg _ ((Ev.const _).succ fun k=>?_)) fun k=>rfl)⟩;rw[Ac0.l4_eq,if_neg (by simp),hs]
theorem A5Y {n p:Int} (hp:2≤p/\p≤251):(IntKind.i64.wrap (n.tmod p+p)).tmod p=n%p:=by
 have hb:-p<n.tmod p/\n.tmod p<p:=by
   by_cases h:0≤n
   . rw[A2U h];have:=A2d (a:=n) hp.1;omega
   . have e:n.tmod p=-((-n).tmod p):=by rw[Int.neg_tmod];omega
     have h2:=A2d (a:=-n) hp.1;rw[e,A2U (by omega)];omega
 have e:n.tmod p=n-p*n.tdiv p:=by have:=Int.tmod_add_mul_tdiv n p;omega
 rw[A0j (by omega) (by omega),A2U (by omega),Int.add_emod_right,e,Int.sub_emod,Int.mul_emod_right,Int.sub_zero,Int.emod_emod]
theorem sub_val {p a f b:Int} (hp:2≤p/\p≤251) (ha:0≤a/\a≤p-1) (hf:0≤f/\f≤p-1) (hb:0≤b/\b≤p-1):Ar8.F (IntKind.i64.wrap (a-IntKind.i64.wrap (f*b)),p,())=some (((a+(p-f)*b)%p,()),()):=by
 have hm:=A2X hp hf hb;rw[A0j (x:=f*b) (by omega) (by omega),A0j (x:=a-f*b) (by omega) (by omega),Ar8.eq,Ar8.T,if_neg (by omega),if_neg (by omega),A5Y hp];have e:a+(p-f)*b=(a-f*b)+p*b:=by rw[Int.sub_mul];omega
 rw[e,Int.add_mul_emod_self_left]
theorem RowsOk.flat {p:Int} {h w:Nat} {R:List (List Int)} (o:RowsOk p h w R) {i j:Nat} (hi:i<h) (hj:j<w):R.flatten.getD (i*w+j) 0=(R.getD i []).getD j 0:=A4l (fun r hr=>(o.row r hr).1) (by rw[o.len];exact hi) hj
theorem RowsOk.flatSet {p:Int} {h w:Nat} {R:List (List Int)} (o:RowsOk p h w R) {i j:Nat} (v:Int) (hi:i<h) (hj:j<w):R.flatten.set (i*w+j) v=(R.set i ((R.getD i []).set j v)).flatten:=A4n v (fun r hr=>(o.row r hr).1) (by rw[o.len];exact hi) hj
theorem RowsOk.flatLen {p:Int} {h w:Nat} {R:List (List Int)} (o:RowsOk p h w R):R.flatten.length=h*w:=by rw[A4m fun r hr=>(o.row r hr).1,o.len]
theorem A1U {R:List (List Int)} {i:Nat} {x:List Int} (hi:i<R.length):(R.set i x).getD i []=x:=by simp[List.getD_eq_getElem?_getD,hi]
theorem A1k {R:List (List Int)} {i j:Nat} {x:List Int} (h:i≠j):(R.set i x).getD j []=R.getD j []:=by simp[List.getD_eq_getElem?_getD,List.getElem?_set,h]
theorem A4A {p:Int} {w:Nat} {f g:Nat->Int} (hf:∀ q,q<w->0≤f q/\f q≤p-1) (hg:∀ q,q<w->0≤g q/\g q≤p-1) (i:Nat):(mix w f g i).length=w/\A0N 0 (p-1) (mix w f g i):=by
 refine⟨A4a _ _ _ _,fun x hx=>?_⟩;unfold mix at hx;obtain⟨q,hq,rfl⟩:=List.mem_map.1 hx;have hq:=List.mem_range.1 hq;split
 . exact hf q hq
 . exact hg q hq
theorem RowsOk.cell {p:Int} {h w:Nat} {R:List (List Int)} (o:RowsOk p h w R) {i:Nat} (hi:i<h) (q:Nat) (hq:q<w):0≤(R.getD i []).getD q 0/\(R.getD i []).getD q 0≤p-1:=A0D (o.at hi).2 (by rw[(o.at hi).1];exact hq)
theorem A1m {p:Int} {h w:Nat} {R:List (List Int)} (o:RowsOk p h w R) {i:Nat} (hi:i<h):(List.range w).map (fun q=>(R.getD i []).getD q 0)=R.getD i []:=by
 have:=A4c (R.getD i [])
 rwa [(o.at hi).1]at this
theorem A2p {R:List (List Int)} {i:Nat} (hi:i<R.length):R.set i (R.getD i [])=R:=by rw[A0y hi];exact List.set_getElem_self hi
section
variable {p:Int} {h w:Nat} (hp:2≤p/\p≤251) (hh:h≤4096) (hw:w≤256) (xs:List Int) (e1 e2 e3:Int) (x18:List Int)
include hp hh hw
theorem A5J {R:List (List Int)} (o:RowsOk p h w R) {t:Nat} (ht:t<h) {c:Nat} (inv det:Int) (hi:0≤inv/\inv≤p-1) (piv:List Int) :
   Goes (fun k=>Aa0.l26 k p (h:Int) (w:Int) xs p (w:Int) det (t:Int) (c:Int) inv 0 e1 e2 e3 x18 p (h:Int) (w:Int) R.flatten piv)
     (fun k=>Aa0.l30 k p (h:Int) (w:Int) xs p (w:Int) det (t:Int) (c:Int) 0 e1 e2 e3 x18 p (h:Int) (w:Int) (R.set t (addL p inv (List.replicate w 0) (R.getD t []))).flatten piv):=by
 have hlen:=o.len;have hf:∀ q,q<w->0≤((List.replicate w (0:Int)).getD q 0+inv*(R.getD t []).getD q 0)%p/\((List.replicate w (0:Int)).getD q 0+inv*(R.getD t []).getD q 0)%p≤p-1:=fun q hq=>A2d hp.1;obtain⟨s,hs,hg⟩:=Goes.loop (R:=((Int×Int×Int×List Int)×List Int×Int×Unit)×Unit) (fun k j (s:List (List Int))=>Aa0.l26 k p (h:Int) (w:Int) xs p (w:Int) det (t:Int) (c:Int) inv (j:Int) e1 e2 e3 x18 p (h:Int) (w:Int) s.flatten piv) w (fun j s=>s=R.set t (mix w (fun q=>((List.replicate w (0:Int)).getD q 0+inv*(R.getD t []).getD q 0)%p) (fun q=>(R.getD t []).getD q 0) j)) (fun j s hj h2=>⟨_,rfl,Goes.succ fun k=>by
   have os:RowsOk p h w s:=by rw[h2];exact o.set (A4A hf (fun q hq=>o.cell ht q hq) j) t
   obtain⟨i1,i2⟩:=A1Q hh hw ht hj;have hsl:=os.flatLen;have hst:s.getD t []=mix w (fun q=>((List.replicate w (0:Int)).getD q 0+inv*(R.getD t []).getD q 0)%p) (fun q=>(R.getD t []).getD q 0) j:=by rw[h2,A1U (by omega)]
   have hget:s.flatten.getD (t*w+j) 0=(R.getD t []).getD j 0:=by rw[os.flat ht hj,hst,A1a _ _ _ _ hj,if_neg (by omega)]
   have hval:(IntKind.i64.wrap ((R.getD t []).getD j 0*inv)).tmod p=((List.replicate w (0:Int)).getD j 0+inv*(R.getD t []).getD j 0)%p:=by
     have hc:=o.cell ht j hj;have hm:=A2X hp hc hi;rw[A0j (by omega) (by omega),A2U (by omega),Int.mul_comm];have:(List.replicate w (0:Int)).getD j 0=0:=by simp[List.getD_eq_getElem?_getD,List.getElem?_replicate,hj]
     rw[this,Int.zero_add]
   rw[Aa0.l26_eq,if_pos (ltI.2 hj),i1,if_pos (idxI.2 (by omega)),if_neg (by omega),if_pos (idxI.2 (by omega))];simp only[Int.toNat_natCast];rw[hget,hval,os.flatSet _ ht hj,hst,A2P (fun q=>((List.replicate w (0:Int)).getD q 0+inv*(R.getD t []).getD q 0)%p) (fun q=>(R.getD t []).getD q 0) hj,A0x (by omega),h2,List.set_set]⟩) 0 R (Nat.zero_le _) (by rw[A1l,A1m o ht,A2p (by omega)])
 refine hg.trans (Goes.succ fun k=>?_);rw[Aa0.l26_eq,if_neg (by simp),hs,A2O];have:addL p inv (List.replicate w 0) (R.getD t [])=(List.range w).map fun q=>((List.replicate w (0:Int)).getD q 0+inv*(R.getD t []).getD q 0)%p:=by rw[addL,List.length_replicate]
 rw[this]
theorem A6e {R:List (List Int)} (o:RowsOk p h w R) {t i:Nat} (ht:t<h) (hi:i<h) (hne:i≠t) {c:Nat} (f det:Int) (hf:0≤f/\f≤p-1) (piv:List Int) :
   Goes (fun k=>Aa0.l35 k p (h:Int) (w:Int) xs p (w:Int) det (t:Int) (c:Int) (i:Int) f 0 e1 e2 e3 x18 p (h:Int) (w:Int) R.flatten piv)
     (fun k=>Aa0.l30 k p (h:Int) (w:Int) xs p (w:Int) det (t:Int) (c:Int) ((i+1:Nat):Int) e1 e2 e3 x18 p (h:Int) (w:Int) (R.set i (addL p (p-f) (R.getD i []) (R.getD t []))).flatten piv):=by
 have hlen:=o.len;have hfm:∀ q,q<w->0≤((R.getD i []).getD q 0+(p-f)*(R.getD t []).getD q 0)%p/\((R.getD i []).getD q 0+(p-f)*(R.getD t []).getD q 0)%p≤p-1:=fun q hq=>A2d hp.1;obtain⟨s,hs,hg⟩:=Goes.loop (R:=((Int×Int×Int×List Int)×List Int×Int×Unit)×Unit) (fun k j (s:List (List Int))=>Aa0.l35 k p (h:Int) (w:Int) xs p (w:Int) det (t:Int) (c:Int) (i:Int) f (j:Int) e1 e2 e3 x18 p (h:Int) (w:Int) s.flatten piv) w (fun j s=>s=R.set i (mix w (fun q=>((R.getD i []).getD q 0+(p-f)*(R.getD t []).getD q 0)%p) (fun q=>(R.getD i []).getD q 0) j)) (fun j s hj h2=>⟨_,rfl,Goes.succ fun k=>by
   have os:RowsOk p h w s:=by rw[h2];exact o.set (A4A hfm (fun q hq=>o.cell hi q hq) j) i
   obtain⟨i1,i2⟩:=A1Q hh hw hi hj;obtain⟨t1,t2⟩:=A1Q hh hw ht hj;have hsl:=os.flatLen;have hsi:s.getD i []=mix w (fun q=>((R.getD i []).getD q 0+(p-f)*(R.getD t []).getD q 0)%p) (fun q=>(R.getD i []).getD q 0) j:=by rw[h2,A1U (by omega)]
   have g1:s.flatten.getD (i*w+j) 0=(R.getD i []).getD j 0:=by rw[os.flat hi hj,hsi,A1a _ _ _ _ hj,if_neg (by omega)]
   have g2:s.flatten.getD (t*w+j) 0=(R.getD t []).getD j 0:=by rw[os.flat ht hj,h2,A1k hne]
   rw[Aa0.l35_eq,if_pos (ltI.2 hj),i1,t1,if_pos (idxI.2 (by omega)),if_pos (idxI.2 (by omega))];simp only[Int.toNat_natCast];rw[g1,g2,sub_val hp (o.cell hi j hj) hf (o.cell ht j hj)];simp only[Option.bind_some];rw[if_pos (idxI.2 (by omega)),os.flatSet _ hi hj,hsi,A2P (fun q=>((R.getD i []).getD q 0+(p-f)*(R.getD t []).getD q 0)%p) (fun q=>(R.getD i []).getD q 0) hj,A0x (by omega),h2,List.set_set]⟩) 0 R (Nat.zero_le _) (by rw[A1l,A1m o hi,A2p (by omega)])
 refine hg.trans (Goes.succ fun k=>?_);rw[Aa0.l35_eq,if_neg (by simp),hs,A2O,A0x (by omega)];have:addL p (p-f) (R.getD i []) (R.getD t [])=(List.range w).map fun q=>((R.getD i []).getD q 0+(p-f)*(R.getD t []).getD q 0)%p:=by rw[addL,(o.at hi).1]
 rw[this]
theorem A5I {R:List (List Int)} (o:RowsOk p h w R) {t c:Nat} (ht:t<h) (hc:c<w) (det:Int) (piv:List Int) :
   Goes (fun k=>Aa0.l30 k p (h:Int) (w:Int) xs p (w:Int) det (t:Int) (c:Int) 0 e1 e2 e3 x18 p (h:Int) (w:Int) R.flatten piv)
     (fun k=>Aa0.l30 k p (h:Int) (w:Int) xs p (w:Int) det (t:Int) (c:Int) (h:Int) e1 e2 e3 x18 p (h:Int) (w:Int) (A1C p t c R).flatten piv):=by
 have hlen:=o.len;have hok:∀ i,RowsOk p h w (mix h (A0X p t c R) (fun q=>R.getD q []) i):=fun i=>⟨A4a _ _ _ _,fun r hr=>by
   unfold mix at hr;obtain⟨q,hq,rfl⟩:=List.mem_map.1 hr;have hq:=List.mem_range.1 hq;have:=o.at hq;unfold A0X;split
   . split
     . exact this
     . exact⟨by rw[A1O];exact this.1,A3S hp.1 _ _⟩
   . exact this⟩
 obtain⟨s,hs,hg⟩:=Goes.loop (R:=((Int×Int×Int×List Int)×List Int×Int×Unit)×Unit) (fun k i (s:List (List Int))=>Aa0.l30 k p (h:Int) (w:Int) xs p (w:Int) det (t:Int) (c:Int) (i:Int) e1 e2 e3 x18 p (h:Int) (w:Int) s.flatten piv) h (fun i s=>s=mix h (A0X p t c R) (fun q=>R.getD q []) i) (fun i s hi h2=>⟨_,rfl,by
   have os:RowsOk p h w s:=by rw[h2];exact hok i
   obtain⟨i1,i2⟩:=A1Q hh hw hi hc;have hsl:=os.flatLen;have g1:s.getD i []=R.getD i []:=by rw[h2,A1a _ _ _ _ hi,if_neg (by omega)]
   have g2:s.getD t []=R.getD t []:=by
     rw[h2,A1a _ _ _ _ ht];split
     . exact A1B p t c R
     . rfl
   have hcell:s.flatten.getD (i*w+c) 0=(R.getD i []).getD c 0:=by rw[os.flat hi hc,g1]
   have E:∀ k,Aa0.l30 (k+1) p (h:Int) (w:Int) xs p (w:Int) det (t:Int) (c:Int) (i:Int) e1 e2 e3 x18 p (h:Int) (w:Int) s.flatten piv=_:=fun k=>by
     rw[Aa0.l30_eq,if_pos (ltI.2 hi),i1,if_pos (idxI.2 (by omega)),A0x (show i<4611686018427387904 by omega),Int.toNat_natCast,hcell]
   by_cases e:i=t
   . subst e;rw[<-A2n h (f:=A0X p i c R) (g:=fun q=>R.getD q []) (A1B p i c R)]at h2;refine Goes.succ fun k=>?_;rw[E,if_pos (by simp),h2]
   . by_cases z:(R.getD i []).getD c 0=0
     . rw[<-A2n h (f:=A0X p t c R) (g:=fun q=>R.getD q []) (show A0X p t c R i=R.getD i []from if_pos (.inr z))]at h2;refine Goes.succ fun k=>?_;rw[E,if_neg (by simp only[beq_iff_eq];omega),if_pos (by rw[z];decide),h2]
     . have ea:A0X p t c R i=addL p (p-(R.getD i []).getD c 0) (R.getD i []) (R.getD t []):=if_neg (by rintro(h|h)<;>contradiction);have hx:=o.cell hi c hc;have hrow:=A6e hp hh hw xs e1 e2 e3 x18 os ht hi e (c:=c) ((R.getD i []).getD c 0) det hx piv;rw[g1,g2,<-ea,h2,A2P (A0X p t c R) (fun q=>R.getD q []) hi,<-h2]at hrow;refine Goes.trans (Goes.succ fun k=>?_) hrow;rw[E,if_neg (by simp only[beq_iff_eq];omega),if_neg (by rw[beq_iff_eq];exact z)]⟩) 0 R (Nat.zero_le _) (by rw[A1l,<-hlen,A3O])
 have e:A1C p t c R=(List.range h).map (A0X p t c R):=by rw[A1C,hlen]
 rw[hs,A2O]at hg;rw[e];exact hg
theorem A6x {R:List (List Int)} (o:RowsOk p h w R) {t a:Nat} (ht:t<h) (ha:a<h) (hne:t≠a) (c:Nat) (det:Int) (piv:List Int) :
   Goes (fun k=>Aa0.l17 k p (h:Int) (w:Int) xs p (w:Int) det (t:Int) (c:Int) (a:Int) 0 e1 e2 e3 x18 p (h:Int) (w:Int) R.flatten piv)
     (fun k=>Aa0.l17 k p (h:Int) (w:Int) xs p (w:Int) det (t:Int) (c:Int) (a:Int) (w:Int) e1 e2 e3 x18 p (h:Int) (w:Int) (A0b R t a).flatten piv):=by
 have _:=hp;have hlen:=o.len;obtain⟨s,hs,hg⟩:=Goes.loop (R:=((Int×Int×Int×List Int)×List Int×Int×Unit)×Unit) (fun k j (s:List (List Int))=>Aa0.l17 k p (h:Int) (w:Int) xs p (w:Int) det (t:Int) (c:Int) (a:Int) (j:Int) e1 e2 e3 x18 p (h:Int) (w:Int) s.flatten piv) w (fun j s=>s=(R.set t (mix w (fun q=>(R.getD a []).getD q 0) (fun q=>(R.getD t []).getD q 0) j)).set a (mix w (fun q=>(R.getD t []).getD q 0) (fun q=>(R.getD a []).getD q 0) j)) (fun j s hj h2=>⟨_,rfl,Goes.succ fun k=>by
   have os:RowsOk p h w s:=by rw[h2];exact(o.set (A4A (fun q hq=>o.cell ha q hq) (fun q hq=>o.cell ht q hq) j) t).set (A4A (fun q hq=>o.cell ht q hq) (fun q hq=>o.cell ha q hq) j) a
   obtain⟨i1,i2⟩:=A1Q hh hw ht hj;obtain⟨a1,a2⟩:=A1Q hh hw ha hj;have hsl:=os.flatLen;have st:s.getD t []=mix w (fun q=>(R.getD a []).getD q 0) (fun q=>(R.getD t []).getD q 0) j:=by rw[h2,A1k (Ne.symm hne),A1U (by omega)]
   have sa:s.getD a []=mix w (fun q=>(R.getD t []).getD q 0) (fun q=>(R.getD a []).getD q 0) j:=by rw[h2,A1U (by rw[List.length_set];omega)]
   have g1:s.flatten.getD (t*w+j) 0=(R.getD t []).getD j 0:=by rw[os.flat ht hj,st,A1a _ _ _ _ hj,if_neg (by omega)]
   have g2:s.flatten.getD (a*w+j) 0=(R.getD a []).getD j 0:=by rw[os.flat ha hj,sa,A1a _ _ _ _ hj,if_neg (by omega)]
   have f1:s.flatten.set (a*w+j) ((R.getD t []).getD j 0)=(s.set a (mix w (fun q=>(R.getD t []).getD q 0) (fun q=>(R.getD a []).getD q 0) (j+1))).flatten:=by rw[os.flatSet _ ha hj,sa,A2P (fun q=>(R.getD t []).getD q 0) (fun q=>(R.getD a []).getD q 0) hj]
   have os2:RowsOk p h w (s.set a (mix w (fun q=>(R.getD t []).getD q 0) (fun q=>(R.getD a []).getD q 0) (j+1))):=os.set (A4A (fun q hq=>o.cell ht q hq) (fun q hq=>o.cell ha q hq) (j+1)) a;have f2:(s.set a (mix w (fun q=>(R.getD t []).getD q 0) (fun q=>(R.getD a []).getD q 0) (j+1))).flatten.set (t*w+j) ((R.getD a []).getD j 0)=((R.set t (mix w (fun q=>(R.getD a []).getD q 0) (fun q=>(R.getD t []).getD q 0) (j+1))).set a (mix w (fun q=>(R.getD t []).getD q 0) (fun q=>(R.getD a []).getD q 0) (j+1))).flatten:=by
     rw[os2.flatSet _ ht hj,A1k (Ne.symm hne),st,A2P (fun q=>(R.getD a []).getD q 0) (fun q=>(R.getD t []).getD q 0) hj,h2,List.set_set,List.set_comm _ _ (Ne.symm hne),List.set_set]
   have hl2:=os2.flatLen;rw[Aa0.l17_eq,if_pos (ltI.2 hj),i1,a1,if_pos (idxI.2 (by omega)),if_pos (idxI.2 (by omega)),if_pos (idxI.2 (by omega))];simp only[Int.toNat_natCast,g1,g2,f1];rw[if_pos (idxI.2 (by omega)),f2,A0x (by omega)]⟩) 0 R (Nat.zero_le _) (by rw[A1l,A1l,A1m o ht,A1m o ha,A2p (by omega),A2p (by omega)])
 rw[hs,A2O,A2O,A1m o ht,A1m o ha]at hg;exact hg
theorem A6z {R:List (List Int)} (o:RowsOk p h w R) {t c:Nat} (ht:t≤h) (hc:c<w) (det:Int) (piv:List Int) :
   Goes (fun k=>Aa0.l11 k p (h:Int) (w:Int) xs p (w:Int) det (t:Int) (c:Int) (t:Int) e1 e2 e3 x18 p (h:Int) (w:Int) R.flatten piv)
     (fun k=>Aa0.l11 k p (h:Int) (w:Int) xs p (w:Int) det (t:Int) (c:Int) ((pivA R t c:Nat):Int) e1 e2 e3 x18 p (h:Int) (w:Int) R.flatten piv):=by
 have _:=hp;have hlen:=o.len;obtain⟨p1,p2,p3,-⟩:=A3w R t c (by omega);obtain⟨s,hs,hg⟩:=Goes.loop (R:=((Int×Int×Int×List Int)×List Int×Int×Unit)×Unit) (fun k i (_:Unit)=>Aa0.l11 k p (h:Int) (w:Int) xs p (w:Int) det (t:Int) (c:Int) (i:Int) e1 e2 e3 x18 p (h:Int) (w:Int) R.flatten piv) (pivA R t c) (fun i _=>t≤i) (fun i s hi h2=>⟨(),by omega,Goes.succ fun k=>by
   obtain⟨i1,i2⟩:=A1Q hh hw (show i<h by omega) hc;have hsl:=o.flatLen;rw[Aa0.l11_eq,if_pos (ltI.2 (by omega)),i1,if_pos (idxI.2 (by omega)),Int.toNat_natCast,o.flat (by omega) hc,p3 i h2 hi,if_pos (by decide),A0x (by omega)]⟩) t () p1 (Nat.le_refl _)
 exact hg
theorem A6y {R:List (List Int)} (o:RowsOk p h w R) {c:Nat} (hc:c<w) (det:Int) (piv:List Int) (hl:piv.length<h) :
   ∃ det',Goes (fun k=>Aa0.l8 k p (h:Int) (w:Int) xs p (w:Int) det (piv.length:Int) (c:Int) e1 e2 e3 x18 p (h:Int) (w:Int) R.flatten piv)
     (fun k=>Aa0.l8 k p (h:Int) (w:Int) xs p (w:Int) det' ((A0R p w c (R,piv)).2.length:Int) ((c+1:Nat):Int) e1 e2 e3 x18 p (h:Int) (w:Int) (A0R p w c (R,piv)).1.flatten (A0R p w c (R,piv)).2):=by
 have hlen:=o.len;obtain⟨p1,p2,p3,p4⟩:=A3w R piv.length c (by omega);have start:Goes (fun k=>Aa0.l8 k p (h:Int) (w:Int) xs p (w:Int) det (piv.length:Int) (c:Int) e1 e2 e3 x18 p (h:Int) (w:Int) R.flatten piv) (fun k=>Aa0.l11 k p (h:Int) (w:Int) xs p (w:Int) det (piv.length:Int) (c:Int) ((pivA R piv.length c:Nat):Int) e1 e2 e3 x18 p (h:Int) (w:Int) R.flatten piv):=Goes.trans (Goes.succ fun k=>by
   rw[Aa0.l8_eq,if_pos (ltI.2 hc),if_pos (ltI.2 hl)]) (A6z hp hh hw xs e1 e2 e3 x18 o (Nat.le_of_lt hl) hc det piv)
 by_cases hpv:pivA R piv.length c<R.length
 . have hnz:=p4 hpv;have ha:pivA R piv.length c<h:=by omega
   have hs:A0R p w c (R,piv)=(A1C p piv.length c (A1M p w piv.length c (A0b R piv.length (pivA R piv.length c))),piv++[(c:Int)]):=if_pos hpv;have o2:=A3s o hl ha;have hx:=o2.cell hl c hc;have hiv:=A6s hp.1 (((A0b R piv.length (pivA R piv.length c)).getD piv.length []).getD c 0);have hin:Ai1.F (((A0b R piv.length (pivA R piv.length c)).getD piv.length []).getD c 0,p,())=some ((inv_ p (((A0b R piv.length (pivA R piv.length c)).getD piv.length []).getD c 0),()),()):=Ai1.val _ _ hp hx;have o3:=A2o (h:=h) hp.1 o2 piv.length c;obtain⟨c1,c2⟩:=A1Q hh hw hl hc;have hfl:=o2.flat hl hc;have hfll:=o2.flatLen;have hfin:∀ d:Int,Goes (fun k=>Aa0.l26 k p (h:Int) (w:Int) xs p (w:Int) d (piv.length:Int) (c:Int) (inv_ p (((A0b R piv.length (pivA R piv.length c)).getD piv.length []).getD c 0)) 0 e1 e2 e3 x18 p (h:Int) (w:Int) (A0b R piv.length (pivA R piv.length c)).flatten piv)
       (fun k=>Aa0.l8 k p (h:Int) (w:Int) xs p (w:Int) d ((A0R p w c (R,piv)).2.length:Int) ((c+1:Nat):Int) e1 e2 e3 x18 p (h:Int) (w:Int) (A0R p w c (R,piv)).1.flatten (A0R p w c (R,piv)).2):=fun d=>by
     refine(A5J hp hh hw xs e1 e2 e3 x18 o2 hl (c:=c) _ d hiv piv).trans ((A5I hp hh hw xs e1 e2 e3 x18 o3 hl hc d piv).trans (Goes.succ fun k=>?_));rw[Aa0.l30_eq,if_neg (by simp),if_pos (by simp only[List.length_cons,List.length_nil,bigA];omega),A0x (by omega),A0x (by omega),hs];simp only[List.length_append,List.length_cons,List.length_nil,Nat.zero_add]
   by_cases e:pivA R piv.length c=piv.length
   . have hsw:A0b R piv.length (pivA R piv.length c)=R:=by rw[e];exact A4L (by omega)
     rw[hsw]at hin hfin hfl hfll;refine⟨(IntKind.i64.wrap (det*(R.getD piv.length []).getD c 0)).tmod p,start.trans (Goes.trans (Goes.succ fun k=>?_) (hfin _))⟩;rw[e]at hnz ⊢;rw[Aa0.l11_eq,if_pos (ltI.2 hl),c1,if_pos (idxI.2 (by omega)),Int.toNat_natCast,hfl,if_neg (by rw[beq_iff_eq];exact hnz),if_neg (by simp only[beq_iff_eq];omega),if_neg (by simp),if_pos (idxI.2 (by omega)),if_neg (by omega),hin];rfl
   . refine⟨(IntKind.i64.wrap (IntKind.i64.wrap (p-det)*((A0b R piv.length (pivA R piv.length c)).getD piv.length []).getD c 0)).tmod p,start.trans (Goes.trans (B:=fun k=>Aa0.l17 k p (h:Int) (w:Int) xs p (w:Int) (IntKind.i64.wrap (p-det)) (piv.length:Int) (c:Int) ((pivA R piv.length c:Nat):Int) 0 e1 e2 e3 x18 p (h:Int) (w:Int) R.flatten piv) (Goes.succ fun k=>?_) ((A6x hp hh hw xs e1 e2 e3 x18 o hl ha (Ne.symm e) c (IntKind.i64.wrap (p-det)) piv).trans (Goes.trans (Goes.succ fun k=>?_) (hfin _))))⟩
     . obtain⟨d1,d2⟩:=A1Q hh hw ha hc;have hf0:=o.flat ha hc;have hfl0:=o.flatLen;rw[Aa0.l11_eq,if_pos (ltI.2 ha),d1,if_pos (idxI.2 (by omega)),Int.toNat_natCast,hf0,if_neg (by rw[beq_iff_eq];exact hnz),if_neg (by simp only[beq_iff_eq];omega),if_pos (by rw[bne_iff_ne];omega)]
     . rw[Aa0.l17_eq,if_neg (by simp),c1,if_pos (idxI.2 (by omega)),if_neg (by omega),Int.toNat_natCast,hfl,hin];rfl
 . have hs:A0R p w c (R,piv)=(R,piv):=if_neg hpv;refine⟨det,start.trans (Goes.succ fun k=>?_)⟩;rw[Aa0.l11_eq,if_neg (by simp only[decide_eq_true_eq];omega),if_pos (by simp only[beq_iff_eq];omega),A0x (by omega),hs]
end
theorem Aa0.val {p:Int} {h w:Nat} (hp:2≤p/\p≤251) (hh:h≤4096) (hw:w≤256) {R:List (List Int)} (o:RowsOk p h w R):∃ det,Aa0.F ((p,((h:Int),((w:Int),R.flatten))),())=some (((p,(h:Int),(w:Int),(gjN p w R w).1.flatten),(gjN p w R w).2,det,()),()):=by
 have hfl:=o.flatLen;have h1:h*w≤4096*256:=Nat.mul_le_mul hh hw;have run:∀ i,i≤w->∀ det,∃ det',Goes (fun k=>Aa0.l8 k p (h:Int) (w:Int) R.flatten p (w:Int) det ((gjN p w R (w-i)).2.length:Int) ((w-i:Nat):Int) 0 0 0 [] p (h:Int) (w:Int) (gjN p w R (w-i)).1.flatten (gjN p w R (w-i)).2) (fun _=>some (((p,(h:Int),(w:Int),(gjN p w R w).1.flatten),(gjN p w R w).2,det',()),())):=by
   intro i;induction i with
   | zero =>
     intro _ det;refine⟨det,Goes.succ fun k=>?_⟩;rw[Nat.sub_zero,Aa0.l8_eq,if_neg (by simp)]
   | succ i ih =>
     intro hi det;obtain⟨o',hl'⟩:=A5U hp.1 o (w-(i+1));have e:w-i=(w-(i+1))+1:=by omega
     by_cases hfull:(gjN p w R (w-(i+1))).2.length<h
     . obtain⟨d1,g1⟩:=A6y hp hh hw R.flatten 0 0 0 [] o' (c:=w-(i+1)) (by omega) det _ hfull;obtain⟨d2,g2⟩:=ih (by omega) d1;rw[e]at g2;exact⟨d2,g1.trans g2⟩
     . have stay:∀ j,gjN p w R (w-(i+1)+j)=gjN p w R (w-(i+1)):=by
         intro j;induction j with
         | zero=>rfl
         | succ j ihj =>
           show A0R p w _ (gjN p w R (w-(i+1)+j))=_;rw[ihj];exact A6q (by rw[o'.len];omega)
       have hw2:gjN p w R w=gjN p w R (w-(i+1)):=by have:=stay (i+1);rwa [show w-(i+1)+(i+1)=w by omega]at this
       refine⟨det,Goes.succ fun k=>?_⟩;rw[Aa0.l8_eq,if_pos (ltI.2 (by omega)),if_neg (by simp only[decide_eq_true_eq];omega),hw2]
 obtain⟨det,g⟩:=run w (Nat.le_refl _) 1;rw[Nat.sub_self]at g;refine⟨det,Aa0.of _ _ _ _ (Ev.of_eq (g _ (Ev.const _)) fun k=>?_)⟩;rw[Aa0.T,Ab2.val _ (by omega)];rfl
theorem A2r (f g:Nat->Int):∀ n,sumN (fun k=>f k+g k) n=sumN f n+sumN g n
 | 0=>rfl
 | n+1=>by simp only[sumN];rw[A2r f g n];omega
theorem A0U (c:Int) (f:Nat->Int):∀ n,sumN (fun k=>c*f k) n=c*sumN f n
 | 0=>by simp[sumN]
 | n+1=>by simp only[sumN];rw[A0U c f n,Int.mul_add]
theorem A0a {f:Nat->Int}:∀ {n},(∀ k,k<n->f k=0)->sumN f n=0
 | 0,_=>rfl
 | n+1,h=>by simp only[sumN];rw[A0a fun k hk=>h k (by omega),h n (by omega)];rfl
theorem A0S {p:Int} {f:Nat->Int}:∀ {n},(∀ k,k<n->p ∣ f k)->p ∣ sumN f n
 | 0,_=>by simp[sumN]
 | n+1,h=>by simp only[sumN];exact Int.dvd_add (A0S fun k hk=>h k (by omega)) (h n (by omega))
theorem A0g (f g:Nat->Int) (n:Nat):sumN (fun k=>f k-g k) n=sumN f n-sumN g n:=by
 have:=A2r (fun k=>f k-g k) g n;rw[A0A (g:=f) fun k _=>by omega]at this;omega
theorem A1N (f:Nat->Nat->Int) (m:Nat):∀ n,sumN (fun i=>sumN (fun j=>f i j) m) n=sumN (fun j=>sumN (fun i=>f i j) n) m
 | 0=>(A0a fun _ _=>rfl).symm
 | n+1=>by simp only[sumN];rw[A1N f m n,A2r]
theorem A0c {p a b:Int} (h:p ∣ a-b):p ∣ a↔p ∣ b :=
 ⟨fun k=>by have:=Int.dvd_sub k h;rwa [show a-(a-b)=b by omega]at this,fun k=>by have:=Int.dvd_add h k;rwa [show a-b+b=a by omega]at this⟩
theorem A0u {f:Nat->Int} {m:Nat}:∀ {n},m<n->(∀ k,k<n->k≠m->f k=0)->sumN f n=f m
 | n+1,h,hz=>by
   simp only[sumN];by_cases e:m=n
   . subst e;rw[A0a fun k hk=>hz k (by omega) (by omega)];omega
   . rw[A0u (n:=n) (by omega) fun k hk=>hz k (by omega),hz n (by omega) (by omega)];omega
theorem A1d {p:Int} {f:Nat->Int} {m n:Nat} (h:m<n) (hz:∀ k,k<n->k≠m->p ∣ f k):p ∣ sumN f n-f m:=by
 have e:sumN (fun k=>if k=m then f k else 0) n=f m:=by rw[A0u h fun k _ hk=>if_neg hk,if_pos rfl]
 rw[<-e,<-A0g];refine A0S fun k hk=>?_;show p ∣ f k-_;split
 . rename_i hh;simp
 . rename_i hh;rw[Int.sub_zero];exact hz k hk hh
abbrev en (R:List (List Int)) (i j:Nat):Int:=(R.getD i []).getD j 0
def dotN (w:Nat) (r:List Int) (x:Nat->Int):Int:=sumN (fun j=>r.getD j 0*x j) w
theorem A3V (w:Nat) (r:List Int) (x y:Nat->Int):dotN w r (fun j=>x j-y j)=dotN w r x-dotN w r y:=by
 unfold dotN;rw[<-A0g];exact A0A fun k _=>Int.mul_sub _ _ _
theorem A4Q (w:Nat) (r:List Int) (c:Int) (x:Nat->Int):dotN w r (fun j=>c*x j)=c*dotN w r x:=by
 unfold dotN;rw[<-A0U];exact A0A fun k _=>by rw[Int.mul_left_comm]
theorem A4R (w:Nat) (r:List Int) (n:Nat) (f:Nat->Nat->Int):dotN w r (fun j=>sumN (fun k=>f k j) n)=sumN (fun k=>dotN w r (f k)) n:=by
 unfold dotN;rw[<-A1N];refine A0A fun j _=>?_;rw[<-A0U]
theorem A6J {p:Int} {w:Nat} {r:List Int} {x y:Nat->Int} (h:∀ j,j<w->p ∣ x j-y j):p ∣ dotN w r x-dotN w r y:=by
 rw[<-A3V];exact A0S fun j hj=>Int.dvd_mul_of_dvd_right (h j hj)
def dl (m:Nat) (j:Nat):Int:=if j=m then 1 else 0
theorem A1p {w:Nat} (r:List Int) {m:Nat} (h:m<w):dotN w r (dl m)=r.getD m 0:=by
 unfold dotN;rw[A0u h fun k _ hk=>by rw[dl,if_neg hk,Int.mul_zero],dl,if_pos rfl,Int.mul_one]
theorem A2f {p c:Int} {x y:List Int} {j:Nat} (h:j<x.length):(addL p c x y).getD j 0=(x.getD j 0+c*y.getD j 0)%p:=A0K _ 0 h
theorem A1h (a p:Int):p ∣ a%p-a:=⟨-(a/p),by have:=Int.emod_add_mul_ediv a p;rw[Int.mul_neg];omega⟩
theorem A3U {p c:Int} {w:Nat} {x y:List Int} (hx:x.length=w) (z:Nat->Int):p ∣ dotN w (addL p c x y) z-(dotN w x z+c*dotN w y z):=by
 have e:dotN w x z+c*dotN w y z=sumN (fun j=>(x.getD j 0+c*y.getD j 0)*z j) w:=by
   unfold dotN;rw[<-A0U,<-A2r];exact A0A fun k _=>by rw[Int.add_mul,Int.mul_assoc]
 rw[e];unfold dotN;rw[<-A0g];refine A0S fun j hj=>?_;rw[A2f (by omega),<-Int.sub_mul];exact Int.dvd_mul_of_dvd_left (A1h _ _)
theorem A5w:(List.range 252).all (fun p=>(List.range 16).any (fun i=>decide (2≤i)&&decide (i*i≤p)&&(p%i==0))||decide (p<2)||(List.range p).all (fun a=>a==0||(a ^ (p-2)%p*a)%p==1))=true:=by decide +kernel
theorem inv_mul {p a:Int} (hp:A0G p) (ha:1≤a/\a≤p-1):(inv_ p a*a)%p=1:=by
 obtain⟨⟨h2,h251⟩,hpr⟩:=hp;obtain⟨n,rfl⟩:=Int.eq_ofNat_of_zero_le (show 0≤p by omega);obtain⟨m,rfl⟩:=Int.eq_ofNat_of_zero_le (show 0≤a by omega);have h:=List.all_eq_true.1 A5w n (List.mem_range.2 (by omega));simp only[Bool.or_eq_true,List.any_eq_true,List.all_eq_true,Bool.and_eq_true,decide_eq_true_eq,beq_iff_eq,List.mem_range]at h;rcases h with(⟨i,hi,⟨h1,h3⟩,h4⟩|h)|h
 . refine absurd ?_ (hpr i h1 (by exact_mod_cast h3));rw[<-Int.ofNat_tmod,h4];rfl
 . omega
 . rcases h m (by omega)with h|h
   . omega
   . unfold inv_;have e:(((n:Int))-2).toNat=n-2:=by omega
     rw[e]
     exact_mod_cast h
def Null (p:Int) (w:Nat) (R:List (List Int)) (x:Nat->Int):Prop:=∀ i,i<R.length->p ∣ dotN w (R.getD i []) x
theorem A4B {p:Int} {w:Nat} {R:List (List Int)} {x y:Nat->Int} (h:∀ j,j<w->p ∣ x j-y j) (hx:Null p w R x):Null p w R y:=fun i hi=>(A0c (A6J h)).1 (hx i hi)
theorem A6W {p:Int} {w:Nat} {R:List (List Int)} {x y:Nat->Int} (hx:Null p w R x) (hy:Null p w R y):Null p w R (fun j=>x j-y j):=fun i hi=>by rw[A3V];exact Int.dvd_sub (hx i hi) (hy i hi)
theorem A2E {R:List (List Int)} {t a:Nat} (ht:t<R.length) (ha:a<R.length) (i:Nat):(A0b R t a).getD i []=if i=a then R.getD t []else if i=t then R.getD a []else R.getD i []:=by
 unfold A0b;by_cases h1:i=a
 . subst h1;rw[if_pos rfl,A1U (by simpa using ha)]
 . rw[if_neg h1,A1k (Ne.symm h1)];by_cases h2:i=t
   . subst h2;rw[if_pos rfl,A1U ht]
   . rw[if_neg h2,A1k (Ne.symm h2)]
theorem A2s (R:List (List Int)) (t a:Nat):(A0b R t a).length=R.length:=by simp[A0b]
theorem A5d {p:Int} {w:Nat} {R:List (List Int)} {t a:Nat} (ht:t<R.length) (ha:a<R.length) (x:Nat->Int):Null p w (A0b R t a) x↔Null p w R x:=by
 constructor
 . intro h i hi;by_cases h1:i=t
   . subst h1;have:=h a (by rw[A2s];exact ha)
     rwa [A2E ht ha,if_pos rfl]at this
   . by_cases h2:i=a
     . subst h2;have:=h t (by rw[A2s];exact ht)
       rwa [A2E ht ha,if_neg (Ne.symm h1),if_pos rfl]at this
     . have:=h i (by rw[A2s];exact hi)
       rwa [A2E ht ha,if_neg h2,if_neg h1]at this
 . intro h i hi;rw[A2s]at hi;rw[A2E ht ha];split
   . exact h t ht
   . split
     . exact h a ha
     . exact h i hi
theorem A6V {p:Int} {w:Nat} {R:List (List Int)} {t:Nat} (ht:t<R.length) {r:List Int} {x:Nat->Int} (hr:p ∣ dotN w r x↔p ∣ dotN w (R.getD t []) x):Null p w (R.set t r) x↔Null p w R x:=by
 constructor
 . intro h i hi;have:=h i (by simpa using hi);by_cases e:i=t
   . subst e;rw[A1U ht]at this;exact hr.1 this
   . rwa [A1k (Ne.symm e)]at this
 . intro h i hi;have:=h i (by simpa using hi);by_cases e:i=t
   . subst e;rw[A1U ht];exact hr.2 this
   . rwa [A1k (Ne.symm e)]
theorem A6m {p u v d:Int} (h:(v*u)%p=1):p ∣ v*d↔p ∣ d:=by
 constructor
 . intro k;have h1:p ∣ u*(v*d):=Int.dvd_mul_of_dvd_right k;have h2:p ∣ (v*u)%p-v*u:=A1h _ _;have h3:p ∣ ((v*u)%p-v*u)*d:=Int.dvd_mul_of_dvd_left h2;rw[h,Int.sub_mul,Int.one_mul]at h3;have h4:=Int.dvd_add h3 h1
   rwa [show d-v*u*d+u*(v*d)=d by rw[<-Int.mul_assoc u v d,Int.mul_comm u v];omega]at h4
 . intro k;exact Int.dvd_mul_of_dvd_right k
theorem A5R (w n:Nat) (x:Nat->Int):dotN w (List.replicate n (0:Int)) x=0:=A0a fun k _=>by
 have:(List.replicate n (0:Int)).getD k 0=0:=by simp[List.getD_eq_getElem?_getD,List.getElem?_replicate];split<;>rfl
 rw[this,Int.zero_mul]
theorem A5B {p:Int} {h w:Nat} {R:List (List Int)} (o:RowsOk p h w R) {t c:Nat} (ht:t<h) (hu:(inv_ p (en R t c)*en R t c)%p=1) (x:Nat->Int):Null p w (A1M p w t c R) x↔Null p w R x:=by
 unfold A1M;refine A6V (by rw[o.len];exact ht) ?_;rw[A0c (A3U (by simp) x),A5R,Int.zero_add,A6m hu]
theorem A2i {p:Int} {R:List (List Int)} {t c i:Nat} (hi:i<R.length):(A1C p t c R).getD i []=A0X p t c R i:=A0K _ [] hi
theorem A3W (p:Int) (t c:Nat) (R:List (List Int)):(A1C p t c R).length=R.length:=by simp[A1C]
theorem A5c {p:Int} {h w:Nat} {R:List (List Int)} (o:RowsOk p h w R) {t c:Nat} (ht:t<h) (x:Nat->Int):Null p w (A1C p t c R) x↔Null p w R x:=by
 have hl:=o.len;have key:∀ i,i<h->p ∣ dotN w (R.getD t []) x->(p ∣ dotN w (A0X p t c R i) x↔p ∣ dotN w (R.getD i []) x):=by
   intro i hi ht';unfold A0X;split
   . rfl
   . rw[A0c (A3U (o.at hi).1 x)];refine A0c ?_;rw[show ∀ a b:Int,a+b-a=b by omega];exact Int.dvd_mul_of_dvd_right ht'
 constructor
 . intro k i hi;have ht':=k t (by rw[A3W];omega);rw[A2i (by omega),A1B]at ht';have:=k i (by rw[A3W];exact hi);rw[A2i hi]at this;exact(key i (by omega) ht').1 this
 . intro k i hi;rw[A3W]at hi;rw[A2i hi];exact(key i (by omega) (k t (by omega))).2 (k i hi)
abbrev pv (P:List Int) (k:Nat):Nat:=(P.getD k 0).toNat
structure Rref (p:Int) (h w c:Nat) (E:List (List Int)) (P:List Int):Prop where
 ok:RowsOk p h w E
 len:P.length≤h
 inr:∀ k,k<P.length->0≤P.getD k 0/\P.getD k 0<(c:Int)
 asc:P.Pairwise (·<·)
 one:∀ k,k<P.length->en E k (pv P k)=1
 zer:∀ k i,k<P.length->i<h->i≠k->en E i (pv P k)=0
 low:∀ i,P.length≤i->i<h->∀ j,j<c->en E i j=0
 led:∀ k,k<P.length->∀ j,j<pv P k->en E k j=0
theorem emod_self {p a:Int} (h:0≤a/\a≤p-1):a%p=a:=Int.emod_eq_of_lt h.1 (by omega)
theorem step_en {p:Int} {h w c:Nat} (hp:A0G p) {E:List (List Int)} (o:RowsOk p h w E) {t a:Nat} (ht:t≤a) (ha:a<h) (hc:c<w) (hlow:∀ i,t≤i->i<h->∀ j,j<c->en E i j=0) (hne:en E a c≠0) :
   (∀ i,i<h->(∀ j,j<c->en (A1C p t c (A1M p w t c (A0b E t a))) i j=en E i j)/\en (A1C p t c (A1M p w t c (A0b E t a))) i c=if i=t then 1 else 0) ∧
   ∀ x,Null p w (A1C p t c (A1M p w t c (A0b E t a))) x↔Null p w E x:=by
 have h2:=hp.1.1;have htl:t<E.length:=by rw[o.len];omega
 have hal:a<E.length:=by rw[o.len];omega
 have oS:=A3s o (t:=t) (a:=a) (by omega) ha;have gS:=A2E htl hal;generalize hS:A0b E t a=S at *;have oZ:=A2o h2 oS t c;have hSt:S.getD t []=E.getD a []:=by
   rw[gS];by_cases e:t=a
   . subst e;rw[if_pos rfl]
   . rw[if_neg e,if_pos rfl]
 have hlead:=o.cell ha c hc;have hu:(inv_ p (en S t c)*en S t c)%p=1:=by
   have e:en S t c=en E a c:=by unfold en;rw[hSt]
   rw[e];exact inv_mul hp ⟨by unfold en at hne ⊢;omega,by unfold en;omega⟩
 have hZn:=fun x=>A5B oS (show t<h by omega) hu x;have gZ:∀ i,(A1M p w t c S).getD i []=if i=t then addL p (inv_ p ((S.getD t []).getD c 0)) (List.replicate w 0) (S.getD t [])else S.getD i []:=by
   intro i;unfold A1M;by_cases e:i=t
   . subst e;rw[if_pos rfl,A1U (by rw[oS.len];omega)]
   . rw[if_neg e,A1k (Ne.symm e)]
 generalize hZ:A1M p w t c S=Z at *;have zt:∀ j,j<w->en Z t j=(inv_ p (en S t c)*en S t j)%p:=fun j hj=>by
   unfold en;rw[gZ,if_pos rfl,A2f (by simpa using hj)];have:(List.replicate w (0:Int)).getD j 0=0:=by simp[List.getD_eq_getElem?_getD,List.getElem?_replicate,hj]
   rw[this,Int.zero_add]
 have ztc:en Z t c=1:=by rw[zt c hc,hu]
 have ztl:∀ j,j<c->en Z t j=0:=fun j hj=>by
   rw[zt j (by omega)];have:en S t j=0:=by unfold en;rw[hSt];exact hlow a ht ha j hj
   rw[this,Int.mul_zero];rfl
 have zl:∀ i,i<h->∀ j,j<c->en Z i j=en E i j:=fun i hi j hj=>by
   by_cases e:i=t
   . subst e;rw[ztl j hj];exact(hlow i (Nat.le_refl _) hi j hj).symm
   . unfold en;rw[gZ,if_neg e,gS];by_cases e2:i=a
     . subst e2;rw[if_pos rfl];have h1:=hlow t (Nat.le_refl _) (by omega) j hj;have h2:=hlow i ht hi j hj;unfold en at h1 h2;rw[h1,h2]
     . rw[if_neg e2,if_neg e]
 have hl:Z.length=h:=oZ.len;refine⟨fun i hi=>?_,fun x=>?_⟩
 . have ge:∀ j,en (A1C p t c Z) i j=(A0X p t c Z i).getD j 0:=fun j=>by unfold en;rw[A2i (by omega)]
   refine⟨fun j hj=>?_,?_⟩
   . rw[ge];unfold A0X;split
     . exact zl i hi j hj
     . rw[A2f (by rw[(oZ.at hi).1];omega)];have h1:=ztl j hj;have h3:=zl i hi j hj;unfold en at h1 h3;rw[h1,h3,Int.mul_zero,Int.add_zero];exact emod_self (o.cell hi j (by omega))
   . rw[ge];unfold A0X;by_cases e:i=t
     . subst e;rw[if_pos (.inl rfl),if_pos rfl];exact ztc
     . rw[if_neg e];by_cases e2:(Z.getD i []).getD c 0=0
       . rw[if_pos (.inr e2)];exact e2
       . rw[if_neg (by simp only[not_or];exact⟨e,e2⟩),A2f (by rw[(oZ.at hi).1];omega)];unfold en at ztc;rw[ztc,Int.mul_one,show(Z.getD i []).getD c 0+(p-(Z.getD i []).getD c 0)=p by omega,Int.emod_self]
 . rw[A5c oZ (show t<h by omega),hZn,<-hS,A5d htl hal]
theorem A3g {P:List Int} {c:Int} (h:P.Pairwise (·<·)) (hb:∀ x∈P,x<c):(P++[c]).Pairwise (·<·):=by
 rw[List.pairwise_append];exact⟨h,by simp,fun x hx y hy=>by rw[List.mem_singleton.1 hy];exact hb x hx⟩
theorem A5s {p:Int} {h w c:Nat} (hp:A0G p) {E:List (List Int)} {P:List Int} (hc:c<w) (r:Rref p h w c E P) :
   Rref p h w (c+1) (A0R p w c (E,P)).1 (A0R p w c (E,P)).2/\∀ x,Null p w (A0R p w c (E,P)).1 x↔Null p w E x:=by
 have hs:=A3w E P.length c (by rw[r.ok.len];exact r.len);have hok:=A6w (s:=(E,P)) (c:=c) hp.1.1 r.ok r.len;unfold A0R at hok ⊢;simp only at hok ⊢;split
 . rename_i hlt;rw[if_pos hlt]at hok;obtain⟨s1,s2,s3,s4⟩:=hs;have hlt':=hlt;rw[r.ok.len]at hlt';obtain⟨e1,e2⟩:=step_en hp r.ok s1 hlt' hc r.low (s4 hlt);have gl:∀ k,k<P.length->(P++[(c:Int)]).getD k 0=P.getD k 0:=fun k hk=>by simp[List.getD_eq_getElem?_getD,List.getElem?_append_left hk]
   have gr:(P++[(c:Int)]).getD P.length 0=c:=by simp[List.getD_eq_getElem?_getD]
   have hpl:(P++[(c:Int)]).length=P.length+1:=by simp
   have hbd:∀ k,k<P.length->pv P k<c:=fun k hk=>by have:=r.inr k hk;unfold pv;omega
   refine⟨⟨hok.1,hok.2,fun k hk=>?_,A3g r.asc fun x hx=>?_,fun k hk=>?_,fun k i hk hi hne=>?_,fun i hi1 hi2 j hj=>?_,fun k hk j hj=>?_⟩,e2⟩
   . rw[hpl]at hk;by_cases e:k=P.length
     . subst e;rw[gr];omega
     . rw[gl k (by omega)];have:=r.inr k (by omega);omega
   . obtain⟨k,hk,rfl⟩:=List.getElem_of_mem hx;have:=r.inr k hk;rw[A0y hk]at this;omega
   . rw[hpl]at hk;by_cases e:k=P.length
     . subst e;have:pv (P++[(c:Int)]) P.length=c:=by unfold pv;rw[gr];omega
       rw[this,(e1 _ (by omega)).2,if_pos rfl]
     . have:pv (P++[(c:Int)]) k=pv P k:=by unfold pv;rw[gl k (by omega)]
       have hl:=r.len;rw[this,(e1 k (by omega)).1 _ (hbd k (by omega))];exact r.one k (by omega)
   . rw[hpl]at hk;by_cases e:k=P.length
     . subst e;have:pv (P++[(c:Int)]) P.length=c:=by unfold pv;rw[gr];omega
       rw[this,(e1 _ hi).2,if_neg hne]
     . have:pv (P++[(c:Int)]) k=pv P k:=by unfold pv;rw[gl k (by omega)]
       rw[this,(e1 i hi).1 _ (hbd k (by omega))];exact r.zer k i (by omega) hi hne
   . rw[hpl]at hi1;by_cases e:j=c
     . subst e;rw[(e1 i hi2).2,if_neg (by omega)]
     . rw[(e1 i hi2).1 j (by omega)];exact r.low i (by omega) hi2 j (by omega)
   . rw[hpl]at hk;by_cases e:k=P.length
     . subst e;have:pv (P++[(c:Int)]) P.length=c:=by unfold pv;rw[gr];omega
       rw[this]at hj;rw[(e1 _ (by omega)).1 j hj];exact r.low _ (Nat.le_refl _) (by omega) j hj
     . have:pv (P++[(c:Int)]) k=pv P k:=by unfold pv;rw[gl k (by omega)]
       rw[this]at hj;have hb:=hbd k (by omega);have hl:=r.len;rw[(e1 k (by omega)).1 j (by omega)];exact r.led k (by omega) j hj
 . rename_i hlt;obtain⟨s1,s2,s3,s4⟩:=hs;refine⟨⟨r.ok,r.len,fun k hk=>?_,r.asc,r.one,r.zer,fun i hi1 hi2 j hj=>?_,r.led⟩,fun x=>Iff.rfl⟩
   . have:=r.inr k hk;show 0≤P.getD k 0/\P.getD k 0<((c+1:Nat):Int);omega
   . by_cases e:j=c
     . have hlt:¬ pivA E P.length c<E.length:=hlt;rw[r.ok.len]at hlt;rw[e];exact s3 i hi1 (by omega)
     . exact r.low i hi1 hi2 j (by omega)
theorem A0O {p:Int} {h w:Nat} (hp:A0G p) {R:List (List Int)} (o:RowsOk p h w R):∀ c,c≤w->Rref p h w c (gjN p w R c).1 (gjN p w R c).2/\∀ x,Null p w (gjN p w R c).1 x↔Null p w R x
 | 0,_=>⟨⟨o,Nat.zero_le _,by simp[gjN],by simp[gjN],by simp[gjN],by simp[gjN],by intro i _ _ j hj;exact absurd hj (Nat.not_lt_zero j),by simp[gjN]⟩,fun x=>Iff.rfl⟩
 | c+1,hc=>by
   obtain⟨r1,r2⟩:=A0O hp o c (by omega);obtain⟨s1,s2⟩:=A5s hp (show c<w by omega) r1;exact⟨s1,fun x=>(s2 x).trans (r2 x)⟩
theorem A0h {p:Int} {h w c:Nat} {E:List (List Int)} {P:List Int} (r:Rref p h w c E P) (j:Nat):(j:Int)∈P↔∃ k,k<P.length/\pv P k=j:=by
 constructor
 . intro hj;obtain⟨k,hk,e⟩:=List.getElem_of_mem hj;exact⟨k,hk,by unfold pv;rw[A0y hk,e];rfl⟩
 . rintro⟨k,hk,rfl⟩;have h1:=r.inr k hk;have:((pv P k:Nat):Int)=P.getD k 0:=by unfold pv;omega
   rw[this];exact A0z 0 hk
theorem Rref.pw {p:Int} {h w c:Nat} {E:List (List Int)} {P:List Int} (r:Rref p h w c E P) {k:Nat} (hk:k<P.length):pv P k<c:=by
 have:=r.inr k hk;unfold pv;omega
theorem Rref.en0 {p:Int} {h w c:Nat} {E:List (List Int)} {P:List Int} (r:Rref p h w c E P) {k l:Nat} (hk:k<P.length) (hl:l<P.length) (hne:k≠l):en E k (pv P l)=0 :=
 r.zer l k hl (by have:=r.len;omega) hne
theorem Rref.inj {p:Int} {h w c:Nat} {E:List (List Int)} {P:List Int} (r:Rref p h w c E P) {k l:Nat} (hk:k<P.length) (hl:l<P.length) (e:pv P k=pv P l):k=l:=by
 by_cases hne:k=l
 . exact hne
 . have h1:=r.one k hk;rw[e,r.en0 hk hl hne]at h1;cases h1
def mask (P:List Int) (y:Nat->Int) (q:Nat):Int:=if (q:Int)∈P then 0 else y q
def fixV (w:Nat) (E:List (List Int)) (P:List Int) (y:Nat->Int) (q:Nat):Int:=mask P y q-sumN (fun k=>dotN w (E.getD k []) (mask P y)*dl (pv P k) q) P.length
theorem A1T {p:Int} {h:Nat} {w:Nat} {E:List (List Int)} {P:List Int} (r:Rref p h w w E P) (y:Nat->Int):Null p w E (fixV w E P y):=fun i hi=>by
 rw[r.ok.len]at hi;have e:dotN w (E.getD i []) (fixV w E P y)=dotN w (E.getD i []) (mask P y)-sumN (fun k=>dotN w (E.getD k []) (mask P y)*en E i (pv P k)) P.length:=by
   unfold fixV;rw[A3V,A4R];congr 1;refine A0A fun k hk=>?_;rw[A4Q,A1p _ (r.pw hk)]
 rw[e];by_cases hr:i<P.length
 . rw[A0u hr fun k hk hne=>by rw[r.en0 hr hk (Ne.symm hne),Int.mul_zero],r.one i hr,Int.mul_one,Int.sub_self];exact Int.dvd_zero p
 . have z:∀ j,j<w->en E i j=0:=r.low i (by omega) hi;have e1:dotN w (E.getD i []) (mask P y)=0:=A0a fun k hk=>by have:=z k hk;unfold en at this;rw[this,Int.zero_mul]
   rw[e1,A0a fun k hk=>by rw[z _ (r.pw hk),Int.mul_zero]];exact Int.dvd_zero p
theorem A0p {p:Int} {h:Nat} {w:Nat} {E:List (List Int)} {P:List Int} (r:Rref p h w w E P) (y:Nat->Int) {q:Nat} (hq:(q:Int)∉P):fixV w E P y q=y q:=by
 unfold fixV mask;rw[if_neg hq,A0a fun k hk=>?_,Int.sub_zero];rw[dl,if_neg (fun e=>hq ((A0h r q).2 ⟨k,hk,e.symm⟩)),Int.mul_zero]
theorem fix_piv {p:Int} {h:Nat} {w:Nat} {E:List (List Int)} {P:List Int} (r:Rref p h w w E P) (y:Nat->Int) {k:Nat} (hk:k<P.length):fixV w E P y (pv P k)=- dotN w (E.getD k []) (mask P y):=by
 have hm:mask P y (pv P k)=0:=if_pos ((A0h r _).2 ⟨k,hk,rfl⟩);rw[fixV,hm,A0u hk fun l hl hne=>by rw[dl,if_neg (fun e=>hne (r.inj hl hk e.symm)),Int.mul_zero],dl,if_pos rfl];omega
theorem A5f {p:Int} {h:Nat} {w:Nat} {E:List (List Int)} {P:List Int} (r:Rref p h w w E P) {x:Nat->Int} (hx:Null p w E x) (hf:∀ j,j<w->(j:Int)∉P->p ∣ x j):∀ j,j<w->p ∣ x j:=by
 intro j hj;by_cases hp:(j:Int)∈P
 . obtain⟨k,hk,rfl⟩:=(A0h r j).1 hp;have hkh:k<E.length:=by rw[r.ok.len];have:=r.len;omega
   have h1:=hx k hkh;have h2:p ∣ dotN w (E.getD k []) x-(E.getD k []).getD (pv P k) 0*x (pv P k):=A1d hj fun q hq hne=>by
     by_cases hqp:(q:Int)∈P
     . obtain⟨l,hl,rfl⟩:=(A0h r q).1 hqp;have:=r.en0 hk hl (fun e=>hne (by rw[e]));unfold en at this;rw[this,Int.zero_mul];exact Int.dvd_zero p
     . exact Int.dvd_mul_of_dvd_right (hf q hq hqp)
   have h3:=r.one k hk;unfold en at h3;rw[h3,Int.one_mul]at h2;exact(A0c h2).1 h1
 . exact hf j hj hp
theorem A2Q {p:Int} {h:Nat} {w:Nat} {E:List (List Int)} {P:List Int} (r:Rref p h w w E P) {x y:Nat->Int} (hx:Null p w E x) (hy:Null p w E y) (hf:∀ j,j<w->(j:Int)∉P->p ∣ x j-y j):∀ j,j<w->p ∣ x j-y j :=
 A5f r (A6W hx hy) hf
theorem A5X {P:List Int} {j:Nat} (hj:(j:Int)∉P):mask P (dl j)=dl j:=by
 funext q;unfold mask;split
 . rename_i hq;rw[dl,if_neg (fun e=>hj (by rw[<-e];exact hq))]
 . rfl
theorem A4i {p:Int} {h:Nat} {w:Nat} {E:List (List Int)} {P:List Int} (r:Rref p h w w E P) {j k:Nat} (hj:j<w) (hjp:(j:Int)∉P) (hk:k<P.length):fixV w E P (dl j) (pv P k)=- en E k j:=by
 rw[fix_piv r _ hk,A5X hjp,A1p _ hj]
theorem A3b {p:Int} {h:Nat} {w:Nat} {E:List (List Int)} {P:List Int} (hp:2≤p) (r:Rref p h w w E P) {j:Nat} (hj:j<w):(j:Int)∉P↔∃ x,Null p w E x/\¬ p ∣ x j/\∀ q,j<q->q<w->p ∣ x q:=by
 constructor
 . intro hjp;refine⟨_,A1T r (dl j),?_,fun q hq hqw=>?_⟩
   . rw[A0p r _ hjp,dl,if_pos rfl];intro hd;have:=Int.le_of_dvd (by omega) hd;omega
   . by_cases hqp:(q:Int)∈P
     . obtain⟨k,hk,rfl⟩:=(A0h r q).1 hqp;rw[A4i r hj hjp hk,r.led k hk j hq];exact Int.dvd_zero p
     . rw[A0p r _ hqp,dl,if_neg (by omega)];exact Int.dvd_zero p
 . rintro⟨x,hx,hn,hq⟩ hjp;obtain⟨k,hk,rfl⟩:=(A0h r j).1 hjp;have hkh:k<E.length:=by rw[r.ok.len];have:=r.len;omega
   have h1:=hx k hkh;have h2:p ∣ dotN w (E.getD k []) x-(E.getD k []).getD (pv P k) 0*x (pv P k):=A1d hj fun q hqw hne=>by
     by_cases hlt:q<pv P k
     . have:=r.led k hk q hlt;unfold en at this;rw[this,Int.zero_mul];exact Int.dvd_zero p
     . exact Int.dvd_mul_of_dvd_right (hq q (by omega) hqw)
   have h3:=r.one k hk;unfold en at h3;rw[h3,Int.one_mul]at h2;exact hn ((A0c h2).1 h1)
theorem A1r:∀ {b a:List Int},a.Pairwise (·<·)->b.Pairwise (·<·)->(∀ x∈a,x∈b)->a.length≤b.length/\(a.length=b.length->a=b)
 | [],a,_,_,h=>by
   cases a with
   | nil=>simp
   | cons x a=>exact absurd (h x (by simp)) (by simp)
 | y::b,[],_,_,_=>by simp
 | y :: b,x::a,ha,hb,h=>by
   rw[List.pairwise_cons]at ha hb;by_cases e:x=y
   . subst e;obtain⟨h1,h2⟩:=A1r ha.2 hb.2 fun z hz=>by
       have:=h z (by simp[hz]);simp only[List.mem_cons]at this;rcases this with rfl|h3
       . exact absurd (ha.1 z hz) (by omega)
       . exact h3
     exact⟨by simpa using h1,fun hl=>by rw[h2 (by simpa using hl)]⟩
   . have hx:x∈b:=by
       have:=h x (by simp);simp only[List.mem_cons]at this;exact this.resolve_left e
     obtain⟨h1,_⟩:=A1r (b:=b) (a:=x::a) (by rw[List.pairwise_cons];exact ha) hb.2 fun z hz=>by
       have h3:=h z hz;simp only[List.mem_cons]at h3 hz;rcases h3 with rfl|h3
       . have:=hb.1 x hx;rcases hz with rfl|hz
         . omega
         . have:=ha.1 z hz;omega
       . exact h3
     simp only[List.length_cons]at h1 ⊢;exact⟨by omega,fun hl=>by omega⟩
theorem A4g {a b:List Int} (ha:a.Pairwise (·<·)) (hb:b.Pairwise (·<·)) (h:∀ x,x∈a↔x∈b):a=b:=by
 obtain⟨h1,h2⟩:=A1r ha hb fun x=>(h x).1;obtain⟨h3,_⟩:=A1r hb ha fun x=>(h x).2;exact h2 (by omega)
theorem A5l {p:Int} {h:Nat} {w:Nat} {E:List (List Int)} {P:List Int} (r:Rref p h w w E P) {x:Int} (hx:x∈P):∃ j:Nat,j<w/\x=j:=by
 obtain⟨k,hk,rfl⟩:=List.getElem_of_mem hx;have h1:=r.inr k hk;rw[A0y hk]at h1;exact⟨P[k].toNat,by omega,by omega⟩
end Go.Proofs.YthiiohhfalmgdaaGreat
