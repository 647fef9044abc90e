/- What the functions answer. -/
import Derived.Test.YthiiohhfalmgdaaGreatCoverDimsP1
namespace Go.Proofs.YthiiohhfalmgdaaGreat
open Go Go.Vm
set_option linter.unusedVariables false
set_option linter.unusedSimpArgs false
theorem A3d {p:Int} {h:Nat} {h':Nat} {w:Nat} {E:List (List Int)} {E':List (List Int)} {P:List Int} {P':List Int} (hp:2≤p) (r:Rref p h w w E P) (r':Rref p h' w w E' P') (hs:∀ x,Null p w E x->Null p w E' x):∀ x∈P',x∈P:=fun x hx=>by
 obtain⟨j,hj,rfl⟩:=A5b r' hx;by_cases hjp:(j:Int)∈P
 . exact hjp
 . obtain⟨y,h1,h2,h3⟩:=(A3X hp r hj).1 hjp;exact absurd hx ((A3X hp r' hj).2 ⟨y,hs y h1,h2,h3⟩)
theorem A6n {p:Int} {h:Nat} {h':Nat} {w:Nat} {E:List (List Int)} {E':List (List Int)} {P:List Int} {P':List Int} (hp:2≤p) (r:Rref p h w w E P) (r':Rref p h' w w E' P') (hs:∀ x,Null p w E x↔Null p w E' x):P=P' :=
 A4b r.asc r'.asc fun x=>⟨A3d hp r' r (fun y=>(hs y).2) x,A3d hp r r' (fun y=>(hs y).1) x⟩
theorem A6l {p:Int} {a b:Int} (ha:0≤a/\a≤p-1) (hb:0≤b/\b≤p-1) (h:p ∣ a-b):a=b:=by
 have h1:=emod_self ha;have h2:=emod_self hb;have:=(Int.emod_eq_emod_iff_emod_sub_eq_zero).2 (Int.emod_eq_zero_of_dvd h);omega
theorem A5i {p:Int} {h:Nat} {h':Nat} {w:Nat} {E:List (List Int)} {E':List (List Int)} {P:List Int} {P':List Int} (hp:2≤p) (r:Rref p h w w E P) (r':Rref p h' w w E' P') (hs:∀ x,Null p w E x↔Null p w E' x):P=P'/\E.take P.length=E'.take P.length:=by
 have e:=A6n hp r r' hs;subst e;refine⟨rfl,?_⟩;have hl:=r.len;have hl':=r'.len;refine List.ext_getElem (by simp[r.ok.len,r'.ok.len];omega) fun k h1 h2=>?_;have hk:k<P.length:=by simp at h1;omega
 rw[List.getElem_take,List.getElem_take,<-A0z (d:=[]),<-A0z (d:=[])];have o1:=r.ok.at (i:=k) (by omega);have o2:=r'.ok.at (i:=k) (by omega);refine List.ext_getElem (by rw[o1.1,o2.1]) fun j h3 h4=>?_;rw[<-A0z (d:=0),<-A0z (d:=0)];have hj:j<w:=by rw[o1.1]at h3;exact h3
 show en E k j=en E' k j;by_cases hjp:(j:Int)∈P
 . obtain⟨l,hl,rfl⟩:=(A0h r j).1 hjp;by_cases e:k=l
   . subst e;rw[r.one k hk,r'.one k hk]
   . rw[r.en0 hk hl e,r'.en0 hk hl e]
 . have h5:=A2K r (A1P r (dl j)) ((hs _).2 (A1P r' (dl j))) (fun q hq hqp=>by rw[A0m r _ hqp,A0m r' _ hqp,Int.sub_self];exact Int.dvd_zero p) (pv P k) (r.pw hk);rw[A4d r hj hjp hk,A4d r' hj hjp hk]at h5;refine(A6l (r'.ok.cell (by omega) j hj) (r.ok.cell (by omega) j hj) ?_).symm
   rwa [show-en E k j - - en E' k j=en E' k j-en E k j by omega]at h5
theorem A5T {p:Int} {h:Nat} {h':Nat} {w:Nat} {E:List (List Int)} {E':List (List Int)} {P:List Int} {P':List Int} (r:Rref p h w w E P) (r':Rref p h' w w E' P') (hp:2≤p) (hs:∀ x,Null p w E x->Null p w E' x) (hl:P.length=P'.length):∀ x,Null p w E' x->Null p w E x:=fun x hx=>by
 have e:P'=P:=(A1p r'.asc r.asc (A3d hp r r' hs)).2 hl.symm;subst e;have h1:=A1P r x;exact A4x (A2K r' (hs _ h1) hx fun j hj hjp=>by rw[A0m r _ hjp,Int.sub_self];exact Int.dvd_zero p) h1
def rk (p:Int) (w:Nat) (R:List (List Int)):Nat:=(gjN p w R w).2.length
theorem A4l {p:Int} {w:Nat} {R:List (List Int)} {x:Nat->Int} (h:Null p w R x) {r:List Int} (hr:r∈R):p ∣ dotN w r x:=by
 obtain⟨i,hi,rfl⟩:=List.getElem_of_mem hr;have:=h i hi
 rwa [A0z hi]at this
theorem row_exp {p:Int} {h:Nat} {w:Nat} {R:List (List Int)} (hp:A0E p) (o:RowsOk p h w R) {i j:Nat} (hi:i<h) (hj:j<w) :
   p ∣ en R i j-sumN (fun k=>en (gjN p w R w).1 k j*en R i (pv (gjN p w R w).2 k)) (gjN p w R w).2.length:=by
 obtain⟨r,hn⟩:=A0L hp o w (Nat.le_refl _);generalize (gjN p w R w).1=E at *;generalize (gjN p w R w).2=P at *;by_cases hjp:(j:Int)∈P
 . obtain⟨l,hl,rfl⟩:=(A0h r j).1 hjp;rw[A1z hl fun k hk hne=>by rw[r.en0 hk hl hne,Int.zero_mul],r.one l hl,Int.one_mul,Int.sub_self];exact Int.dvd_zero p
 . have h1:=(hn _).1 (A1P r (dl j)) i (by rw[o.len];exact hi);have e:dotN w (R.getD i []) (fixV w E P (dl j))=en R i j-sumN (fun k=>en E k j*en R i (pv P k)) P.length:=by
     unfold fixV;rw[A3S,A4L,A5Q hjp,A1m _ hj];congr 1;refine A0w fun k hk=>?_;rw[A4K,A1m _ (r.pw hk),A1m _ hj]
   rwa [e]at h1
theorem rk_le {p:Int} {h:Nat} {w:Nat} {R:List (List Int)} (hp:A0E p) (o:RowsOk p h w R):rk p w R≤h:=(A0L hp o w (Nat.le_refl _)).1.len
theorem A6U {p:Int} {h:Nat} {w:Nat} {R:List (List Int)} {T:List (List Int)} (hp:A0E p) {h':Nat} (o:RowsOk p h w R) (o':RowsOk p h' w T) (hs:∀ x,Null p w R x↔Null p w T x):rk p w R=rk p w T:=by
 obtain⟨r,hn⟩:=A0L hp o w (Nat.le_refl _);obtain⟨r',hn'⟩:=A0L hp o' w (Nat.le_refl _);unfold rk;rw[A6n hp.1.1 r r' fun x=>(hn x).trans ((hs x).trans (hn' x).symm)]
theorem A4Y {p:Int} {h:Nat} {w:Nat} {R:List (List Int)} {T:List (List Int)} (hp:A0E p) (o:RowsOk p h w R) (oT:RowsOk p w h T) (ht:∀ i j,i<h->j<w->en T j i=en R i j):rk p h T≤rk p w R:=by
 obtain⟨r,hn⟩:=A0L hp o w (Nat.le_refl _);have hexp:∀ i j,i<h->j<w->_:=fun i j hi hj=>row_exp hp o hi hj;unfold rk;generalize (gjN p w R w).1=E at *;generalize (gjN p w R w).2=P at *;have hC:RowsOk p P.length h (P.map fun x=>T.getD x.toNat []):=by
   refine⟨by simp,fun q hq=>?_⟩;obtain⟨x,hx,rfl⟩:=List.mem_map.1 hq;obtain⟨j,hj,rfl⟩:=A5b r hx;exact oT.at (by simpa using hj)
 have hget:∀ k,k<P.length->(P.map fun x=>T.getD x.toNat []).getD k []=T.getD (pv P k) []:=fun k hk=>by
   simp only[List.getD_eq_getElem?_getD,List.getElem?_map,pv];rw[List.getElem?_eq_getElem hk];rfl
 have hs : ∀ x,Null p h T x↔Null p h (P.map fun x=>T.getD x.toNat []) x:=fun x=>by
   constructor
   . intro hx k hk;have hk:k<P.length:=by simpa using hk
     rw[hget k hk];exact hx _ (by rw[oT.len];exact r.pw hk)
   . intro hx j hj;rw[oT.len]at hj;have e1:p ∣ dotN h (T.getD j []) x-sumN (fun i=>sumN (fun k=>en E k j*en R i (pv P k)*x i) P.length) h:=by
       unfold dotN;rw[<-A0g];refine A0R fun i hi=>?_;have h1:=hexp i j hi hj;have e2:sumN (fun k=>en E k j*en R i (pv P k)*x i) P.length=sumN (fun k=>en E k j*en R i (pv P k)) P.length*x i:=by
         rw[Int.mul_comm,<-A0T];exact A0w fun k _=>Int.mul_comm _ _
       rw[e2];have e3:(T.getD j []).getD i 0=en R i j:=ht i j hi hj;rw[e3,<-Int.sub_mul];exact Int.dvd_mul_of_dvd_left h1
     refine(A0b e1).2 ?_;rw[A1I];refine A0R fun k hk=>?_;have h2:=hx k (by simpa using hk);rw[hget k hk]at h2;have e4:sumN (fun i=>en E k j*en R i (pv P k)*x i) h=en E k j*dotN h (T.getD (pv P k) []) x:=by
       unfold dotN;rw[<-A0T];refine A0w fun i hi=>?_;have:(T.getD (pv P k) []).getD i 0=en R i (pv P k):=ht i _ hi (r.pw hk);rw[this,Int.mul_assoc]
     rw[e4];exact Int.dvd_mul_of_dvd_right h2
 have h1:=A6U hp oT hC hs;have h2:=rk_le hp hC;unfold rk at h1 h2;omega
def A0q (w:Nat) (P:List Int):List Nat:=(List.range w).filter fun j:Nat=>decide ((j:Int)∉P)
theorem freeL_mem {w:Nat} {P:List Int} {j:Nat}:j∈A0q w P↔j<w/\(j:Int)∉P:=by
 unfold A0q;rw[List.mem_filter,List.mem_range,decide_eq_true_eq]
theorem A5M (w:Nat) (P:List Int):(A0q w P).Pairwise (·<·):=List.pairwise_lt_range.sublist List.filter_sublist
theorem A4c:∀ {l:List Nat},l.Pairwise (·<·)->(l.map fun j:Nat=>(j:Int)).Pairwise (·<·):=fun h=>by
 rw[List.pairwise_map];exact h.imp fun h=>by omega
theorem A3r {p:Int} {h w:Nat} {E:List (List Int)} {P:List Int} (r:Rref p h w w E P):(A0q w P).length+P.length=w:=by
 have h1:(((List.range w).filter fun j:Nat=>decide ((j:Int)∈P)).map fun j:Nat=>(j:Int))=P:=by
   refine A4b (A4c (List.pairwise_lt_range.sublist List.filter_sublist)) r.asc fun x=>?_;simp only[List.mem_map,List.mem_filter,List.mem_range,decide_eq_true_eq];constructor
   . rintro⟨j,⟨_,h⟩,rfl⟩;exact h
   . intro hx;obtain⟨j,hj,rfl⟩:=A5b r hx;exact⟨j,⟨hj,hx⟩,rfl⟩
 have h2:=congrArg List.length h1;rw[List.length_map]at h2;have h3:∀ l:List Nat,(l.filter fun j:Nat=>decide ((j:Int)∉P)).length+(l.filter fun j:Nat=>decide ((j:Int)∈P)).length=l.length:=by
   intro l;induction l with
   | nil=>rfl
   | cons a l ih =>
     simp only[List.filter_cons];by_cases ha:(a:Int)∈P<;>simp[ha]<;>simp at ih<;>omega
 have h4:=h3 (List.range w);rw[List.length_range]at h4;unfold A0q;omega
structure KerOk (p:Int) (w:Nat) (E:List (List Int)) (P:List Int) (K:List (List Int)):Prop where
 ok:RowsOk p (A0q w P).length w K
 val:∀ i,i<(A0q w P).length->∀ q,q<w->p ∣ en K i q-fixV w E P (dl ((A0q w P).getD i 0)) q
theorem A4O {w:Nat} {P:List Int} {i:Nat} (hi:i<(A0q w P).length):(A0q w P).getD i 0<w/\(((A0q w P).getD i 0:Nat):Int)∉P:=freeL_mem.1 (A0y 0 hi)
theorem A6G {w:Nat} {P:List Int} {i l:Nat} (hi:i<(A0q w P).length) (hl:l<(A0q w P).length) (e:(A0q w P).getD i 0=(A0q w P).getD l 0):i=l:=by
 have ha:=A5M w P;rw[List.pairwise_iff_getElem]at ha;rw[A0z hi,A0z hl]at e;rcases Nat.lt_trichotomy i l with h|h|h
 . have:=ha i l hi hl h;omega
 . exact h
 . have:=ha l i hl hi h;omega
theorem A6L {p:Int} {h:Nat} {w:Nat} {E:List (List Int)} {P:List Int} {K:List (List Int)} (r:Rref p h w w E P) (k:KerOk p w E P K) {i:Nat} (hi:i<(A0q w P).length):Null p w E (fun q=>en K i q) :=
 A4x (fun q hq=>by have:=Int.dvd_neg.2 (k.val i hi q hq);rwa [Int.neg_sub]at this) (A1P r (dl ((A0q w P).getD i 0)))
theorem A2h {p:Int} {h:Nat} {w:Nat} {E:List (List Int)} {P:List Int} {K:List (List Int)} (r:Rref p h w w E P) (k:KerOk p w E P K) {i l:Nat} (hi:i<(A0q w P).length) (hl:l<(A0q w P).length):p ∣ en K i ((A0q w P).getD l 0)-(if l=i then 1 else 0):=by
 obtain⟨h1,h2⟩:=A4O hl;have:=k.val i hi _ h1;rw[A0m r _ h2,dl]at this;by_cases e:l=i
 . subst e;rwa [if_pos rfl]at this ⊢
 . rw[if_neg e]
   rwa [if_neg (fun e'=>e (A6G hl hi e'))]at this
theorem A6M {p:Int} {h:Nat} {w:Nat} {E:List (List Int)} {P:List Int} {K:List (List Int)} (r:Rref p h w w E P) (k:KerOk p w E P K) {v:Nat->Int} (hv:Null p w E v):∀ q,q<w->p ∣ sumN (fun i=>v ((A0q w P).getD i 0)*en K i q) (A0q w P).length-v q:=by
 refine A2K r (fun i hi=>?_) hv fun q hq hqp=>?_
 . rw[A4L];refine A0R fun l hl=>?_;rw[A4K];exact Int.dvd_mul_of_dvd_right (A6L r k hl i hi)
 . obtain⟨l,hl,e⟩:=List.getElem_of_mem (freeL_mem.2 ⟨hq,hqp⟩);rw[<-A0z (d:=0)]at e;subst e;have h1:p ∣ sumN (fun i=>v ((A0q w P).getD i 0)*en K i ((A0q w P).getD l 0)) (A0q w P).length-v ((A0q w P).getD l 0)*en K l ((A0q w P).getD l 0):=A1c hl fun i hi hne=>by
     have:=A2h r k hi hl;rw[if_neg (Ne.symm hne),Int.sub_zero]at this;exact Int.dvd_mul_of_dvd_right this
   have h2:=A2h r k hl hl;rw[if_pos rfl]at h2;have h3:p ∣ v ((A0q w P).getD l 0)*(en K l ((A0q w P).getD l 0)-1):=Int.dvd_mul_of_dvd_right h2;rw[Int.mul_sub,Int.mul_one]at h3;have:=Int.dvd_add h1 h3
   rwa [show ∀ a b c:Int,a-b+(b-c)=a-c by omega]at this
theorem ker_ann {p:Int} {h:Nat} {w:Nat} {E:List (List Int)} {P:List Int} {K:List (List Int)} (r:Rref p h w w E P) (k:KerOk p w E P K) {x v:Nat->Int} (hx:Null p w K x) (hv:Null p w E v):p ∣ sumN (fun q=>v q*x q) w:=by
 have h1:p ∣ sumN (fun q=>sumN (fun i=>v ((A0q w P).getD i 0)*en K i q*x q) (A0q w P).length) w-sumN (fun q=>v q*x q) w:=by
   rw[<-A0g];refine A0R fun q hq=>?_;have e2:sumN (fun i=>v ((A0q w P).getD i 0)*en K i q*x q) (A0q w P).length=sumN (fun i=>v ((A0q w P).getD i 0)*en K i q) (A0q w P).length*x q:=by
     rw[Int.mul_comm,<-A0T];exact A0w fun k _=>Int.mul_comm _ _
   rw[e2,<-Int.sub_mul];exact Int.dvd_mul_of_dvd_left (A6M r k hv q hq)
 refine(A0b h1).1 ?_;rw[A1I];refine A0R fun i hi=>?_;have e4:sumN (fun q=>v ((A0q w P).getD i 0)*en K i q*x q) w=v ((A0q w P).getD i 0)*dotN w (K.getD i []) x:=by
   unfold dotN;rw[<-A0T];exact A0w fun q _=>by rw[Int.mul_assoc]
 rw[e4];exact Int.dvd_mul_of_dvd_right (hx i (by rw[k.ok.len];exact hi))
def A2P (h w:Nat) (R:List (List Int)):List (List Int):=(List.range w).map fun j=>(List.range h).map fun i=>en R i j
theorem A6b {p:Int} {h w:Nat} {R:List (List Int)} (o:RowsOk p h w R):RowsOk p w h (A2P h w R):=by
 refine⟨by simp[A2P],fun r hr=>?_⟩;unfold A2P at hr;obtain⟨j,hj,rfl⟩:=List.mem_map.1 hr;have hj:=List.mem_range.1 hj;refine⟨by simp,fun x hx=>?_⟩;obtain⟨i,hi,rfl⟩:=List.mem_map.1 hx;exact o.cell (List.mem_range.1 hi) j hj
theorem A3m {h w:Nat} {R:List (List Int)} {i j:Nat} (hi:i<h) (hj:j<w):en (A2P h w R) j i=en R i j:=by
 unfold A2P;rw[en,A0N _ _ hj,A0N _ _ hi]
theorem ker_rk {p:Int} {h w:Nat} {E:List (List Int)} {P:List Int} {K:List (List Int)} (hp:A0E p) (r:Rref p h w w E P) (k:KerOk p w E P K):rk p w K=(A0q w P).length:=by
 have oT := A6b k.ok;have h1:=A4Y hp k.ok oT fun i j hi hj=>A3m hi hj;have h2:=rk_le hp k.ok;obtain⟨rT,hn⟩:=A0L hp oT _ (Nat.le_refl _);have h3:(A0q w P).length≤rk p (A0q w P).length (A2P (A0q w P).length w K):=by
   unfold rk;have:=(A1p (a:=(List.range (A0q w P).length).map fun j:Nat=>(j:Int)) (A4c List.pairwise_lt_range) rT.asc fun x hx=>by
     obtain⟨j,hj,rfl⟩:=List.mem_map.1 hx;have hj:=List.mem_range.1 hj;by_cases hjp:(j:Int)∈(gjN p (A0q w P).length (A2P (A0q w P).length w K) (A0q w P).length).2
     . exact hjp
     . obtain⟨y,g1,g2,_⟩:=(A3X hp.1.1 rT hj).1 hjp;refine absurd ?_ g2;obtain⟨f1,f2⟩:=A4O hj;have g3:=(hn y).1 g1 ((A0q w P).getD j 0) (by rw[oT.len];exact f1);have g4:p ∣ dotN (A0q w P).length ((A2P (A0q w P).length w K).getD ((A0q w P).getD j 0) []) y-y j:=by
         have e:(fun i=>((A2P (A0q w P).length w K).getD ((A0q w P).getD j 0) []).getD i 0*y i)=fun i=>en (A2P (A0q w P).length w K) ((A0q w P).getD j 0) i*y i:=rfl;have g5:p ∣ dotN (A0q w P).length ((A2P (A0q w P).length w K).getD ((A0q w P).getD j 0) []) y-en (A2P (A0q w P).length w K) ((A0q w P).getD j 0) j*y j:=A1c hj fun i hi hne=>by
           have:=A2h r k hi hj;rw[if_neg (Ne.symm hne),Int.sub_zero]at this;have e:((A2P (A0q w P).length w K).getD ((A0q w P).getD j 0) []).getD i 0=en K i ((A0q w P).getD j 0):=A3m hi f1;rw[e];exact Int.dvd_mul_of_dvd_left this
         rw[A3m hj f1]at g5;have g6:=A2h r k hj hj;rw[if_pos rfl]at g6;have g7:p ∣ (en K j ((A0q w P).getD j 0)-1)*y j:=Int.dvd_mul_of_dvd_left g6;rw[Int.sub_mul,Int.one_mul]at g7;have:=Int.dvd_add g5 g7
         rwa [show ∀ a b c:Int,a-b+(b-c)=a-c by omega]at this
       exact(A0b g4).1 g3).1
   simpa using this
 omega
theorem A5W {p:Int} {h w:Nat} {E:List (List Int)} {P:List Int} (r:Rref p h w w E P) (x:Nat->Int):Null p w (E.take P.length) x↔Null p w E x:=by
 have hl:=r.len;have ho:=r.ok.len;have hg:∀ i,i<P.length->(E.take P.length).getD i []=E.getD i []:=fun i hi=>by simp[List.getD_eq_getElem?_getD,hi]
 constructor
 . intro hx i hi;by_cases hr:i<P.length
   . have:=hx i (by rw[List.length_take];omega)
     rwa [hg i hr]at this
   . have z:∀ j,j<w->en E i j=0:=r.low i (by omega) (by omega);have e1:dotN w (E.getD i []) x=0:=A0Z fun k hk=>by have:=z k hk;unfold en at this;rw[this,Int.zero_mul]
     rw[e1];exact Int.dvd_zero p
 . intro hx i hi;rw[List.length_take]at hi;rw[hg i (by omega)];exact hx i (by omega)
def A0Y (p:Int) (w:Nat) (R:List (List Int)):List (List Int):=(gjN p w R w).1.take (rk p w R)
theorem A1U {p:Int} {h w:Nat} {R:List (List Int)} (hp:A0E p) (o:RowsOk p h w R):(A0Y p w R).length=rk p w R:=by
 obtain⟨r,_⟩:=A0L hp o w (Nat.le_refl _);unfold A0Y;rw[List.length_take,r.ok.len];have:=r.len;unfold rk;omega
theorem A1d {p:Int} {h w:Nat} {R:List (List Int)} (hp:A0E p) (o:RowsOk p h w R) (x:Nat->Int):Null p w (A0Y p w R) x↔Null p w R x:=by
 obtain⟨r,hn⟩:=A0L hp o w (Nat.le_refl _);exact(A5W r x).trans (hn x)
theorem A6w {p:Int} {h h' w:Nat} {R T:List (List Int)} (hp:A0E p) (o:RowsOk p h w R) (o':RowsOk p h' w T):A0Y p w R=A0Y p w T↔∀ x,Null p w R x↔Null p w T x:=by
 constructor
 . intro e x;rw[<-A1d hp o,<-A1d hp o',e]
 . intro hs;obtain⟨r,hn⟩:=A0L hp o w (Nat.le_refl _);obtain⟨r',hn'⟩:=A0L hp o' w (Nat.le_refl _);obtain⟨e1,e2⟩:=A5i hp.1.1 r r' fun x=>(hn x).trans ((hs x).trans (hn' x).symm);unfold A0Y rk;rw[<-e1];exact e2
theorem Al2.val (xs:List Int) (n:Int) (hn:xs.length<4611686018427387904):Al2.F (xs,n,())=some ((decide (n∈xs),()),()):=by
 obtain⟨v,hv,hv'⟩:=Ev.loop (σ:=Unit) (R:=(Bool×Unit)×Unit) (fun k i _=>Al2.l2 k xs n (i:Int)) xs.length (fun i _=>∀ j,j<i->xs.getD j 0≠n) (fun r=>r=((decide (n∈xs),()),()))
   (fun i s hi hI=>by
     have E:=fun k=>Al2.l2_eq k xs n (i:Int);simp only[if_pos (ltI.2 hi),if_pos (idxI.2 hi),Int.toNat_natCast,A0x (show i<4611686018427387904 by omega)]at E;by_cases h:xs.getD i 0=n
     . exact .inl ⟨_,(Ev.const _).succ fun k=>by rw[E,if_pos (by simp only[h,beq_self_eq_true])],by
         have:n∈xs:=h▸A0y 0 hi;simp[this]⟩
     . refine .inr ⟨(),fun j hj=>?_,Goes.succ fun k=>by rw[E,if_neg (by simp only[beq_iff_eq];exact h)]⟩;by_cases hji:j=i
       . rw[hji];exact h
       . exact hI j (by omega))
   (fun s hI=>⟨_,(Ev.const _).succ fun k=>by rw[Al2.l2_eq,if_neg (by simp)],by
     have:n∉xs:=fun hm=>by
       obtain⟨j,hj,e⟩:=List.getElem_of_mem hm;exact hI j hj (by rw[A0z hj];exact e)
     simp[this]⟩) 0 () (Nat.zero_le _) (by intro j hj;omega)
 subst hv';exact Al2.of _ _ (hv.of_eq fun k=>rfl)
theorem Ah7.val (xs:List Int) (n:Int) (hn:xs.length<4611686018427387904):Ah7.F (xs,n,())=some ((decide (n∈xs),()),()):=by
 obtain⟨v,hv,hv'⟩:=Ev.loop (σ:=Unit) (R:=(Int×Unit)×Unit) (fun k i _=>Af3.l2 k xs n xs.length (i:Int)) xs.length (fun i _=>∀ j,j<i->xs.getD j 0≠n) (fun r=>∃ q:Int,r=((q,()),())/\decide (q≥0)=decide (n∈xs))
   (fun i s hi hI=>by
     have E:=fun k=>Af3.l2_eq k xs n xs.length (i:Int);simp only[if_pos (ltI.2 hi),if_pos (idxI.2 hi),Int.toNat_natCast,A0x (show i<4611686018427387904 by omega)]at E;by_cases h:n=xs.getD i 0
     . exact .inl ⟨_,(Ev.const _).succ fun k=>by rw[E,if_pos (by simp only[←h,beq_self_eq_true])],_,rfl,by
         have:n∈xs:=h▸A0y 0 hi;simp[this]⟩
     . refine .inr ⟨(),fun j hj=>?_,Goes.succ fun k=>by rw[E,if_neg (by simp only[beq_iff_eq];exact h)]⟩;by_cases hji:j=i
       . rw[hji];exact fun e=>h e.symm
       . exact hI j (by omega))
   (fun s hI=>⟨_,(Ev.const _).succ fun k=>by rw[Af3.l2_eq,if_neg (by simp)],_,rfl,by
     have:n∉xs:=fun hm=>by
       obtain⟨j,hj,e⟩:=List.getElem_of_mem hm;exact hI j hj (by rw[A0z hj];exact e)
     simp[this]⟩) 0 () (Nat.zero_le _) (by intro j hj;omega)
 obtain⟨q,rfl,hq⟩:=hv';rw[Ah7.eq,Ah7.T,Af3.of _ _ (hv.of_eq fun k=>rfl)];simp only[Option.bind_some,hq]
def A2a (p:Int) (n:Nat):MatV:=(p,(n:Int),(n:Int),A1y n n fun i j=>if i=j then 1 else 0)
theorem Ap4.val (p:Int) (n:Nat) (hn:n≤3):Ap4.F (p,(n:Int),())=some ((A2a p n,()),()):=by
 rw[Ap4.eq,Ap4.T,Ab4.val p n n _ (fun i j=>if i=j then 1 else 0) (by omega) (by omega) (fun i j _ _=>?_)]
 . rfl
 . show(As7.F ((i:Int),(j:Int),())).map (·.1)=_;rw[As7.eq,As7.T];by_cases h:i=j
   . rw[if_pos (by simp[h]),if_pos h];rfl
   . rw[if_neg (by simp;omega),if_neg h];rfl
theorem Al3.val (p:Int) (n:Nat) (hn:n≤3):Al3.F (p,(n:Int),())=some ((A2a p n,()),()):=by
 have z:=Ad0.val p n n (by omega) (by omega);have hw:∀ i:Nat,i<n->IntKind.i64.wrap (IntKind.i64.wrap ((i:Int)*(n:Int))+(i:Int))=((i*n+i:Nat):Int):=fun i hi=>(A1L (r:=n) (c:=n) (by omega) (by omega) hi hi).1;refine Al3.of _ _ ?_;obtain⟨s,⟨h1,h2⟩,hg⟩:=Goes.loop (R:=((MatV×Unit)×Unit)) (fun k i (s:List Int)=>Al3.l3 k (n:Int) (i:Int) 0 0 0 [] p (n:Int) (n:Int) s) n (fun i s=>s.length=n*n/\∀ a b,a<n->b<n->s.getD (a*n+b) 0=if a=b/\a<i then 1 else 0) (fun i s hi ⟨h1,h2⟩=>by
   have hb:i*n+i<n*n:=(A1L (r:=n) (c:=n) (by omega) (by omega) hi hi).2;refine⟨s.set (i*n+i) 1,⟨by simp[h1],fun a b ha hb'=>?_⟩,Goes.succ fun k=>?_⟩
   . by_cases e:i*n+i=a*n+b
     . have hab:a=i/\b=i:=by
         have h3:(i*n+i)/n=i:=by rw[Nat.mul_comm,Nat.mul_add_div (by omega),Nat.div_eq_of_lt hi];rfl
         have h4:(a*n+b)/n=a:=by rw[Nat.mul_comm,Nat.mul_add_div (by omega),Nat.div_eq_of_lt hb'];rfl
         have:a=i:=by rw[<-h4,<-e,h3]
         subst this;exact⟨rfl,by omega⟩
       rw[<-e,List.getD_eq_getElem?_getD,List.getElem?_set_self (by omega),if_pos ⟨by omega,by omega⟩];rfl
     . rw[List.getD_eq_getElem?_getD,List.getElem?_set_ne e,<-List.getD_eq_getElem?_getD,h2 a b ha hb'];have:¬ (a=i/\b=i):=fun hh=>e (by rw[hh.1,hh.2]);by_cases q:a=b/\a<i
       . rw[if_pos q,if_pos ⟨q.1,by omega⟩]
       . rw[if_neg q,if_neg (by omega)]
   . rw[Al3.l3_eq,if_pos (ltI.2 hi),hw i hi,if_pos (idxI.2 (by omega)),A0x (by omega)];rfl) 0 (List.replicate (n*n) 0) (Nat.zero_le _) ⟨by simp,fun a b ha hb=>by
     rw[if_neg (by omega),List.getD_eq_getElem?_getD];simp only[List.getElem?_replicate];split<;>rfl⟩
 refine Ev.of_eq (hg _ ((Ev.const _).succ fun k=>?_)) fun k=>?_
 . rw[Al3.l3_eq,if_neg (by simp)];have:s=A1y n n fun i j=>if i=j then 1 else 0:=A3V h1 fun i j hi hj=>by
     rw[h2 i j hi hj];by_cases e:i=j
     . rw[if_pos ⟨e,hi⟩,if_pos e]
     . rw[if_neg (fun hh=>e hh.1),if_neg e]
   rw[this];rfl
 . rw[Al3.T,z];rfl
theorem A6d {p:Int} (hp:A0E p) {n:Nat} (hn:n≤3):MatOk (A2a p n):=by
 refine⟨hp,⟨by simp[A2a],by simp[A2a];omega⟩,⟨by simp[A2a],by simp[A2a];omega⟩,by simp[A2a,A0F],fun x hx=>?_⟩;have h2:=hp.1.1;simp only[A2a,A1y,List.mem_flatMap,List.mem_map]at hx;obtain⟨i,-,j,-,rfl⟩:=hx;show 0≤_/\_≤p-1;split<;>omega
theorem st_nat' {st:List Int} (h:A0M 0 3 st) (k:Nat):((st.getD k 0).toNat:Int)=st.getD k 0/\(st.getD k 0).toNat≤3:=by
 by_cases hk:k<st.length
 . have:=h _ (A0y 0 hk);omega
 . rw[List.getD_eq_getElem?_getD,List.getElem?_eq_none (by omega)];simp
theorem A2v {xs:List Int} (h:A1l xs):∀ i j,i<j->j<xs.length->xs.getD i 0<xs.getD j 0:=by
 intro i j hij hj;induction j with
 | zero=>omega
 | succ j ih =>
   have h1:=h (j+1) (by omega) hj;simp only[Nat.add_sub_cancel]at h1;by_cases e:i=j
   . subst e;exact h1
   . have:=ih (by omega) (by omega);omega
theorem A1b {xs:List Int} (h:A1l xs):xs.Nodup:=by
 rw[List.nodup_iff_pairwise_ne,List.pairwise_iff_getElem];intro i j hi hj hij;have:=A2v h i j hij hj;rw[A0z hi,A0z hj]at this;omega
theorem A1w:∀ {xs ys:List Int},xs.Nodup->(∀ x∈xs,x∈ys)->xs.length≤ys.length
 | [],_,_,_=>Nat.zero_le _
 | x::xs,ys,hn,h=>by
   rw[List.nodup_cons]at hn;have hx:=h x (by simp);have:=A1w (xs:=xs) (ys:=ys.erase x) hn.2 fun y hy=>(List.mem_erase_of_ne (fun e:y=x=>hn.1 (e▸hy))).2 (h y (by simp[hy]));rw[List.length_erase_of_mem hx]at this;have h2:0<ys.length:=List.length_pos_of_mem hx;simp only[List.length_cons];omega
theorem A5k {xs ys:List Int} (hx:A1l xs) (hy:A1l ys) (h:∀ x∈xs,x∈ys) (hl:ys.length≤xs.length):xs=ys:=by
 have pw:∀ {zs:List Int},A1l zs->zs.Pairwise (·<·):=fun {zs} hz=>by
   rw[List.pairwise_iff_getElem];intro i j hi hj hij;have:=A2v hz i j hij hj
   rwa [A0z hi,A0z hj]at this
 have key:∀ (xs ys:List Int),xs.Pairwise (·<·)->ys.Pairwise (·<·)->(∀ x∈xs,x∈ys)->ys.length≤xs.length->xs=ys:=by
   intro xs;induction xs with
   | nil=>intro ys _ _ _ hl;exact(List.length_eq_zero_iff.1 (by simpa using hl)).symm
   | cons x xs ih =>
     intro ys hx hy h hl;cases ys with
     | nil=>exact absurd (h x (by simp)) (by simp)
     | cons y ys =>
       rw[List.pairwise_cons]at hx hy;by_cases e:x=y
       . subst e;rw[ih ys hx.2 hy.2 (fun z hz=>by
           have:=h z (by simp[hz]);simp only[List.mem_cons]at this;rcases this with rfl|this
           . have:=hx.1 z hz;omega
           . exact this) (by simpa using hl)]
       . have hxm:x∈ys:=by
           have:=h x (by simp);simp only[List.mem_cons]at this;exact this.resolve_left e
         have hsub:∀ z∈x::xs,z∈ys:=fun z hz=>by
           have h1:=h z hz;simp only[List.mem_cons]at h1 hz;rcases h1 with rfl|h1
           . have h3:=hy.1 x hxm;rcases hz with rfl|hz
             . omega
             . have:=hx.1 z hz;omega
           . exact h1
         have hnd:(x::xs).Nodup:=by
           rw[List.nodup_iff_pairwise_ne,List.pairwise_cons];exact⟨fun z hz=>by have:=hx.1 z hz;omega,hx.2.imp fun h=>by omega⟩
         have:=A1w hnd hsub;simp only[List.length_cons]at hl this;omega
 exact key xs ys (pw hx) (pw hy) h hl
theorem A6S {f t:List Int} (ht:t.Nodup) (hl:f.length<t.length):∃ j,j<t.length/\t.getD j 0∉f/\∀ i,i<j->t.getD i 0∈f:=by
 obtain⟨m,hm⟩:∃ m,m<t.length/\t.getD m 0∉f:=Classical.byContradiction fun hc=>by
   have:∀ x∈t,x∈f:=fun x hx=>by
     obtain⟨j,hj,rfl⟩:=List.getElem_of_mem hx;refine Classical.byContradiction fun hn=>hc ⟨j,hj,?_⟩
     rwa [A0z hj]
   have:=A1w ht this;omega
 have key:∀ m,(m<t.length/\t.getD m 0∉f)->∃ j,j<t.length/\t.getD j 0∉f/\∀ i,i<j->t.getD i 0∈f:=by
   intro m;induction m using Nat.strongRecOn with
   | ind m ih =>
     intro ⟨h1,h2⟩;by_cases h:∀ i,i<m->t.getD i 0∈f
     . exact⟨m,h1,h2,h⟩
     . obtain⟨i,hi⟩:=Classical.not_forall.1 h;obtain⟨hi,hi2⟩:=Classical.not_imp.1 hi;exact ih i hi ⟨by omega,hi2⟩
 exact key m hm
theorem A6D {f t:List Int} {j:Nat} (hj:j<t.length) (h:∀ x∈f,x∈t) (hn:t.getD j 0∉f):∀ x∈f,x∈A0k t j:=by
 intro x hx;obtain⟨i,hi,rfl⟩:=List.getElem_of_mem (h x hx);have hij:i≠j:=by
   rintro rfl;rw[A0z hi]at hn;exact hn hx
 unfold A0k;rw[List.mem_append];by_cases h2:i<j
 . left;rw[List.mem_take_iff_getElem];exact⟨i,by omega,rfl⟩
 . right;rw[List.mem_drop_iff_getElem];exact⟨i-(j+1),by omega,by congr 1;omega⟩
def StepOk (s:ShfV) (f i n:Nat) (m:MatV):Prop:=(n=0->m=A2a s.2.1 (s.2.2.1.getD f 0).toNat)/\(n=1->∃ j,j<(s.1.getD i []).length/\(s.1.getD i []).getD j 0∉s.1.getD f []/\m=mulM (A0v s i j) (A2a s.2.1 (s.2.2.1.getD f 0).toNat))
theorem A1S (s:ShfV) (h:SheafOk s) (f:Nat) (hf:f<s.1.length):∀ (n i:Nat),i<s.1.length->(s.1.getD i []).length=(s.1.getD f []).length+n->(∀ x∈s.1.getD f [],x∈s.1.getD i []) →
   ∃ m,StepOk s f i n m/\MatOk m/\m.1=s.2.1/\m.2.1=s.2.2.1.getD i 0/\m.2.2.1=s.2.2.1.getD f 0/\(∀ q,n<q->Ac5.R q (s,(f:Int),(i:Int),())=some ((m,()),()))/\∀ q,n<q->Ae6.R q (s,(f:Int),(i:Int),())=some ((m,()),()):=by
 have hn:=h.1.1;have hl:s.2.2.1.length=s.1.length:=h.2.2.1.1;have hp:=h.2.1;intro n;induction n with
 | zero =>
   intro i hi hlen hsub;have e:s.1.getD f []=s.1.getD i []:=A5k (h.1.2 f hf).1.2.2 (h.1.2 i hi).1.2.2 hsub (by omega);have e:f=i:=A1G h.1.sorted hf hi e;subst e;obtain⟨z1,z2⟩:=st_nat' h.2.2.1.2.1 f;have hu:=Ap4.val s.2.1 (s.2.2.1.getD f 0).toNat z2;have hu2:=Al3.val s.2.1 (s.2.2.1.getD f 0).toNat z2;rw[z1]at hu hu2;refine⟨A2a s.2.1 (s.2.2.1.getD f 0).toNat,⟨fun _=>rfl,fun h=>by omega⟩,A6d hp z2,rfl,z1,z1,fun q hq=>?_,fun q hq=>?_⟩
   . obtain⟨q,rfl⟩:∃ p,q=p+1:=⟨q-1,by omega⟩;have hT:Ac5.R (q+1) (s,(f:Int),(f:Int),())=Ac5.T (Ac5.R q) s.1 s.2.1 s.2.2.1 s.2.2.2 (f:Int) (f:Int):=Ac5.eq _ _ _ _ _ _ _;rw[hT,Ac5.T,if_pos (by simp),if_pos (idxI.2 (by omega)),Int.toNat_natCast,hu];rfl
   . obtain⟨q,rfl⟩:∃ p,q=p+1:=⟨q-1,by omega⟩;refine Ae6.of (Ae6.R q) s.1 s.2.1 s.2.2.1 s.2.2.2 (f:Int) (f:Int) ((Ev.const _).of_eq fun k=>?_);rw[Ae6.T,if_pos (by simp),if_pos (idxI.2 (by omega)),Int.toNat_natCast,hu2];rfl
 | succ n ih =>
   intro i hi hlen hsub;have hti:=(h.1.2 i hi).1;have htf:=(h.1.2 f hf).1;have hne:f≠i:=by rintro rfl;omega
   obtain⟨j,hj,hj1,hj2⟩:=A6S (f:=s.1.getD f []) (t:=s.1.getD i []) (A1b hti.2.2) (by omega);have h1:1<(s.1.getD i []).length:=by have:=htf.1.1;omega
   have hfl:(fcs s.1 i).length=(s.1.getD i []).length:=by rw[A0D,if_pos h1]
   have hmem:A0k (s.1.getD i []) j∈A0U (s.1.getD i []):=mem_faces.2 ⟨h1,j,hj,rfl⟩;obtain⟨m1,m2⟩:=A0H (A1f h.1 hi hmem);obtain⟨M,hM⟩:∃ M,M=A0e s.1 (A0k (s.1.getD i []) j):=⟨_,rfl⟩;have hfj:(fcs s.1 i).getD j 0=(M:Int):=by
     have e1:fcs s.1 i=(List.range (s.1.getD i []).length).map fun k=>((A0e s.1 (A0k (s.1.getD i []) k):Nat):Int):=by
       unfold fcs A0U;rw[if_pos h1,List.map_map];rfl
     rw[e1,A0z (by simpa using hj),hM];simp only[List.getElem_map,List.getElem_range]
   rw[<-hM]at m1 m2;have hlenM:(s.1.getD M []).length=(s.1.getD f []).length+n:=by rw[m2,A0Q hj];omega
   obtain⟨r,r0,r1,r2,r3,r4,r5,r6⟩:=ih M m1 hlenM (by rw[m2];exact A6D hj hsub hj1);obtain⟨k1,k2,k3,k4⟩:=h.2.2.2.2 i hi j (by omega);have k1:MatOk (A0v s i j):=k1;have k2:(A0v s i j).1=s.2.1:=k2;have k3:(A0v s i j).2.1=s.2.2.1.getD i 0:=k3;have k4:(A0v s i j).2.2.1=s.2.2.1.getD M 0:=by
     have:(A0v s i j).2.2.1=s.2.2.1.getD ((fcs s.1 i).getD j 0).toNat 0:=k4;rw[this,hfj,Int.toNat_natCast]
   have p1:=Ag5.val (A0v s i j) r k1 r1 (by rw[k2,r2]) (by rw[k4,r3]);have p2:=Ac4.val (A0v s i j) r k1 r1 (by rw[k2,r2]) (by rw[k4,r3]);refine⟨mulM (A0v s i j) r,⟨fun h=>by omega,fun h=>⟨j,hj,hj1,by rw[r0.1 (by omega)]⟩⟩,A5S k1 r1,k2,k3,r4,fun q hq=>?_,fun q hq=>?_⟩
   . obtain⟨q,rfl⟩:∃ p,q=p+1:=⟨q-1,by omega⟩;have hT:Ac5.R (q+1) (s,(f:Int),(i:Int),())=Ac5.T (Ac5.R q) s.1 s.2.1 s.2.2.1 s.2.2.2 (f:Int) (i:Int):=Ac5.eq _ _ _ _ _ _ _;obtain⟨w,hw,hw'⟩:=Ae4.val (s.1.getD i []) (Ar7.cloG (s.1.getD f [],())) (fun x=>!decide (x∈s.1.getD f [])) (fun x _=>by
       show(Ar7.F (x,s.1.getD f [],())).map (·.1)=_;rw[Ar7.eq,Ar7.T,Ah7.val _ x (by have:=htf.1.2;omega)];rfl) (by have:=hti.1.2;omega)
     have hwj:w=(j:Int):=by
       rcases hw' with⟨-,hall⟩|⟨j',a1,a2,a3,a4⟩
       . have:=hall _ (A0y 0 hj);simp only[Bool.not_eq_false',decide_eq_true_eq]at this;exact absurd this hj1
       . simp only[Bool.not_eq_true',decide_eq_false_iff_not]at a3;have:j'=j:=by
           rcases Nat.lt_trichotomy j' j with h|h|h
           . exact absurd (hj2 j' h) a3
           . exact h
           . have:=a4 j h;simp only[Bool.not_eq_false',decide_eq_true_eq]at this;exact absurd this hj1
         rw[a2,this]
     subst hwj;have d1:Ab3.F ((s.1,(s.2.1,(s.2.2.1,s.2.2.2))),(i:Int),(j:Int),())=_:=Ab3.val s h i j hi (by omega);have d2:Ac5.R q ((s.1,(s.2.1,(s.2.2.1,s.2.2.2))),(f:Int),(M:Int),())=_:=r5 q (by omega);rw[hT,Ac5.T,if_neg (by simp;omega),if_pos (idxI.2 hf),if_pos (idxI.2 hi)];simp only[Int.toNat_natCast,hw,Option.bind_some,Ab0.val s.1 h.1 i hi];rw[if_pos (idxI.2 (by omega)),d1];simp only[Option.bind_some,hfj,d2,p1]
   . obtain⟨q,rfl⟩:∃ p,q=p+1:=⟨q-1,by omega⟩;have d1:Aa4.F ((s.1,(s.2.1,(s.2.2.1,s.2.2.2))),(i:Int),(j:Int),())=_:=Aa4.val s h i j hi (by omega);have d2:Ae6.R q ((s.1,(s.2.1,(s.2.2.1,s.2.2.2))),(f:Int),(M:Int),())=_:=r6 q (by omega);refine Ae6.of (Ae6.R q) s.1 s.2.1 s.2.2.1 s.2.2.2 (f:Int) (i:Int) ?_;obtain⟨x,-,hg⟩:=Goes.loop (σ:=Unit) (R:=((MatV×Unit)×Unit)) (fun k m _=>Ae6.l5 (Ae6.R q) k s.1 s.2.1 s.2.2.1 s.2.2.2 (f:Int) (i:Int) (s.1.getD i []) (m:Int) 0 0 0 []) j (fun _ _=>True) (fun m _ hm _=>⟨(),trivial,Goes.succ fun k=>by
       rw[Ae6.l5_eq,if_pos (idxI.2 hf),if_pos (idxI.2 (by omega))];simp only[Int.toNat_natCast,Al2.val _ _ (show(s.1.getD f []).length<4611686018427387904 by have:=htf.1.2;omega),Option.bind_some];rw[if_pos (decide_eq_true (hj2 m hm)),A0x (by have:=hti.1.2;omega)]⟩) 0 () (Nat.zero_le _) trivial
     refine Ev.of_eq (hg _ ((Ev.const _).succ fun k=>?_)) fun k=>?_
     . rw[Ae6.l5_eq,if_pos (idxI.2 hf),if_pos (idxI.2 hj)];simp only[Int.toNat_natCast,Al2.val _ _ (show(s.1.getD f []).length<4611686018427387904 by have:=htf.1.2;omega),Option.bind_some];rw[if_neg (fun hh=>hj1 (of_decide_eq_true hh)),Aa2.val s.1 h.1 i hi];simp only[Option.bind_some];rw[if_pos (idxI.2 (by omega)),hfj,d2];simp only[Option.bind_some,d1,p2]
     . rw[Ae6.T,if_neg (by simp;omega),if_pos (idxI.2 hi),Int.toNat_natCast];rfl
theorem A6B {w c:Nat} {r:List Int} (hc:c<w) (hl:r.length=w) (v:Int) (y:Nat->Int):dotN w (r.set c v) y=dotN w r y+(v-r.getD c 0)*y c:=by
 have h:dotN w (r.set c v) y-dotN w r y=(v-r.getD c 0)*y c:=by
   unfold dotN;rw[<-A0g,A1z hc fun k hk hne=>?_]
   . have:(r.set c v).getD c 0=v:=by simp[List.getD_eq_getElem?_getD,hl,hc]
     rw[this,Int.sub_mul]
   . have:(r.set c v).getD k 0=r.getD k 0:=by simp[List.getD_eq_getElem?_getD,List.getElem?_set,Ne.symm hne]
     rw[this,Int.sub_self]
 omega
theorem A6i {w:Nat} (y:Nat->Int):∀ (ws:List (Nat×Int)) (z:List Int),z.length=w->(∀ q∈ws,q.1<w)->(ws.map (·.1)).Nodup->(∀ q∈ws,z.getD q.1 0=0)->dotN w (wr ws z) y=dotN w z y+(ws.map fun q=>q.2*y q.1).sum
 | [],z,_,_,_,_=>by simp[wr]
 | q :: ws,z,hz,hw,hn,h0=>by
   simp only[List.map_cons,List.nodup_cons]at hn;have ih:=A6i y ws (z.set q.1 q.2) (by simp[hz]) (fun x hx=>hw x (by simp[hx])) hn.2 fun x hx=>by
     have hne:q.1≠x.1:=fun e=>hn.1 (List.mem_map.2 ⟨x,hx,e.symm⟩);have:=h0 x (by simp[hx]);rw[List.getD_eq_getElem?_getD]at this ⊢;rw[List.getElem?_set,if_neg hne];exact this
   show dotN w (wr ws (z.set q.1 q.2)) y=_;rw[ih,A6B (hw q (by simp)) hz,h0 q (by simp),Int.sub_zero,List.map_cons,List.sum_cons];omega
theorem A4D (f:Nat->Int):∀ n,((List.range n).map f).sum=sumN f n
 | 0=>rfl
 | n+1=>by rw[List.range_succ,List.map_append,List.sum_append,A4D f n,sumN];simp
theorem A3M (g:Nat->Int) (f:Nat->List (Nat×Int)) (h:Nat×Int->Int):∀ n,(∀ i,i<n->((f i).map h).sum=g i)->((((List.range n).flatMap f).map h).sum)=sumN g n
 | 0,_=>rfl
 | n+1,hf=>by
   rw[List.range_succ,List.flatMap_append,List.map_append,List.sum_append,A3M g f h n fun i hi=>hf i (by omega),sumN];simp only[List.flatMap_cons,List.flatMap_nil,List.append_nil];rw[hf n (by omega)]
theorem A2U (c m:Nat->Nat) (v:Nat->Nat->Int):∀ n,(∀ i j,i<n->j<n->i≠j->c i+m i≤c j∨c j+m j≤c i)->(((List.range n).flatMap fun i=>(List.range (m i)).map fun b=>(c i+b,v i b)).map (·.1)).Nodup
 | 0,_=>by simp
 | n+1,hd=>by
   rw[List.range_succ,List.flatMap_append,List.map_append,List.nodup_append];refine⟨A2U c m v n fun i j hi hj=>hd i j (by omega) (by omega),?_,fun x hx y hy e=>?_⟩
   . simp only[List.flatMap_cons,List.flatMap_nil,List.append_nil,List.map_map];rw[List.nodup_iff_pairwise_ne,List.pairwise_map];exact List.Pairwise.imp (fun h=>by simp only[Function.comp];omega) List.pairwise_lt_range
   . simp only[List.mem_map,List.mem_flatMap,List.mem_range,List.flatMap_cons,List.flatMap_nil,List.append_nil]at hx hy;obtain⟨_,⟨i,hi,b,hb,rfl⟩,rfl⟩:=hx;obtain⟨_,⟨b',hb',rfl⟩,rfl⟩:=hy;have:=hd i n (by omega) (by omega) (by omega);simp only[]at e;omega
theorem A5L {s:List Int} (h:A1l s) {i j:Nat} (hij:i<j) (hj:j<s.length):A0k s i≠A0k s j:=fun e=>by
 have h1:(A0k s i).getD i 0=s.getD (i+1) 0:=by
   unfold A0k;simp only[List.getD_eq_getElem?_getD];rw[List.getElem?_append_right (by simp;omega),List.getElem?_drop];simp only[List.length_take];rw[show i+1+(i-min i s.length)=i+1 by omega]
 have h2:(A0k s j).getD i 0=s.getD i 0:=by
   unfold A0k;simp only[List.getD_eq_getElem?_getD];rw[List.getElem?_append_left (by simp;omega),List.getElem?_take,if_pos hij]
 rw[e,h2]at h1;have:=A2v h i (i+1) (by omega) (by omega);omega
def A5z (s:ShfV) (h a:Nat) (y:Nat->Int) (i:Nat):Int:=sumN (fun b=>(A0v s h i).2.2.2.getD (a*(A0v s h i).2.2.1.toNat+b) 0*y ((A0S s (fc s.1 h i)).toNat+b)) (A0v s h i).2.2.1.toNat
theorem A0s {s:ShfV} (ho:SheafOk s) {h i:Nat} (hh:h<s.1.length) (hi:i<(fcs s.1 h).length):fc s.1 h i<s.1.length/\s.1.getD (fc s.1 h i) []=A0k (s.1.getD h []) i/\i<(s.1.getD h []).length/\(s.1.getD (fc s.1 h i) []).length+1=(s.1.getD h []).length/\(A0v s h i).2.2.1=s.2.2.1.getD (fc s.1 h i) 0/\(A0v s h i).2.1=s.2.2.1.getD h 0:=by
 obtain⟨f,h1,h2,h3,h4,h5⟩:=A4M ho.1 hh hi;have e:fc s.1 h i=f:=by rw[fc,h1,Int.toNat_natCast]
 have m:=A0t ho hh hi;refine⟨by rw[e];exact h2,by rw[e];exact h3,h4,?_,?_,m.2.2.1⟩
 . rw[e,h3,A0Q h4];omega
 . rw[m.2.2.2];rfl
theorem face_ne {s:ShfV} (ho:SheafOk s) {h i j:Nat} (hh:h<s.1.length) (hi:i<(fcs s.1 h).length) (hj:j<(fcs s.1 h).length) (hne:i≠j):fc s.1 h i≠fc s.1 h j:=fun e=>by
 have a:=A0s ho hh hi;have b:=A0s ho hh hj;have hr:=(ho.1.2 h hh).1.2.2;have e2:A0k (s.1.getD h []) i=A0k (s.1.getD h []) j:=by rw[<-a.2.1,<-b.2.1,e]
 rcases Nat.lt_or_gt_of_ne hne with hlt|hlt
 . exact A5L hr hlt b.2.2.1 e2
 . exact A5L hr hlt a.2.2.1 e2.symm
theorem A5g {s:ShfV} (ho:SheafOk s) {h a:Nat} (hh:h<s.1.length) (W:Nat) (hW:W=(A0B s (((s.1.getD h []).length:Int)-2)).toNat) (y:Nat->Int) :
   s.2.1 ∣ dotN W (rowC s W h a) y-sumN (fun i=>sgn s.2.1 i*A5z s h a y i) (fcs s.1 h).length:=by
 have hdis:∀ i j,i<(fcs s.1 h).length->j<(fcs s.1 h).length->i≠j->(A0S s (fc s.1 h i)).toNat+(A0v s h i).2.2.1.toNat≤(A0S s (fc s.1 h j)).toNat∨(A0S s (fc s.1 h j)).toNat+(A0v s h j).2.2.1.toNat≤(A0S s (fc s.1 h i)).toNat:=fun i j hi hj hne=>by
   have A:=A0s ho hh hi;have B:=A0s ho hh hj;have a1:=A1N ho A.1;have b1:=A1N ho B.1;have a2:=A1H ho A.1;have b2:=A1H ho B.1;rw[A.2.2.2.2.1,B.2.2.2.2.1];rcases Nat.lt_or_gt_of_ne (face_ne ho hh hi hj hne)with hlt|hlt
   . have:=A2e ho hlt B.1 (by omega);left;omega
   . have:=A2e ho hlt A.1 (by omega);right;omega
 have e:dotN W (rowC s W h a) y=sumN (fun i=>sumN (fun b=>((A0v s h i).2.2.2.getD (a*(A0v s h i).2.2.1.toNat+b) 0*sgn s.2.1 i)%s.2.1*y ((A0S s (fc s.1 h i)).toNat+b)) (A0v s h i).2.2.1.toNat) (fcs s.1 h).length:=by
   unfold rowC cobR;rw[A6i y _ _ (by simp) (fun q hq=>?_) (A2U (fun i=>(A0S s (fc s.1 h i)).toNat) (fun i=>(A0v s h i).2.2.1.toNat) _ _ hdis) fun q _=>?_]
   . have z:dotN W (List.replicate W 0) y=0:=A5K W W y;rw[z,Int.zero_add];refine A3M _ _ _ _ fun i hi=>?_;rw[List.map_map];exact A4D _ _
   . simp only[List.mem_flatMap,List.mem_map,List.mem_range]at hq;obtain⟨i,hi,b,hb,rfl⟩:=hq;have A:=A0s ho hh hi;have a1:=A1N ho A.1;have a2:=A1H ho A.1;rw[A.2.2.2.2.1]at hb;have e3:((s.1.getD (fc s.1 h i) []).length:Int)-1=((s.1.getD h []).length:Int)-2:=by omega
     rw[e3]at a1;simp only[];omega
   . simp[List.getD_eq_getElem?_getD,List.getElem?_replicate];split<;>rfl
 rw[e,<-A0g];refine A0R fun i hi=>?_;unfold A5z;rw[<-A0T,<-A0g];refine A0R fun b hb=>?_;have h1:=A1e ((A0v s h i).2.2.2.getD (a*(A0v s h i).2.2.1.toNat+b) 0*sgn s.2.1 i) s.2.1;generalize (A0v s h i).2.2.2.getD (a*(A0v s h i).2.2.1.toNat+b) 0=M at h1 ⊢;generalize y ((A0S s (fc s.1 h i)).toNat+b)=Y;have e2:M*sgn s.2.1 i%s.2.1*Y-sgn s.2.1 i*(M*Y)=(M*sgn s.2.1 i%s.2.1-M*sgn s.2.1 i)*Y:=by
   rw[Int.sub_mul,Int.mul_comm M (sgn s.2.1 i),Int.mul_assoc]
 rw[e2];exact Int.dvd_mul_of_dvd_left h1
theorem A6X {p:Int} (j:Nat) (hj:0<j):p ∣ sgn p (j-1)+sgn p j:=by
 unfold sgn;rcases Nat.mod_two_eq_zero_or_one j with h|h
 . rw[if_neg (by omega),if_pos h,show p-1+1=p by omega];exact Int.dvd_refl p
 . rw[if_pos (by omega),if_neg (by omega),show 1+(p-1)=p by omega];exact Int.dvd_refl p
theorem sq_of {s:ShfV} (hs:A1J s) {h i j:Nat} (hh:h<s.1.length) (h3:2<(s.1.getD h []).length) (hij:i<j) (hj:j<(s.1.getD h []).length):sqA s h i j=sqB s h i j:=by
 have h0:=hs.2;unfold A1o at h0;rw[List.findSome?_eq_none_iff]at h0;have h1:=h0 h (by rw[List.mem_range'];exact⟨h,by omega,by omega⟩);unfold A1n at h1;rw[if_neg (by omega),List.findSome?_eq_none_iff]at h1;have h2:=h1 i (by rw[List.mem_range'];exact⟨i,by omega,by omega⟩);unfold A3N at h2;rw[List.findSome?_eq_none_iff]at h2;have h4:=h2 j (by rw[List.mem_range'];exact⟨j-(i+1),by omega,by omega⟩);unfold A2X at h4;by_cases e:sqA s h i j=sqB s h i j
 . exact e
 . rw[if_neg e]at h4;cases h4
def twoS (s:ShfV) (h a:Nat) (y:Nat->Int) (i j:Nat):Int:=sumN (fun b=>(A0v s h i).2.2.2.getD (a*(A0v s h i).2.2.1.toNat+b) 0*A5z s (fc s.1 h i) b y j) (A0v s h i).2.2.1.toNat
def twoM (m:MatV) (c a:Nat) (y:Nat->Int):Int:=sumN (fun e=>m.2.2.2.getD (a*m.2.2.1.toNat+e) 0*y (c+e)) m.2.2.1.toNat
theorem A6z {s:ShfV} {h a i j:Nat} (y:Nat->Int) (ha:a<(A0v s h i).2.1.toNat):(A0v s h i).1 ∣ twoM (mulM (A0v s h i) (A0v s (fc s.1 h i) j)) (A0S s (fc s.1 (fc s.1 h i) j)).toNat a y-twoS s h a y i j:=by
 have e:twoS s h a y i j=sumN (fun e=>sumN (fun b=>(A0v s h i).2.2.2.getD (a*(A0v s h i).2.2.1.toNat+b) 0*(A0v s (fc s.1 h i) j).2.2.2.getD (b*(A0v s (fc s.1 h i) j).2.2.1.toNat+e) 0) (A0v s h i).2.2.1.toNat*y ((A0S s (fc s.1 (fc s.1 h i) j)).toNat+e)) (A0v s (fc s.1 h i) j).2.2.1.toNat:=by
   unfold twoS A5z;rw[show ∀ (A:Nat->Int) (B:Nat->Nat->Int) (m n:Nat),sumN (fun b=>A b*sumN (fun e=>B b e) m) n=sumN (fun b=>sumN (fun e=>A b*B b e) m) n from fun A B m n=>A0w fun b _=>(A0T _ _ _).symm,A1I];refine A0w fun e _=>?_;rw[Int.mul_comm (sumN _ _),<-A0T];refine A0w fun b _=>?_;rw[<-Int.mul_assoc,Int.mul_comm (y _)]
 rw[e];unfold twoM;have hc:(mulM (A0v s h i) (A0v s (fc s.1 h i) j)).2.2.1=(A0v s (fc s.1 h i) j).2.2.1:=rfl;rw[hc,<-A0g];refine A0R fun e he=>?_;have hg:(mulM (A0v s h i) (A0v s (fc s.1 h i) j)).2.2.2.getD (a*(A0v s (fc s.1 h i) j).2.2.1.toNat+e) 0=sumN (fun k=>(A0v s h i).2.2.2.getD (a*(A0v s h i).2.2.1.toNat+k) 0*(A0v s (fc s.1 h i) j).2.2.2.getD (k*(A0v s (fc s.1 h i) j).2.2.1.toNat+e) 0) (A0v s h i).2.2.1.toNat%(A0v s h i).1:=A2F _ _ _ ha he;rw[hg,<-Int.sub_mul];exact Int.dvd_mul_of_dvd_left (A1e _ _)
theorem A6E {s:ShfV} (ho:SheafOk s) {h i j:Nat} (hh:h<s.1.length) (h3:2<(s.1.getD h []).length) (hij:i<j) (hj:j<(s.1.getD h []).length):fc s.1 (fc s.1 h i) (j-1)=fc s.1 (fc s.1 h j) i:=by
 have hl:(fcs s.1 h).length=(s.1.getD h []).length:=by rw[A0D,if_pos (by omega)]
 have A:=A0s ho hh (i:=i) (by omega);have B:=A0s ho hh (i:=j) (by omega);have la:(fcs s.1 (fc s.1 h i)).length=(s.1.getD (fc s.1 h i) []).length:=by rw[A0D,if_pos (by omega)]
 have lb:(fcs s.1 (fc s.1 h j)).length=(s.1.getD (fc s.1 h j) []).length:=by rw[A0D,if_pos (by omega)]
 have A2:=A0s ho A.1 (i:=j-1) (by omega);have B2:=A0s ho B.1 (i:=i) (by omega);refine A1G ho.1.sorted A2.1 B2.1 ?_;rw[A2.2.1,B2.2.1,A.2.1,B.2.1];generalize s.1.getD h []=t at hj;unfold A0k;refine List.ext_getElem? fun q=>?_;simp only[List.getElem?_append,List.getElem?_take,List.getElem?_drop,List.length_append,List.length_take,List.length_drop];by_cases q1:q<i
 . simp[q1,show q<j-1 by omega,show q<j by omega,show i≤t.length by omega]
   repeat' split
   all_goals first|rfl|omega
 . by_cases q2:q<j-1
   . repeat' split
     all_goals first|omega|(congr 1;omega)|rfl
   . repeat' split
     all_goals first|omega|(congr 1;omega)|rfl
theorem A6c {s:ShfV} (hs:A1J s) {h a i j:Nat} (hh:h<s.1.length) (h3:2<(s.1.getD h []).length) (hij:i<j) (hj:j<(s.1.getD h []).length) (ha:a<(s.2.2.1.getD h 0).toNat) (y:Nat->Int) :
   s.2.1 ∣ sgn s.2.1 i*(sgn s.2.1 (j-1)*twoS s h a y i (j-1))+sgn s.2.1 j*(sgn s.2.1 i*twoS s h a y j i):=by
 have ho:=hs.1;have hl:(fcs s.1 h).length=(s.1.getD h []).length:=by rw[A0D,if_pos (by omega)]
 have A:=A0s ho hh (i:=i) (by omega);have B:=A0s ho hh (i:=j) (by omega);have pa:=(A0t ho hh (j:=i) (by omega)).2.1;have pb:=(A0t ho hh (j:=j) (by omega)).2.1;have h1:=A6z (s:=s) (h:=h) (a:=a) (i:=i) (j:=j-1) y (by rw[A.2.2.2.2.2];exact ha);have h2:=A6z (s:=s) (h:=h) (a:=a) (i:=j) (j:=i) y (by rw[B.2.2.2.2.2];exact ha);have e:mulM (A0v s h i) (A0v s (fc s.1 h i) (j-1))=mulM (A0v s h j) (A0v s (fc s.1 h j) i):=sq_of hs hh h3 hij hj;rw[e,A6E ho hh h3 hij hj,pa]at h1;rw[pb]at h2;have h5:=Int.dvd_sub h2 h1;generalize twoM _ _ _ _=X at h5;generalize twoS s h a y i (j-1)=S1 at h5 ⊢;generalize twoS s h a y j i=S2 at h5 ⊢;have h6:=A6X (p:=s.2.1) j (by omega);generalize sgn s.2.1 (j-1)=u at h6 ⊢;generalize sgn s.2.1 j=v at h6 ⊢;generalize sgn s.2.1 i=w;have h7:s.2.1 ∣ S1-S2:=by rwa [show X-S2-(X-S1)=S1-S2 by omega]at h5
 have e2:w*(u*S1)+v*(w*S2)=w*(u*(S1-S2))+w*((u+v)*S2):=by
   rw[Int.mul_sub,Int.mul_sub,Int.add_mul,Int.mul_add,Int.mul_left_comm v w S2];omega
 rw[e2];exact Int.dvd_add (Int.dvd_mul_of_dvd_right (Int.dvd_mul_of_dvd_right h7)) (Int.dvd_mul_of_dvd_right (Int.dvd_mul_of_dvd_left h6))
theorem dd_sum {s:ShfV} (hs:A1J s) {h a:Nat} (hh:h<s.1.length) (ha:a<(s.2.2.1.getD h 0).toNat) (y:Nat->Int) :
   s.2.1 ∣ sumN (fun i=>sgn s.2.1 i*sumN (fun j=>sgn s.2.1 j*twoS s h a y i j) (fcs s.1 (fc s.1 h i)).length) (fcs s.1 h).length:=by
 have ho:=hs.1;have hn4:=(ho.1.2 h hh).1.1;have hl:=A0D s.1 h;by_cases h3:2<(s.1.getD h []).length
 . rw[if_pos (by omega)]at hl;have inner:∀ i,i<(s.1.getD h []).length->(fcs s.1 (fc s.1 h i)).length=(s.1.getD h []).length-1:=fun i hi=>by
     have A:=A0s ho hh (i:=i) (by omega);rw[A0D,if_pos (by omega)];omega
   have P:=fun {i j:Nat} (hij:i<j) (hj:j<(s.1.getD h []).length)=>A6c hs hh h3 hij hj ha y;have e:sumN (fun i=>sgn s.2.1 i*sumN (fun j=>sgn s.2.1 j*twoS s h a y i j) (fcs s.1 (fc s.1 h i)).length) (fcs s.1 h).length=sumN (fun i=>sumN (fun j=>sgn s.2.1 i*(sgn s.2.1 j*twoS s h a y i j)) ((s.1.getD h []).length-1)) (s.1.getD h []).length:=by
     rw[hl];refine A0w fun i hi=>?_;rw[inner i hi,A0T]
   rw[e];generalize hN:(s.1.getD h []).length=N at hn4 h3 P;generalize ht:(fun i j=>sgn s.2.1 i*(sgn s.2.1 j*twoS s h a y i j))=t;have P':∀ i j,i<j->j<N->s.2.1 ∣ t i (j-1)+t j i:=fun i j hij hj=>by rw[<-ht];exact P hij hj
   have e2:sumN (fun i=>sumN (fun j=>sgn s.2.1 i*(sgn s.2.1 j*twoS s h a y i j)) (N-1)) N=sumN (fun i=>sumN (fun j=>t i j) (N-1)) N:=by rw[<-ht]
   rw[e2];have hN3:N=3∨N=4:=by omega
   rcases hN3 with rfl|rfl
   . have p1:=P' 0 1 (by omega) (by omega);have p2:=P' 0 2 (by omega) (by omega);have p3:=P' 1 2 (by omega) (by omega);have:=Int.dvd_add (Int.dvd_add p1 p2) p3;simp only[sumN]at *
     rwa [show t 0 (1-1)+t 1 0+(t 0 (2-1)+t 2 0)+(t 1 (2-1)+t 2 1)=0+(0+t 0 0+t 0 1)+(0+t 1 0+t 1 1)+(0+t 2 0+t 2 1)by simp only[Nat.reduceSub];omega]at this
   . have p1:=P' 0 1 (by omega) (by omega);have p2:=P' 0 2 (by omega) (by omega);have p3:=P' 0 3 (by omega) (by omega);have p4:=P' 1 2 (by omega) (by omega);have p5:=P' 1 3 (by omega) (by omega);have p6:=P' 2 3 (by omega) (by omega);have:=Int.dvd_add (Int.dvd_add (Int.dvd_add p1 p2) (Int.dvd_add p3 p4)) (Int.dvd_add p5 p6);simp only[sumN]at *
     rwa [show t 0 (1-1)+t 1 0+(t 0 (2-1)+t 2 0)+(t 0 (3-1)+t 3 0+(t 1 (2-1)+t 2 1))+(t 1 (3-1)+t 3 1+(t 2 (3-1)+t 3 2))=0+(0+t 0 0+t 0 1+t 0 2)+(0+t 1 0+t 1 1+t 1 2)+(0+t 2 0+t 2 1+t 2 2)+(0+t 3 0+t 3 1+t 3 2)by simp only[Nat.reduceSub];omega]at this
 . have e:sumN (fun i=>sgn s.2.1 i*sumN (fun j=>sgn s.2.1 j*twoS s h a y i j) (fcs s.1 (fc s.1 h i)).length) (fcs s.1 h).length=0:=A0Z fun i hi=>by
     have A:=A0s ho hh hi;have e1:(fcs s.1 (fc s.1 h i)).length=0:=by rw[A0D,if_neg (by omega)]
     rw[e1];simp only[sumN,Int.mul_zero]
   rw[e];exact Int.dvd_zero _
theorem A4C {s:ShfV} (ho:SheafOk s) {d:Int} {q:Nat} (hq:q<(A0B s d).toNat):∃ h a,h<s.1.length/\((s.1.getD h []).length:Int)=d+1/\a<(s.2.2.1.getD h 0).toNat/\q=(A0S s h).toNat+a:=by
 have hsl:=ho.2.2.1.1;have hst:=ho.2.2.1.2.1;rw[A1t ho]at hq;have key:∀ n,n≤s.1.length->(q:Int)<psum s.1 s.2.2.1 d n->∃ h,h<n/\((s.1.getD h []).length:Int)=d+1/\psum s.1 s.2.2.1 d h≤q/\(q:Int)<psum s.1 s.2.2.1 d h+s.2.2.1.getD h 0:=by
   intro n;induction n with
   | zero=>intro _ h;simp only[psum]at h;omega
   | succ n ih =>
     intro hn h;by_cases h1:(q:Int)<psum s.1 s.2.2.1 d n
     . obtain⟨h',a1,a2⟩:=ih (by omega) h1;exact⟨h',by omega,a2⟩
     . simp only[psum]at h;split at h
       . rename_i hd;exact⟨n,by omega,hd,by omega,h⟩
       . omega
 have hb:=A1s (c:=s.1) (d:=d) hst s.1.length (by omega);obtain⟨h,h1,h2,h3,h4⟩:=key s.1.length (Nat.le_refl _) (by omega);have hc:A0S s h=psum s.1 s.2.2.1 d h:=by rw[A0S,show((s.1.getD h []).length:Int)-1=d by omega]
 have hb2:=A1s (c:=s.1) (d:=d) hst h (by omega);refine⟨h,q-(A0S s h).toNat,h1,h2,?_,?_⟩<;>rw[hc]<;>omega
theorem A4v {c:List (List Int)} {d:Int} {n h:Nat} (hh:h<n) (hd:((c.getD h []).length:Int)=d+1):∃ m,m<(A0A c d n).length/\(A0A c d n).getD m 0=(h:Int):=by
 have:(h:Int)∈A0A c d n:=by
   simp only[A0A,List.mem_map,List.mem_filter,List.mem_range,beq_iff_eq];exact⟨h,⟨hh,hd⟩,rfl⟩
 obtain⟨m,hm,e⟩:=List.getElem_of_mem this;exact⟨m,hm,by rw[A0z hm,e]⟩
theorem dd_zero {s:ShfV} (hs:A1J s) {k:Int} (hk:0≤k) {i j:Nat} (hi:i<(A0B s (k+1)).toNat) (hj:j<(A0B s (k-1)).toNat) :
   s.2.1 ∣ dotN (A0B s k).toNat (rowL (cobM s k).2.2.2 (A0B s k).toNat i) (fun q=>(cobM s (k-1)).2.2.2.getD (q*(A0B s (k-1)).toNat+j) 0):=by
 have ho:=hs.1;obtain⟨h,a,hh,hd,ha,rfl⟩:=A4C ho hi;obtain⟨m,hm,hm'⟩:=A4v hh hd;have hk1:0≤k-1:=by
   obtain⟨h',a',hh',hd',_⟩:=A4C ho hj;have:=(ho.1.2 h' hh').1.1;omega
 rw[A5I ho hk hm hm' ha];have hW:(A0B s k).toNat=(A0B s (((s.1.getD h []).length:Int)-2)).toNat:=by rw[show((s.1.getD h []).length:Int)-2=k by omega]
 have h1:=A5g (a:=a) ho hh (A0B s k).toNat hW (fun q=>(cobM s (k-1)).2.2.2.getD (q*(A0B s (k-1)).toNat+j) 0);refine(A0b h1).2 ?_;have hz:=dd_sum hs hh ha (dl j);refine(A0b ?_).2 hz;rw[<-A0g];refine A0R fun x hx=>?_;rw[<-Int.mul_sub];refine Int.dvd_mul_of_dvd_right ?_;have A:=A0s ho hh hx;have hsd:((s.1.getD (fc s.1 h x) []).length:Int)=k+1:=by omega
 have e:sumN (fun y=>sgn s.2.1 y*twoS s h a (dl j) x y) (fcs s.1 (fc s.1 h x)).length=sumN (fun b=>(A0v s h x).2.2.2.getD (a*(A0v s h x).2.2.1.toNat+b) 0*sumN (fun y=>sgn s.2.1 y*A5z s (fc s.1 h x) b (dl j) y) (fcs s.1 (fc s.1 h x)).length) (A0v s h x).2.2.1.toNat:=by
   unfold twoS;rw[show ∀ (A:Nat->Int) (B:Nat->Nat->Int) (m n:Nat),sumN (fun b=>A b*sumN (fun e=>B b e) m) n=sumN (fun b=>sumN (fun e=>A b*B b e) m) n from fun A B m n=>A0w fun b _=>(A0T _ _ _).symm,A1I];refine A0w fun y _=>?_;rw[<-A0T];exact A0w fun b _=>Int.mul_left_comm _ _ _
 rw[e];unfold A5z;rw[<-A0g];refine A0R fun b hb=>?_;rw[<-Int.mul_sub];refine Int.dvd_mul_of_dvd_right ?_;have hbs:b<(s.2.2.1.getD (fc s.1 h x) 0).toNat:=by rw[<-A.2.2.2.2.1];exact hb
 obtain⟨m2,hm2,hm2'⟩:=A4v (c:=s.1) (d:=k-1+1) A.1 (by omega);have hrow:=A5I ho hk1 hm2 hm2' hbs;have hW2:(A0B s (k-1)).toNat=(A0B s (((s.1.getD (fc s.1 h x) []).length:Int)-2)).toNat:=by rw[show((s.1.getD (fc s.1 h x) []).length:Int)-2=k-1 by omega]
 have h2:=A5g (a:=b) ho A.1 (A0B s (k-1)).toNat hW2 (dl j);rw[A1m _ hj,<-hrow,A0i hj]at h2;exact h2
theorem A5B:∀ (h w:Nat) (xs:List Int),xs.length=h*w->(A0l xs h w).flatten=xs:=by
 intro h w xs hl;have key:∀ i,i≤h->((List.range i).map (rowL xs w)).flatten=xs.take (i*w):=by
   intro i;induction i with
   | zero=>intro _;simp
   | succ i ih =>
     intro hi;have e:(i+1)*w=i*w+w:=by rw[Nat.add_mul,Nat.one_mul]
     rw[List.range_succ,List.map_append,List.flatten_append,ih (by omega)];simp only[List.map_cons,List.map_nil,List.flatten_cons,List.flatten_nil,List.append_nil,rowL];have h1:xs.take (i*w)=(xs.take ((i+1)*w)).take (i*w):=by rw[List.take_take];congr 1;omega
     rw[h1,List.take_append_drop]
 have:=key h (Nat.le_refl _);rw[A0l,this,<-hl,List.take_length]
theorem A3h {m:MatV} (h:MatOk m) {R C:Nat} (hr:m.2.1=(R:Int)) (hc:m.2.2.1=(C:Int)) (hl:m.2.2.2.length=R*C):RowsOk m.1 R C (A0l m.2.2.2 R C):=by
 refine⟨by simp[A0l],fun r hr'=>?_⟩;unfold A0l at hr';obtain⟨i,hi,rfl⟩:=List.mem_map.1 hr';exact⟨A0X hl (List.mem_range.1 hi),fun x hx=>h.2.2.2.2 x (A3g hx)⟩
def A3w (m:MatV):Nat:=(gjN m.1 m.2.2.1.toNat (A0l m.2.2.2 m.2.1.toNat m.2.2.1.toNat) m.2.2.1.toNat).2.length
theorem A4B {m:MatV} (h:MatOk m):∃ R C:Nat,m.2.1=(R:Int)/\m.2.2.1=(C:Int)/\R≤32/\C≤32/\m.2.2.2.length=R*C/\(2≤m.1/\m.1≤251)/\RowsOk m.1 R C (A0l m.2.2.2 R C)/\A3w m=(gjN m.1 C (A0l m.2.2.2 R C) C).2.length:=by
 obtain⟨R,C,hr,hc,hR,hC,hl,hp,ha⟩:=h.nat;exact⟨R,C,hr,hc,hR,hC,hl,hp,A3h h hr hc hl,by rw[A3w,hr,hc];rfl⟩
theorem A4m {m:MatV} (h:MatOk m):A3w m≤32:=by
 obtain⟨R,C,hr,hc,hR,hC,hl,hp,o,hrk⟩:=A4B h;have hle:=(A5N hp.1 o C).2;omega
theorem Am7.val {m:MatV} (h:MatOk m):Am7.F (m,())=some ((((A3w m:Nat):Int),()),()):=by
 obtain⟨R,C,hr,hc,hR,hC,hl,hp,o,hrk⟩:=A4B h;obtain⟨d2,e2⟩:=Aa0.val hp (by omega) (by omega) o;rw[A5B R C _ hl]at e2;have hle:=(A5N hp.1 o C).2;obtain⟨p,r,c,xs⟩:=m;obtain rfl:r=(R:Int):=hr;obtain rfl:c=(C:Int):=hc;rw[Am7.eq,Am7.T,e2,hrk];rfl
theorem RowsOk.small {p:Int} {h w:Nat} {R:List (List Int)} (o:RowsOk p h w R) (hh:h≤4096) (hw:w≤256):SmL R:=⟨by rw[o.len];omega,fun r hr=>by have:=(o.row r hr).1;unfold Sm;omega⟩
theorem Aa6.val {p:Int} {h w:Nat} (hp:A0E p) (hh:h≤4096) (hw:w≤256) {R:List (List Int)} (o:RowsOk p h w R):Aa6.F (p,(w:Int),R,())=some (((p,(w:Int),A0Y p w R),()),()):=by
 obtain⟨det,he⟩:=Ac0.val hp.1 hh hw o;obtain⟨r,hn⟩:=A0L hp o w (Nat.le_refl _);have hl:=r.len;have ho:=r.ok.len;have hsm:SmL (A0Y p w R):=⟨by rw[A1U hp o];unfold rk;omega,fun x hx=>by
   have:=(r.ok.row x (List.mem_of_mem_take hx)).1;unfold Sm;omega⟩
 rw[Aa6.eq,Aa6.T,Ad3.val R (o.small hh hw)];simp only[Option.bind_some,he];rw[if_pos (by omega)];have e:cutL (gjN p w R w).1 0 (((gjN p w R w).2.length:Nat):Int)=A0Y p w R:=by
   unfold cutL A0Y rk;simp
 rw[e,Ad3.val _ hsm];rfl
theorem Ah6.val {p n:Int} (hp:2≤p/\p≤251):Ah6.F (n,p,())=some ((n%p,()),()):=by
 rw[Ah6.eq,Ah6.T,if_neg (by omega),if_neg (by omega),A5R hp]
structure KRow (p:Int) (w:Nat) (E:List (List Int)) (P:List Int) (c:Nat) (x:List Int):Prop where
 len:x.length=w
 inn:A0M 0 (p-1) x
 one:x.getD c 0=1
 piv:∀ k,k<P.length->x.getD (pv P k) 0=(0-en E k c)%p
 zer:∀ q,q<w->q≠c->(q:Int)∉P->x.getD q 0=0
theorem A2H (n:Nat) (P:List Int):A0q (n+1) P=A0q n P++(if (n:Int)∈P then[]else[n]):=by
 unfold A0q;rw[List.range_succ,List.filter_append];by_cases h:(n:Int)∈P<;>simp[h]
theorem A6K {p:Int} {h w:Nat} {E:List (List Int)} {P:List Int} (hp:2≤p) (r:Rref p h w w E P) {K:List (List Int)} (hl:K.length=(A0q w P).length) (hk:∀ l,l<K.length->KRow p w E P ((A0q w P).getD l 0) (K.getD l [])):KerOk p w E P K:=by
 refine⟨⟨hl,fun x hx=>?_⟩,fun i hi q hq=>?_⟩
 . obtain⟨l,hl2,rfl⟩:=List.getElem_of_mem hx;rw[<-A0z (d:=[]) hl2];exact⟨(hk l hl2).len,(hk l hl2).inn⟩
 . have k:=hk i (by omega);obtain⟨f1,f2⟩:=A4O hi;by_cases hqp:(q:Int)∈P
   . obtain⟨l,hl2,rfl⟩:=(A0h r q).1 hqp;rw[A4d r f1 f2 hl2];show p ∣ (K.getD i []).getD (pv P l) 0-_;rw[k.piv l hl2,show-en E l ((A0q w P).getD i 0)=0-en E l ((A0q w P).getD i 0)by omega];exact A1e _ _
   . rw[A0m r _ hqp];show p ∣ (K.getD i []).getD q 0-_;by_cases e:q=(A0q w P).getD i 0
     . rw[e,k.one,dl,if_pos rfl];exact Int.dvd_zero p
     . rw[k.zer q hq e hqp,dl,if_neg e];exact Int.dvd_zero p
theorem Ag4.val {m:MatV} (h:MatOk m) {R C:Nat} (hr:m.2.1=(R:Int)) (hc:m.2.2.1=(C:Int)) :
   ∃ K,Ag4.F (m,())=some ((K,()),())/\KerOk m.1 C (gjN m.1 C (A0l m.2.2.2 R C) C).1 (gjN m.1 C (A0l m.2.2.2 R C) C).2 K:=by
 obtain⟨R',C',hr',hc',hR,hC,hl,hp,ha⟩:=h.nat;obtain rfl:R'=R:=by omega
 obtain rfl:C'=C:=by omega
 have hpr:=h.1;have o:=A3h h hr hc hl;obtain⟨det,he⟩:=Ac0.val hp (by omega) (by omega) o;have e0:=Ag6.val m.1 R' C' m.2.2.2 (by omega) (by omega) hl;obtain⟨r,hn⟩:=A0L hpr o C' (Nat.le_refl _);have hlP:=r.len;generalize (gjN m.1 C' (A0l m.2.2.2 R' C') C').1=E at *;generalize (gjN m.1 C' (A0l m.2.2.2 R' C') C').2=P at *;obtain⟨p,mr,mc,xs⟩:=m;obtain rfl:mr=(R':Int):=hr;obtain rfl:mc=(C':Int):=hc;simp only at he e0 hp hpr r;have hfl:∀ i,(A0q i P).length≤i:=fun i=>by
   unfold A0q;exact Nat.le_trans (List.length_filter_le _ _) (by simp)
 obtain⟨K,⟨hK1,hK2⟩,hg⟩:=Goes.loop (R:=(List (List Int)×Unit)×Unit) (fun k i (s:List (List Int))=>Ag4.l5 k (C':Int) (i:Int) p (R':Int) (C':Int) xs E P s) C' (fun i s=>s.length=(A0q i P).length/\∀ l,l<s.length->KRow p C' E P ((A0q i P).getD l 0) (s.getD l [])) (fun i s hi ⟨h1,h2⟩=>by
   by_cases hip:(i:Int)∈P
   . refine⟨s,by rw[A2H,if_pos hip,List.append_nil];exact⟨h1,h2⟩,Goes.succ fun k=>?_⟩;rw[Ag4.l5_eq,if_pos (ltI.2 hi),Ah7.val P _ (by omega)];simp only[Option.bind_some];rw[if_pos (by simpa using hip),A0x (by omega)]
   . have hz:∀ q,(List.replicate C' (0:Int)).getD q 0=0:=fun q=>by
       simp only[List.getD_eq_getElem?_getD,List.getElem?_replicate];split<;>rfl
     have gs:∀ (l:List Int) (q:Nat) (v:Int) (s:Nat),q<l.length->(l.set q v).getD s 0=if s=q then v else l.getD s 0:=fun l q v s hq=>by
       simp only[List.getD_eq_getElem?_getD,List.getElem?_set];by_cases hqs:q=s
       . subst hqs;simp[hq]
       . simp[hqs,Ne.symm hqs]
     have hne:∀ k,k<P.length->pv P k≠i:=fun k hk e=>hip ((A0h r i).2 ⟨k,hk,e⟩);obtain⟨x,⟨x1,x2,x3,x4,x5⟩,hg2⟩:=Goes.loop (R:=(List (List Int)×Unit)×Unit) (fun k j (x:List Int)=>Ag4.l11 k (i:Int) (C':Int) (i:Int) (P.length:Int) (j:Int) p (R':Int) (C':Int) xs E P s x) P.length (fun j x=>x.length=C'/\A0M 0 (p-1) x/\x.getD i 0=1/\(∀ k,k<j->x.getD (pv P k) 0=(0-en E k i)%p)/\∀ q,q<C'->q≠i->(q:Int)∉P->x.getD q 0=0) (fun j x hj ⟨y1,y2,y3,y4,y5⟩=>by
       have hjr:=r.inr j hj;have hjw:=r.pw hj;have hjE:j<E.length:=by rw[r.ok.len];omega
       have hrow:=(r.ok.at (i:=j) (by omega)).1;have hcell:=r.ok.cell (i:=j) (by omega) i hi;have hpvj:(P.getD j 0).toNat=pv P j:=rfl;refine⟨x.set (pv P j) ((0-en E j i)%p),⟨by simp[y1],fun z hz2=>(List.mem_or_eq_of_mem_set hz2).elim (y2 z) fun e=>e▸(A2Y hp.1),?_,fun k hk=>?_,fun q hq hqi hqp=>?_⟩,Goes.succ fun k=>?_⟩
       . rw[gs _ _ _ _ (by omega),if_neg (Ne.symm (hne j hj))];exact y3
       . rw[gs _ _ _ _ (by omega)];by_cases e:pv P k=pv P j
         . rw[if_pos e,r.inj (show k<P.length by omega) hj e]
         . rw[if_neg e];have:k≠j:=fun e2=>e (by rw[e2]);exact y4 k (by omega)
       . rw[gs _ _ _ _ (by omega),if_neg (fun e=>hqp ((A0h r q).2 ⟨j,hj,e.symm⟩))];exact y5 q hq hqi hqp
       . rw[Ag4.l11_eq,if_pos (ltI.2 hj),if_pos (idxI.2 hj),if_pos (idxI.2 hjE)];simp only[Int.toNat_natCast];have hcell:0≤(E.getD j []).getD i 0/\(E.getD j []).getD i 0≤p-1:=hcell;rw[if_pos (by rw[hrow];omega),A0j (x:=0-(E.getD j []).getD i 0) (by omega) (by omega),Ah6.val hp];simp only[Option.bind_some];rw[if_pos (by rw[y1];omega),A0x (by omega),hpvj]) 0 ((List.replicate C' (0:Int)).set i 1) (Nat.zero_le _) ⟨by simp,fun z hz2=>(List.mem_or_eq_of_mem_set hz2).elim (fun hz3=>by rw[List.eq_of_mem_replicate hz3];omega) fun e=>by rw[e];omega,by rw[gs _ _ _ _ (by simpa using hi),if_pos rfl],fun k hk=>by omega,fun q hq hqi _=>by rw[gs _ _ _ _ (by simpa using hi),if_neg hqi,hz]⟩
     refine⟨s++[x],⟨by rw[A2H,if_neg hip];simp[h1],fun l hl2=>?_⟩,(Goes.succ fun k=>?_).trans (hg2.trans (Goes.succ fun k=>?_))⟩
     . rw[A2H,if_neg hip];by_cases hls:l<s.length
       . have a1:(s++[x]).getD l []=s.getD l []:=by simp[List.getD_eq_getElem?_getD,List.getElem?_append_left hls]
         have a2:(A0q i P++[i]).getD l 0=(A0q i P).getD l 0:=by simp[List.getD_eq_getElem?_getD,List.getElem?_append_left (show l<(A0q i P).length by omega)]
         rw[a1,a2];exact h2 l hls
       . have hle:l=s.length:=by simp at hl2;omega
         have a1:(s++[x]).getD l []=x:=by rw[hle];simp[List.getD_eq_getElem?_getD]
         have a2:(A0q i P++[i]).getD l 0=i:=by rw[hle,h1];simp[List.getD_eq_getElem?_getD]
         rw[a1,a2];exact⟨x1,x2,x3,x4,x5⟩
     . rw[Ag4.l5_eq,if_pos (ltI.2 hi),Ah7.val P _ (by omega)];simp only[Option.bind_some];rw[if_neg (by simpa using hip),if_pos (by simp only[bigN];omega),if_pos (by simp;omega)];simp only[Int.toNat_natCast];rfl
     . have:=hfl i;rw[Ag4.l11_eq,if_neg (by simp),if_pos (by simp only[List.length_cons,List.length_nil,bigA];omega),A0x (by omega)]) 0 [] (Nat.zero_le _) ⟨by simp[A0q],by simp⟩
 refine⟨K,Ag4.of _ _ _ _ (Ev.of_eq (hg _ ((Ev.const _).succ fun k=>?_)) fun k=>?_),A6K hp.1 r hK1 hK2⟩
 . rw[Ag4.l5_eq,if_neg (by simp)]
 . rw[Ag4.T,e0];simp only[Option.bind_some,he];rfl
theorem Ap0.val (xs:List Int) (h:xs.length≤1048576):∃ v,Ap0.F (xs,())=some ((v,()),())/\(v=true↔∀ x∈xs,x=0):=by
 have hcf:=Ac9.val xs (Ar5.cloG (())) (fun a=>decide (a≠0)) (fun a _=>by
   show(Ar5.F (a,())).map (·.1)=_;rw[Ar5.eq,Ar5.T];by_cases h:a=0<;>simp[h]) (by omega)
 refine⟨!(xs.any fun a=>decide (a≠0)),?_,?_⟩
 . rw[Ap0.eq,Ap0.T,hcf];rfl
 . simp
theorem A5E {R:Type} (a:Option R):Go.Vm.both a a=a:=by unfold Go.Vm.both;rw[if_pos rfl]
theorem rk_w {p:Int} {h w:Nat} {R:List (List Int)} (hp:A0E p) (o:RowsOk p h w R):rk p w R≤w:=by
 obtain⟨r,_⟩:=A0L hp o w (Nat.le_refl _);have:=A3r r;unfold rk;omega
theorem A5H {p:Int} {h w:Nat} {R:List (List Int)} (hp:A0E p) (o:RowsOk p h w R) {k:Nat} (hk:k<rk p w R):(A0Y p w R).getD k []=(gjN p w R w).1.getD k []:=by
 unfold A0Y;simp[List.getD_eq_getElem?_getD,hk]
theorem A4H {p:Int} {h w:Nat} {R:List (List Int)} (hp:A0E p) (o:RowsOk p h w R):RowsOk p (rk p w R) w (A0Y p w R):=by
 obtain⟨r,_⟩:=A0L hp o w (Nat.le_refl _);exact⟨A1U hp o,fun x hx=>r.ok.row x (List.mem_of_mem_take hx)⟩
theorem Am1.val {p:Int} {h w:Nat} (hp:A0E p) (hw:w≤256) {R:List (List Int)} (o:RowsOk p h w R) (u v:Int):Am1.F ((u,(v,A0Y p w R)),())=some (((gjN p w R w).2,()),()):=by
 obtain⟨r,_⟩:=A0L hp o w (Nat.le_refl _);have hl:=A1U hp o;have hrw:=rk_w hp o;have hP:(gjN p w R w).2.length=rk p w R:=rfl;refine Am1.of _ _ _ ?_;obtain⟨s,hs,hg⟩:=Goes.loop (R:=((List Int×Unit)×Unit)) (fun k i (s:List Int)=>Am1.l3 k (A0Y p w R) ((A0Y p w R).length:Int) (i:Int) s) (A0Y p w R).length (fun i s=>s=(gjN p w R w).2.take i) (fun i s hi h2=>⟨_,rfl,Goes.succ fun k=>by
   rw[hl]at hi;have hb:=A5H hp o hi;have hrow:=(r.ok.at (i:=i) (by have:=r.len;omega));obtain⟨q,hq,hq'⟩:=Ae4.val ((A0Y p w R).getD i []) (Ar6.cloG (())) (fun a=>decide (a≠0)) (fun a _=>by
     show(Ar6.F (a,())).map (·.1)=_;rw[Ar6.eq,Ar6.T];by_cases h:a=0<;>simp[h]) (by rw[hb];omega)
   have h1:((gjN p w R w).1.getD i []).getD (pv (gjN p w R w).2 i) 0=1:=r.one i (by omega);have hpl:=r.pw (k:=i) (by omega);have hin:=r.inr i (by omega);have e:q=(gjN p w R w).2.getD i 0:=by
     rw[hb]at hq';rcases hq' with⟨_,h3⟩|⟨j,h3,rfl,h4,h5⟩
     . have:=h3 _ (A0y 0 (show pv (gjN p w R w).2 i<((gjN p w R w).1.getD i []).length by omega));rw[h1]at this;simp at this
     . rcases Nat.lt_trichotomy j (pv (gjN p w R w).2 i)with h6|h6|h6
       . have:((gjN p w R w).1.getD i []).getD j 0=0:=r.led i (by omega) j h6;rw[this]at h4;simp at h4
       . exact(congrArg (fun n:Nat=>(n:Int)) h6).trans (Int.toNat_of_nonneg hin.1)
       . have:=h5 _ h6;rw[h1]at this;simp at this
   rw[Am1.l3_eq,if_pos (by rw[hl];exact ltI.2 hi),if_pos (idxI.2 (by omega)),Int.toNat_natCast,hq];simp only[Option.bind_some];rw[if_pos (by rw[h2];simp only[List.length_take,List.length_cons,List.length_nil,bigA];omega),A0x (by omega),h2,e,List.take_add_one,List.getElem?_eq_getElem (by omega),Option.toList_some,A0z (by omega)]⟩) 0 [] (Nat.zero_le _) (by simp)
 refine Ev.of_eq (hg _ ((Ev.const _).succ fun k=>?_)) fun k=>rfl;rw[Am1.l3_eq,if_neg (by simp),hs,hl,<-hP,List.take_length]
def A0f (p:Int) (x:List Int) (E:List (List Int)) (P:List Int):Nat->List Int
 | 0=>x
 | i+1=>addL p ((p-x.getD (pv P i) 0)%p) (A0f p x E P i) (E.getD i [])
theorem A3k {p:Int} (hp:2≤p) {x:List Int} {w:Nat} (hx:x.length=w/\A0M 0 (p-1) x) (E:List (List Int)) (P:List Int):∀ i,(A0f p x E P i).length=w/\A0M 0 (p-1) (A0f p x E P i)
 | 0=>hx
 | i+1=>⟨by rw[A0f,A1K];exact(A3k hp hx E P i).1,A3O hp _ _⟩
theorem A4n {p:Int} (hp:2≤p) {x:List Int} {w:Nat} (hx:x.length=w/\A0M 0 (p-1) x) (E:List (List Int)) (P:List Int) (z:Nat->Int):∀ i,p ∣ dotN w (A0f p x E P i) z-(dotN w x z-sumN (fun j=>x.getD (pv P j) 0*dotN w (E.getD j []) z) i)
 | 0=>by
   have e:dotN w (A0f p x E P 0) z-(dotN w x z-sumN (fun j=>x.getD (pv P j) 0*dotN w (E.getD j []) z) 0)=0:=by rw[A0f];simp only[sumN];omega
   rw[e];exact Int.dvd_zero p
 | i + 1=>by
   have h1:=A4n hp hx E P z i;have h2:=A3R (p:=p) (c:=(p-x.getD (pv P i) 0)%p) (y:=E.getD i []) (A3k hp hx E P i).1 z;have h3:=A1e (p-x.getD (pv P i) 0) p;rw[A0f];generalize dotN w (addL p ((p-x.getD (pv P i) 0)%p) (A0f p x E P i) (E.getD i [])) z=A at h2 ⊢;generalize dotN w (A0f p x E P i) z=B at h1 h2;have e4:sumN (fun j=>x.getD (pv P j) 0*dotN w (E.getD j []) z) (i+1)=sumN (fun j=>x.getD (pv P j) 0*dotN w (E.getD j []) z) i+x.getD (pv P i) 0*dotN w (E.getD i []) z:=rfl;rw[e4];generalize sumN (fun j=>x.getD (pv P j) 0*dotN w (E.getD j []) z) i=S at h1;generalize dotN w (E.getD i []) z=D at h2 ⊢;generalize (p-x.getD (pv P i) 0)%p=c at h2 h3;generalize x.getD (pv P i) 0=y at h3 ⊢;generalize dotN w x z=X at h1 ⊢;have h5:p ∣ (c-(p-y))*D:=Int.dvd_mul_of_dvd_left h3;have h6:p ∣ p*D:=Int.dvd_mul_right p D;have e:A-(X-(S+y*D))=(A-(B+c*D))+(B-(X-S))+((c-(p-y))*D+p*D):=by
     have a1:(c-(p-y))*D=c*D-p*D+y*D:=by rw[Int.sub_mul,Int.sub_mul];omega
     rw[a1];omega
   rw[e];exact Int.dvd_add (Int.dvd_add h2 h1) (Int.dvd_add h5 h6)
def A4Z (p:Int) (w:Nat) (R:List (List Int)) (x:List Int):Prop:=∀ y,Null p w R y->p ∣ dotN w x y
theorem A5f {p:Int} {h w:Nat} {R:List (List Int)} (hp:A0E p) (o:RowsOk p h w R) {x:List Int} (hx:x.length=w/\A0M 0 (p-1) x):(∀ a∈A0f p x (gjN p w R w).1 (gjN p w R w).2 (rk p w R),a=0)↔A4Z p w R x:=by
 obtain⟨r,hn⟩:=A0L hp o w (Nat.le_refl _);have hp2:=hp.1.1;obtain⟨l1,l2⟩:=A3k hp2 hx (gjN p w R w).1 (gjN p w R w).2 (rk p w R);have hP:(gjN p w R w).2.length=rk p w R:=rfl;have hdot:=fun z=>A4n hp2 hx (gjN p w R w).1 (gjN p w R w).2 z (rk p w R);have hnull:∀ y,Null p w R y->p ∣ sumN (fun j=>x.getD (pv (gjN p w R w).2 j) 0*dotN w ((gjN p w R w).1.getD j []) y) (rk p w R):=fun y hy=>A0R fun j hj=>Int.dvd_mul_of_dvd_right (((hn y).2 hy) j (by rw[r.ok.len];have:=r.len;omega));constructor
 . intro hz y hy;have h1:=hdot y;have e:dotN w (A0f p x (gjN p w R w).1 (gjN p w R w).2 (rk p w R)) y=0:=A0Z fun q hq=>by
     rw[hz _ (A0y 0 (by omega)),Int.zero_mul]
   rw[e]at h1;have h2:=hnull y hy;have:=Int.dvd_sub h2 h1
   rwa [show ∀ a b:Int,a-(0-(b-a))=b by intros;omega]at this
 . intro hs;have key:∀ q,q<w->p ∣ (A0f p x (gjN p w R w).1 (gjN p w R w).2 (rk p w R)).getD q 0:=by
     have piv:∀ l,l<rk p w R->p ∣ (A0f p x (gjN p w R w).1 (gjN p w R w).2 (rk p w R)).getD (pv (gjN p w R w).2 l) 0:=fun l hl=>by
       have h1:=hdot (dl (pv (gjN p w R w).2 l));have hlw:=r.pw (k:=l) (by omega);rw[A1m _ hlw,A1m _ hlw,A1z hl fun k hk hne=>by
         rw[A1m _ hlw];have:=r.en0 (k:=k) (l:=l) (by omega) (by omega) hne;unfold en at this;rw[this,Int.mul_zero],A1m _ hlw]at h1
       have h3:=r.one l (by omega);unfold en at h3;rw[h3,Int.mul_one,Int.sub_self,Int.sub_zero]at h1;exact h1
     intro q hq;by_cases hqp:(q:Int)∈(gjN p w R w).2
     . obtain⟨l,hl,rfl⟩:=(A0h r q).1 hqp;exact piv l hl
     . have hy:Null p w R (fixV w (gjN p w R w).1 (gjN p w R w).2 (dl q)):=(hn _).1 (A1P r (dl q));have h1:=hdot (fixV w (gjN p w R w).1 (gjN p w R w).2 (dl q));have h2:=hnull _ hy;have h3:=hs _ hy;have h4:=Int.dvd_add h1 (Int.dvd_sub h3 h2);rw[show ∀ a b c:Int,a-(b-c)+(b-c)=a by intros;omega]at h4;have h5:p ∣ dotN w (A0f p x (gjN p w R w).1 (gjN p w R w).2 (rk p w R)) (fixV w (gjN p w R w).1 (gjN p w R w).2 (dl q))-(A0f p x (gjN p w R w).1 (gjN p w R w).2 (rk p w R)).getD q 0*fixV w (gjN p w R w).1 (gjN p w R w).2 (dl q) q:=A1c hq fun t ht hne=>by
         by_cases htp:(t:Int)∈(gjN p w R w).2
         . obtain⟨l,hl,rfl⟩:=(A0h r t).1 htp;exact Int.dvd_mul_of_dvd_left (piv l hl)
         . rw[A0m r _ htp,dl,if_neg hne,Int.mul_zero];exact Int.dvd_zero p
       rw[A0m r _ hqp,dl,if_pos rfl,Int.mul_one]at h5;exact(A0b h5).1 h4
   intro a ha;obtain⟨q,hq,rfl⟩:=List.getElem_of_mem ha;have h1:=key q (by omega);have h2:=l2 _ ha;rw[A0z hq]at h1;exact A6l h2 (by omega) (by simpa using h1)
theorem Ao7.val {p:Int} {h w:Nat} (hp:A0E p) (hw:w≤256) {R:List (List Int)} (o:RowsOk p h w R) {x:List Int} (hx:x.length=w/\A0M 0 (p-1) x) (v:Int):∃ b,Ao7.F ((p,(v,A0Y p w R)),x,())=some ((b,()),())/\(b=true↔A4Z p w R x):=by
 obtain⟨r,hn⟩:=A0L hp o w (Nat.le_refl _);have hp2:=hp.1.1;have hp3:=hp.1.2;have hl:=A1U hp o;have hrw:=rk_w hp o;have hP:(gjN p w R w).2.length=rk p w R:=rfl;obtain⟨s,hs,hg⟩:=Goes.loop (R:=((List Int×Bool×Unit)×Unit)) (fun k i (s:List Int×List Int)=>An1.l4 k x s.1 ((gjN p w R w).2.length:Int) (i:Int) p v (A0Y p w R) s.2 (gjN p w R w).2) (gjN p w R w).2.length (fun i s=>s.1=A0f p x (gjN p w R w).1 (gjN p w R w).2 i/\s.2.length=i) (fun i s hi h2=>by
   obtain⟨q1,q2⟩:=h2;have hin:=r.inr i hi;have hpw:((gjN p w R w).2.getD i 0).toNat<w:=r.pw hi;obtain⟨l1,l2⟩:=A3k hp2 hx (gjN p w R w).1 (gjN p w R w).2 i;have hxi:=hx.2 _ (A0y 0 (show((gjN p w R w).2.getD i 0).toNat<x.length by omega));have hb:=A5H hp o (k:=i) (by omega);have hrow:=r.ok.at (i:=i) (by have:=r.len;omega);have hm:=Int.emod_nonneg (p-x.getD ((gjN p w R w).2.getD i 0).toNat 0) (show p≠0 by omega);have hm2:=Int.emod_lt_of_pos (p-x.getD ((gjN p w R w).2.getD i 0).toNat 0) (show 0<p by omega);have ea:Ae8.F (s.1,(A0Y p w R).getD i [],(p-x.getD ((gjN p w R w).2.getD i 0).toNat 0)%p,p,())=some ((A0f p x (gjN p w R w).1 (gjN p w R w).2 (i+1),()),()):=by
     rw[q1,hb,Ae8.val _ _ _ _ hp.1 ⟨hm,by omega⟩ l2 hrow.2 (by omega) (by omega)];rfl
   refine⟨(A0f p x (gjN p w R w).1 (gjN p w R w).2 (i+1),s.2++[x.getD ((gjN p w R w).2.getD i 0).toNat 0]),⟨rfl,by simp[q2]⟩,Goes.succ fun k=>?_⟩;rw[An1.l4_eq,if_pos (ltI.2 hi),if_pos (idxI.2 hi),Int.toNat_natCast,if_pos (by omega),if_pos (by rw[q2];simp only[List.length_cons,List.length_nil,bigA];omega),if_pos (idxI.2 (by omega)),if_pos (by omega),if_neg (by omega)];rw[A0j (by omega) (by omega),Int.tmod_eq_emod_of_nonneg (by omega),ea];simp only[Option.bind_some];rw[A0x (by omega)]) 0 (x,[]) (Nat.zero_le _) ⟨rfl,rfl⟩
 obtain⟨q1,q2⟩:=hs;obtain⟨l1,l2⟩:=A3k hp2 hx (gjN p w R w).1 (gjN p w R w).2 (gjN p w R w).2.length;obtain⟨b,e1,e2⟩:=Ap0.val s.1 (by rw[q1];omega);refine⟨b,?_,by rw[e2,q1];exact A5f hp o hx⟩;have hc:An1.F ((p,(v,A0Y p w R)),x,())=some ((s.2,(b,())),()):=by
   refine An1.of _ _ _ _ (Ev.of_eq (hg _ ((Ev.const _).succ fun k=>?_)) fun k=>?_)
   . rw[An1.l4_eq,if_neg (by simp),e1];rfl
   . rw[An1.T,Am1.val hp hw o];rfl
 rw[Ao7.eq,Ao7.T,hc];rfl
theorem A0o {p:Int} {h h' w:Nat} {R T:List (List Int)} (o:RowsOk p h w R) (o':RowsOk p h' w T):RowsOk p (h+h') w (R++T) :=
 ⟨by rw[List.length_append,o.len,o'.len],fun r hr=>(List.mem_append.1 hr).elim (o.row r) (o'.row r)⟩
theorem null_app {p:Int} {w:Nat} {R T:List (List Int)} {x:Nat->Int}:Null p w (R++T) x↔Null p w R x/\Null p w T x:=by
 have key:∀ {S:List (List Int)},Null p w S x↔∀ r∈S,p ∣ dotN w r x:=fun {S}=>⟨fun h r hr=>A4l h hr,fun h i hi=>h _ (A0y [] hi)⟩;rw[key,key,key];exact⟨fun h=>⟨fun r hr=>h r (List.mem_append_left _ hr),fun r hr=>h r (List.mem_append_right _ hr)⟩,fun h r hr=>(List.mem_append.1 hr).elim (h.1 r) (h.2 r)⟩
theorem null_single {p:Int} {w:Nat} {r:List Int} {x:Nat->Int}:Null p w [r] x↔p ∣ dotN w r x:=by
 constructor
 . intro h;exact A4l h (by simp)
 . intro h i hi;simp at hi;subst hi;exact h
theorem A2j {p:Int} {w:Nat} {x:List Int} (hx:x.length=w/\A0M 0 (p-1) x):RowsOk p 1 w [x]:=⟨rfl,fun r hr=>by rw[List.mem_singleton.1 hr];exact hx⟩
theorem rk_snoc {p:Int} {h w:Nat} {S:List (List Int)} (hp:A0E p) (o:RowsOk p h w S) {x:List Int} (hx:x.length=w/\A0M 0 (p-1) x) (hs:¬ A4Z p w S x):rk p w (S++[x])=rk p w S+1:=by
 have o1:=A0o o (A2j hx);have o2:=A0o (A4H hp o) (A2j hx);have e:rk p w (A0Y p w S++[x])=rk p w (S++[x]):=A6U hp o2 o1 fun y=>by rw[null_app,null_app,A1d hp o]
 have h1:=rk_le hp o2;obtain⟨r,hn⟩:=A0L hp o w (Nat.le_refl _);obtain⟨r',hn'⟩:=A0L hp o1 w (Nat.le_refl _);have hsub:∀ y,Null p w (gjN p w (S++[x]) w).1 y->Null p w (gjN p w S w).1 y:=fun y hy=>(hn y).2 (null_app.1 ((hn' y).1 hy)).1;have h2:=(A1p r.asc r'.asc (A3d hp.1.1 r' r hsub)).1;have h3:(gjN p w S w).2.length=rk p w S:=rfl;have h4:(gjN p w (S++[x]) w).2.length=rk p w (S++[x]):=rfl;have hne:rk p w (S++[x])≠rk p w S:=fun he=>hs fun y hy=>by
   have:=A5T r' r hp.1.1 hsub (by rw[h3,h4,he]) y ((hn y).2 hy);exact null_single.1 (null_app.1 ((hn' y).1 this)).2
 omega
theorem Ak4.val {p:Int} {h n w:Nat} (hp:A0E p) (hw:w≤256) (hn:n≤1024) {R L:List (List Int)} (o:RowsOk p h w R) (oL:RowsOk p n w L):∃ t,Ak4.F ((p,((w:Int),A0Y p w R)),L,())=some ((t,()),())/\t.length+rk p w R=rk p w (R++L)/\t.length≤n:=by
 obtain⟨s,hs,hg⟩:=Goes.loop (R:=((List (List Int)×Unit)×Unit)) (fun k i (s:List (List Int)×List (List Int))=>Ak4.l3 k L (L.length:Int) (i:Int) p (w:Int) s.1 s.2) L.length
   (fun i s=>∃ q,RowsOk p q w s.2/\q≤i/\s.1=A0Y p w (R++s.2)/\s.2.length+rk p w R=rk p w (R++s.2)/\∀ y,Null p w (R++s.2) y↔Null p w (R++L.take i) y) (fun i s hi h2=>by
     obtain⟨B,t⟩:=s;dsimp only at h2;obtain⟨q,ot,hqi,hB,hrk,hnull⟩:=h2;subst hB;have hi':i<n:=by rw[<-oL.len];exact hi
     have hx:=oL.at hi';have oS:=A0o o ot;have hlt:=ot.len;have hlt:t.length=q:=hlt;have hrS:=rk_w hp oS;have hbl:=A1U hp oS;have htake:L.take (i+1)=L.take i++[L.getD i []]:=by rw[List.take_add_one,List.getElem?_eq_getElem hi,Option.toList_some,A0z hi]
     obtain⟨b,e1,e2⟩:=Ao7.val hp hw oS hx (w:Int);cases b with
     | true =>
       refine⟨(A0Y p w (R++t),t),⟨q,ot,by omega,rfl,hrk,fun y=>?_⟩,Goes.succ fun k=>?_⟩
       . have hin:=e2.1 rfl;rw[htake];constructor
         . intro hy;have h3:=null_app.1 ((hnull y).1 hy);exact null_app.2 ⟨h3.1,null_app.2 ⟨h3.2,null_single.2 (hin y hy)⟩⟩
         . intro hy;have h3:=null_app.1 hy;exact(hnull y).2 (null_app.2 ⟨h3.1,(null_app.1 h3.2).1⟩)
       . rw[Ak4.l3_eq,if_pos (ltI.2 hi),if_pos (idxI.2 hi),Int.toNat_natCast,e1];simp only[Option.bind_some];rw[if_neg (by simp),A0x (by omega)]
     | false =>
       have hns:¬ A4Z p w (R++t) (L.getD i []):=fun hh=>absurd (e2.2 hh) (by simp);have hsn:=rk_snoc hp oS hx hns;have oS':=A0o oS (A2j hx);have oB':=A0o (A4H hp oS) (A2j hx);have eB:A0Y p w (A0Y p w (R++t)++[L.getD i []])=A0Y p w (R++(t++[L.getD i []])):=by
         rw[<-List.append_assoc];exact(A6w hp oB' oS').2 fun y=>by rw[null_app,null_app,A1d hp oS]
       refine⟨(A0Y p w (R++(t++[L.getD i []])),t++[L.getD i []]),⟨q+1,A0o ot (A2j hx),by omega,rfl,?_,fun y=>?_⟩,Goes.succ fun k=>?_⟩
       . simp only[List.length_append,List.length_cons,List.length_nil];rw[<-List.append_assoc,hsn];omega
       . rw[htake,<-List.append_assoc,<-List.append_assoc,null_app,null_app (R:=R++L.take i),hnull y]
       . have hsm:SmL (A0Y p w (R++t)):=(A4H hp oS).small (by omega) hw;have hsp:=Aa6.val hp (h:=rk p w (R++t)+1) (by omega) hw oB';rw[Ak4.l3_eq,if_pos (ltI.2 hi),if_pos (idxI.2 hi),Int.toNat_natCast,e1];simp only[Option.bind_some];rw[if_pos (by simp),if_pos (by simp only[List.length_cons,List.length_nil,bigA];omega),Ad3.val _ hsm];simp only[Option.bind_some];have hbig:(A0Y p w (R++t)).length+[L.getD i []].length≤bigA:=by simp only[List.length_cons,List.length_nil,bigA];omega
         simp only[if_pos hbig,hsp,Option.bind_some,A5E,eB,A0x (show i<4611686018427387904 by omega)]) 0 (A0Y p w R,[]) (Nat.zero_le _) ⟨0,⟨rfl,by simp⟩,Nat.le_refl _,by simp,by simp,fun y=>by simp⟩
 obtain⟨q,ot,hqi,hB,hrk,hnull⟩:=hs;have ht:s.2.length=q:=ot.len;refine⟨s.2,Ak4.of _ _ _ _ (Ev.of_eq (hg _ ((Ev.const _).succ fun k=>?_)) fun k=>rfl),?_,by rw[ht,<-oL.len];exact hqi⟩
 . rw[Ak4.l3_eq,if_neg (by simp)]
 . rw[hrk];refine A6U hp (A0o o ot) (A0o o oL) fun y=>?_;rw[hnull y,List.take_length]
theorem Ab5.val (s:ShfV) (ho:SheafOk s) (k:Int) (hk:-1≤k/\k≤10):Ab5.F (s,k,())=some ((cobM s k,()),()):=by
 have hcl:=ho.1.1;have hp:=ho.2.1.1;obtain⟨c1,c2⟩:=A0O ho k;obtain⟨d1,d2⟩:=A0O ho (k+1);obtain⟨W,hW⟩:∃ W,(A0B s k).toNat=W:=⟨_,rfl⟩;obtain⟨H,hH⟩:∃ H,(A0B s (k+1)).toNat=H:=⟨_,rfl⟩;have eW:A0B s k=(W:Int):=by omega
 have eH:A0B s (k+1)=(H:Int):=by omega
 obtain⟨hs,ehs⟩:∃ hs,A0A s.1 (k+1) s.1.length=hs:=⟨_,rfl⟩;have hsl:hs.length≤48:=by rw[<-ehs];have:=A0K s.1 (k+1) s.1.length;omega
 have hsat:∀ m,m<hs.length->∃ j:Nat,hs.getD m 0=(j:Int)/\j<s.1.length/\((s.1.getD j []).length:Int)=k+2:=fun m hm=>by
   rw[<-ehs]at hm ⊢;obtain⟨j,a,b,c⟩:=A3Z hm;exact⟨j,a,b,by omega⟩
 have hT:∀ r,Ev (fun n=>Ab5.T n s.1 s.2.1 s.2.2.1 s.2.2.2 k) r->Ab5.F (s,k,())=some r:=fun r hr=>Ab5.of _ _ _ _ _ hr;have w1:IntKind.i64.wrap (k+1)=k+1:=A0j (by omega) (by omega);have g1:=Ad4.val' s ho (k+1) (by omega);have g2:=Ad4.val' s ho k (by omega);have g3:=Ae5.val s.1 (k+1) (by omega) (by omega);rw[ehs]at g3;have hM:cobM s k=(s.2.1,(H:Int),(W:Int),wr (cobW s k) (List.replicate (H*W) 0)):=by rw[cobM,eH,eW];simp only[Int.toNat_natCast]
 rw[hM];refine hT _ (Ev.of_eq (N:=fun n=>Ab5.l4 n s.1 s.2.1 s.2.2.1 s.2.2.2 k ((0:Nat):Int) 0 0 0 [] s.2.1 (H:Int) (W:Int) (List.replicate (H*W) 0) hs) ?_ fun n=>?_)
 . by_cases hneg:k<0
   . have:cobW s k=[]:=by rw[cobW,if_pos hneg]
     rw[this];refine(Ev.const _).succ fun n=>?_;rw[Ab5.l4_eq];by_cases h0:0<hs.length
     . rw[if_pos (ltI.2 h0),if_neg (by simp only[decide_eq_true_eq];omega)];rfl
     . rw[if_neg (by simp only[decide_eq_true_eq];omega)];rfl
   . have:cobW s k=(List.range hs.length).flatMap fun n=>A3P s W (hs.getD n 0).toNat:=by rw[cobW,if_neg hneg,ehs,hW]
     rw[this];have main:=Goes.writes (R:=((MatV×Unit)×Unit)) (fun n m x=>Ab5.l4 n s.1 s.2.1 s.2.2.1 s.2.2.2 k (m:Int) 0 0 0 [] s.2.1 (H:Int) (W:Int) x hs) hs.length (H*W) (fun n=>A3P s W (hs.getD n 0).toNat) (fun m x hm hx=>by
       obtain⟨h,e1,e2,e3⟩:=hsat m hm;have f4:(fcs s.1 h).length≤4:=by have:=A1O ho.1 e2;simp only[fcs,List.length_map];exact this
       have q2 : Ag0.F ((s.1,(s.2.1,(s.2.2.1,s.2.2.2))),(h:Int),())=_:=Ag0.val s ho h e2;have E3:=fun n=>Ab5.l4_eq n s.1 s.2.1 s.2.2.1 s.2.2.2 k (m:Int) 0 0 0 [] s.2.1 (H:Int) (W:Int) x hs;simp only[if_pos (ltI.2 hm),if_pos (idxI.2 hm),if_pos (show decide (k≥0)=true by simp only[decide_eq_true_eq];omega),Int.toNat_natCast,e1,Aa2.val s.1 ho.1 h e2,q2,Option.bind_some]at E3;refine(Goes.succ E3).trans ?_;rw[e1,Int.toNat_natCast];refine(Goes.writes (R:=((MatV×Unit)×Unit)) (fun n i x=>Ab5.l9 n s.1 s.2.1 s.2.2.1 s.2.2.2 k (m:Int) (A0S s h) (i:Int) 0 0 0 [] s.2.1 (H:Int) (W:Int) x hs (fcs s.1 h)) (fcs s.1 h).length (H*W) (A3C s W h) (fun i x hi hx=>by
         obtain⟨f,R,C,T,L,B⟩:=blk ho e2 e3 hi;rw[hW,hH]at B;have q1:Aa4.F ((s.1,(s.2.1,(s.2.2.1,s.2.2.2))),(h:Int),(i:Int),())=_:=Aa4.val s ho h i e2 hi;have q3:Ag0.F ((s.1,(s.2.1,(s.2.2.1,s.2.2.2))),(f:Int),())=_:=Ag0.val s ho f B.flt;rw[B.left]at q3;have E7:=fun n=>Ab5.l9_eq n s.1 s.2.1 s.2.2.1 s.2.2.2 k (m:Int) (A0S s h) (i:Int) 0 0 0 [] s.2.1 (H:Int) (W:Int) x hs (fcs s.1 h);simp only[if_pos (ltI.2 hi),if_pos (idxI.2 hi),if_pos (idxI.2 hm),Int.toNat_natCast,e1,B.at_,q1,q3,Aq4.val i s.2.1 hp,Option.bind_some,B.rows,B.cols,B.prime,B.top]at E7;rw[B.top];refine(Goes.succ E7).trans ?_;have ew:A3C s W h i=(List.range R).flatMap (A2D s W h i):=by rw[A3C,B.rows,Int.toNat_natCast]
         rw[ew];refine(Goes.writes (R:=((MatV×Unit)×Unit)) (fun n a x=>Ab5.l15 n s.1 s.2.1 s.2.2.1 s.2.2.2 k (m:Int) (T:Int) (i:Int) s.2.1 (R:Int) (C:Int) (A0v s h i).2.2.2 (L:Int) (sgn s.2.1 i) (a:Int) 0 0 0 [] s.2.1 (H:Int) (W:Int) x hs (fcs s.1 h)) R (H*W) (A2D s W h i) (fun a x ha hx=>by
           refine(Goes.succ fun n=>by rw[Ab5.l15_eq,if_pos (ltI.2 ha)]).trans ?_;have ew3:A2D s W h i a=(List.range C).flatMap fun b=>[((T+a)*W+L+b,((A0v s h i).2.2.2.getD (a*C+b) 0*sgn s.2.1 i)%s.2.1)]:=by
             rw[A2D,B.cols,B.top,B.fc_,B.left];simp only[Int.toNat_natCast];exact A2W _ _
           rw[ew3];refine(Goes.writes (R:=((MatV×Unit)×Unit)) (fun n b x=>Ab5.l18 n s.1 s.2.1 s.2.2.1 s.2.2.2 k (m:Int) (T:Int) (i:Int) s.2.1 (R:Int) (C:Int) (A0v s h i).2.2.2 (L:Int) (sgn s.2.1 i) (a:Int) (b:Int) 0 0 0 [] s.2.1 (H:Int) (W:Int) x hs (fcs s.1 h)) C (H*W) (fun b=>[((T+a)*W+L+b,((A0v s h i).2.2.2.getD (a*C+b) 0*sgn s.2.1 i)%s.2.1)]) (fun b x hb hx=>Goes.succ fun n=>by
             obtain⟨p1,p2⟩:=A6f B.bT B.bL B.bH B.bW ha hb;have bT:=B.bT;have bL:=B.bL;have bH:=B.bH;have bW:=B.bW;obtain⟨e5,e6⟩:=A1L (show R≤32 by omega) (show C≤32 by omega) ha hb;have hce:=B.cells;have hel:=A2R hp (A0C B.el (show a*C+b<(A0v s h i).2.2.2.length by omega)) (A6p hp i);rw[Ab5.l18_eq,if_pos (ltI.2 hb),e5,if_pos (by omega),if_neg (by omega),p1,if_pos (by omega),A0x (by omega)];simp only[Int.toNat_natCast];rw[A0j (x:=(A0v s h i).2.2.2.getD (a*C+b) 0*sgn s.2.1 i) (by omega) (by omega),A2O (by omega)];rfl) x hx).trans (Goes.succ fun n=>by
               have bT:=B.bT;have bH:=B.bH;rw[Ab5.l18_eq,if_neg (by simp),A0x (by omega)])) x hx).trans (Goes.succ fun n=>by rw[Ab5.l15_eq,if_neg (by simp),A0x (by omega)])) x hx).trans (Goes.succ fun n=>by rw[Ab5.l9_eq,if_neg (by simp),A0x (by omega)];rfl)) (List.replicate (H*W) 0) (by simp)
     refine main _ ((Ev.const _).succ fun n=>?_);rw[Ab5.l4_eq,if_neg (by simp)]
 . rw[Ab5.T,w1,g1,g2,eH,eW];simp only[Option.bind_some];rw[Ad0.val s.2.1 H W (by omega) (by omega),g3];rfl
theorem Am8.val (c:List (List Int)) (h:CplxOk c):Am8.F (c,3,())=some ((c,()),()):=by
 have hn:=h.small.1;refine Am8.of _ _ ?_;obtain⟨s,hs,hg⟩:=Goes.loop (R:=((List (List Int)×Unit)×Unit)) (fun k i (x:List (List Int))=>Am8.l3 k c 3 (i:Int) [] x) c.length (fun i x=>x=c.take i) (fun i x hi h2=>⟨_,rfl,Goes.succ fun k=>by
   have h4:=(h.2 i hi).1.1.2;rw[Am8.l3_eq,if_pos (ltI.2 hi),if_pos (idxI.2 hi),A0j (x:=(3:Int)+1) (by omega) (by omega)];simp only[Int.toNat_natCast,Ab2.val _ (h.small.2 _ (A0y [] hi)),Option.bind_some];rw[if_pos (by simp only[decide_eq_true_eq];omega),if_pos (idxI.2 hi),if_pos (by rw[h2];simp only[List.length_take,List.length_cons,List.length_nil,bigA];omega),A0x (by omega),h2,List.take_add_one,List.getElem?_eq_getElem hi,Option.toList_some,A0z hi]⟩) 0 [] (Nat.zero_le _) rfl
 rw[List.take_of_length_le (Nat.le_refl _)]at hs;refine Ev.of_eq (hg _ ((Ev.const _).succ fun k=>?_)) fun k=>rfl;rw[Am8.l3_eq,if_neg (by simp),hs]
theorem SheafOk.mats {s:ShfV} (h:SheafOk s):∀ m∈s.2.2.2,MatOk m:=by
 intro m hm;obtain⟨q,hq,rfl⟩:=List.getElem_of_mem hm;obtain⟨i,hi,j,hj,rfl⟩:=A4j (show q<off s.1 s.1.length by have:=h.2.2.2.1;omega);have:=(h.2.2.2.2 i hi j hj).1
 rwa [A0z hq]at this
def A4I (s:ShfV) (i:Nat):Int:=A0B s (i:Int)-(A3w (cobM s (i:Int)):Int)-(A3w (cobM s ((i:Int)-1)):Int)
theorem A1R {s:ShfV} (h:SheafOk s):SmSh s:=by
 refine⟨h.1.small,?_,?_,fun m hm=>(h.mats m hm).small⟩
 . have:=h.2.2.1.1;have:=h.1.1;unfold Sm;omega
 . have:=h.2.2.2.1;have:=A1A h.1 (Nat.le_refl s.1.length);have:=h.1.1;omega
noncomputable def cohV (s:ShfV):List Int×Int:=@ite _ (A1J s) (Classical.propDecidable _) ((List.range 4).map (A4I s),0) ([],1)
theorem A6k (t:ShfV):(cohV t).1.length≤4:=by
 unfold cohV;split<;>simp
theorem Ad8.val (s:ShfV) (hs:SmSh s):Ad8.F (s,())=some (((cohV s).1,(cohV s).2,()),()):=by
 obtain⟨v,a1,a1'⟩:=Ad1.val s hs;have a1:Ad1.F ((s.1,(s.2.1,(s.2.2.1,s.2.2.2))),())=_:=a1;have hT:∀ r,Ev (fun n=>Ad8.T n s.1 s.2.1 s.2.2.1 s.2.2.2) r->Ad8.F (s,())=some r:=fun r hr=>Ad8.of _ _ _ _ hr;refine hT _ ?_;cases v with
 | false =>
   refine(Ev.const _).of_eq fun k=>?_;rw[Ad8.T,a1,cohV,if_neg fun hh=>absurd (a1'.2 hh) (by simp)];rfl
 | true =>
   have h:=a1'.1 rfl;have hdim:∀ i:Nat,i<4->As0.F ((s.1,(s.2.1,(s.2.2.1,s.2.2.2))),(i:Int),())=some ((A4I s i,()),()):=fun i hi=>by
     have r1:=Am7.val (A2C h.1 ((i:Int)-1));have r2:=Am7.val (A2C h.1 (i:Int));have q1:=A4m (A2C h.1 ((i:Int)-1));have q2:=A4m (A2C h.1 (i:Int));have b:=A0O h.1 (i:Int);have e2:Ab5.F ((s.1,(s.2.1,(s.2.2.1,s.2.2.2))),(i:Int)-1,())=_:=Ab5.val s h.1 ((i:Int)-1) (by omega);have e3:Ab5.F ((s.1,(s.2.1,(s.2.2.1,s.2.2.2))),(i:Int),())=_:=Ab5.val s h.1 (i:Int) (by omega);rw[As0.eq,As0.T,A0j (x:=(i:Int)-1) (by omega) (by omega),e3];simp only[Option.bind_some,e2,r1,r2];have ec:(cobM s (i:Int)).2.2.1=A0B s (i:Int):=rfl;rw[ec,A0j (x:=A0B s (i:Int)-(A3w (cobM s (i:Int)):Int)) (by omega) (by omega),A0j (by omega) (by omega),A4I]
   have g:=Goes.push (R:=(List Int×Int×Unit)×Unit) (fun k i x=>Ad8.l5 k (i:Int) s.1 s.2.1 s.2.2.1 s.2.2.2 x) 4 (A4I s) fun i x hi hx=>Goes.succ fun k=>by
     rw[Ad8.l5_eq,if_pos (by simp only[decide_eq_true_eq];omega),hdim i hi];simp only[Option.bind_some];rw[if_pos (A3q hx (by omega)),A0x (by omega)]
   refine Ev.of_eq (g _ ((Ev.const _).succ fun k=>?_)) fun k=>?_
   . rw[Ad8.l5_eq,if_neg (by decide),cohV,if_pos h]
   . rw[Ad8.T,a1];simp only[Option.bind_some];rw[if_neg (by simp)];rfl
theorem cols_ok {m:MatV} (hm:MatOk m) {R C:Nat} (hr:m.2.1=(R:Int)) (hc:m.2.2.1=(C:Int)):∃ T,Ag3.F (m,())=some ((T,()),())/\RowsOk m.1 C R T/\∀ i j,i<R->j<C->en T j i=en (A0l m.2.2.2 R C) i j:=by
 obtain⟨p,r,c,xs⟩:=m;obtain rfl:r=(R:Int):=hr;obtain rfl:c=(C:Int):=hc;obtain⟨R',C',h1,h2,h3,h4,h5,h6,h7⟩:=hm.nat;obtain rfl:R=R':=by have h1:(R:Int)=R':=h1;omega
 obtain rfl:C=C':=by have h2:(C:Int)=C':=h2;omega
 have h5:xs.length=R*C:=h5;have hT:(A1i (p,(R:Int),(C:Int),xs)).2.2.2.length=C*R:=by simp only[A1i,A0F,Int.toNat_natCast]
 refine⟨_,Ag3.val p R C xs hm,⟨by simp[A0l],fun r hr=>?_⟩,fun i j hi hj=>?_⟩
 . unfold A0l at hr;obtain⟨j,hj,rfl⟩:=List.mem_map.1 hr;have hj:=List.mem_range.1 hj;refine⟨A0X hT hj,allIn_iff.2 fun q hq=>?_⟩;rw[A0X hT hj]at hq;rw[A0i hq,A3B p R C xs hj hq];have hlt:q*C+j<R*C:=by
     have:=Nat.mul_le_mul_right C (show q+1≤R by omega);rw[Nat.add_mul,Nat.one_mul]at this;omega
   exact A0C h7 (by show _<xs.length;rw[h5];exact hlt)
 . unfold en;rw[A1D _ hj,A1D _ hi,A0i hi,A0i hj,A3B p R C xs hj hi]
theorem Ak1.val {s:ShfV} (hs:A1J s) {k:Nat} (hk:k≤3):∃ t,Ak1.F (s,(k:Int),())=some ((t,()),())/\(t.length:Int)=A4I s k:=by
 have ho:=hs.1;have hp:=ho.2.1;have m1:=A2C ho (k:Int);have m0:=A2C ho ((k:Int)-1);have b0:=A0O ho (k:Int);have b1:=A0O ho ((k:Int)+1);have b2:=A0O ho ((k:Int)-1);obtain⟨w,hw⟩:=Int.eq_ofNat_of_zero_le b0.1;obtain⟨H,hH⟩:=Int.eq_ofNat_of_zero_le b1.1;obtain⟨C,hC⟩:=Int.eq_ofNat_of_zero_le b2.1;have e1:(cobM s (k:Int)).2.1=(H:Int):=hH;have e2:(cobM s (k:Int)).2.2.1=(w:Int):=hw;have f1:(cobM s ((k:Int)-1)).2.1=(w:Int):=by
   show A0B s ((k:Int)-1+1)=_;rw[show(k:Int)-1+1=k by omega];exact hw
 have f2:(cobM s ((k:Int)-1)).2.2.1=(C:Int):=hC;have pm:(cobM s (k:Int)).1=s.2.1:=rfl;have pn:(cobM s ((k:Int)-1)).1=s.2.1:=rfl;have l1:(cobM s (k:Int)).2.2.2.length=H*w:=by
   have:=m1.2.2.2.1;rw[e1,e2]at this;have e:(H:Int)*(w:Int)=((H*w:Nat):Int):=by simp
   omega
 have l0:(cobM s ((k:Int)-1)).2.2.2.length=w*C:=by
   have:=m0.2.2.2.1;rw[f1,f2]at this;have e:(w:Int)*(C:Int)=((w*C:Nat):Int):=by simp
   omega
 obtain⟨T,eT,oT,ht⟩:=cols_ok m0 f1 f2;obtain⟨K,eK,hK⟩:=Ag4.val m1 e1 e2;have oR:=A3h m0 f1 f2 l0;have oE:=A3h m1 e1 e2 l1;rw[pm]at hK oE;rw[pn]at oT oR;obtain⟨r,hn⟩:=A0L hp oE w (Nat.le_refl _);have hfl:=A3r r;have hkr:=ker_rk hp r hK;obtain⟨t,et,ht1,ht2⟩:=Ak4.val hp (w:=w) (by omega) (by omega) oT hK.ok;have hnull:∀ y,Null s.2.1 w (T++K) y↔Null s.2.1 w K y:=fun y=>by
   rw[null_app];refine⟨fun h=>h.2,fun h=>⟨fun j hj=>?_,h⟩⟩;have hj:j<C:=by rw[oT.len]at hj;exact hj
   have hv:Null s.2.1 w (gjN s.2.1 w (A0l (cobM s (k:Int)).2.2.2 H w) w).1 (fun q=>(T.getD j []).getD q 0):=(hn _).2 fun i hi=>by
     have hi:i<H:=by rw[A2V]at hi;exact hi
     have hz:=dd_zero hs (k:=(k:Int)) (by omega) (i:=i) (j:=j) (by omega) (by omega);rw[hw,hC,Int.toNat_natCast,Int.toNat_natCast]at hz;rw[A1D _ hi];have ec:dotN w (rowL (cobM s (k:Int)).2.2.2 w i) (fun q=>(T.getD j []).getD q 0)=dotN w (rowL (cobM s (k:Int)).2.2.2 w i) (fun q=>(cobM s ((k:Int)-1)).2.2.2.getD (q*C+j) 0):=A0w fun q hq=>by
       have:=ht q j hq hj;unfold en at this;rw[A1D _ hq,A0i hj]at this;exact congrArg (fun z=>(rowL (cobM s (k:Int)).2.2.2 w i).getD q 0*z) this
     rw[ec];exact hz
   exact ker_ann r hK h hv
 have hrk:rk s.2.1 w (T++K)=rk s.2.1 w K:=A6U hp (A0o oT hK.ok) hK.ok hnull;have t1:=A4Y hp oR oT ht;have t2:=A4Y hp oT oR fun i j hi hj=>(ht j i hj hi).symm;have hr1:A3w (cobM s (k:Int))=(gjN s.2.1 w (A0l (cobM s (k:Int)).2.2.2 H w) w).2.length:=by rw[A3w,e1,e2];rfl
 have hr0:A3w (cobM s ((k:Int)-1))=rk s.2.1 C (A0l (cobM s ((k:Int)-1)).2.2.2 w C):=by rw[A3w,f1,f2];rfl
 refine⟨t,?_,by rw[A4I,hw,hr1,hr0];omega⟩;have c0:Aa5.F ((s.1,(s.2.1,(s.2.2.1,s.2.2.2))),(k:Int)-1,())=some ((cobM s ((k:Int)-1),()),()):=Aa5.val s ho ((k:Int)-1) (by omega);have c1:Aa5.F ((s.1,(s.2.1,(s.2.2.1,s.2.2.2))),(k:Int),())=some ((cobM s (k:Int),()),()):=Aa5.val s ho (k:Int) (by omega);have cb:Ar3.F ((s.1,(s.2.1,(s.2.2.1,s.2.2.2))),(k:Int),())=some (((s.2.1,((w:Int),A0Y s.2.1 w T)),()),()):=by
   rw[Ar3.eq,Ar3.T,A0j (x:=(k:Int)-1) (by omega) (by omega),c0];simp only[Option.bind_some];have eT':Ag3.F (((cobM s ((k:Int)-1)).1,((cobM s ((k:Int)-1)).2.1,((cobM s ((k:Int)-1)).2.2.1,(cobM s ((k:Int)-1)).2.2.2))),())=some ((T,()),()):=eT
   first
     | rw[eT']
     | rw[eT]
   simp only[Option.bind_some];rw[f1,Aa6.val hp (by omega) (by omega) oT];rfl
 have hT:Ak1.F (s,(k:Int),())=Ak1.T s.1 s.2.1 s.2.2.1 s.2.2.2 (k:Int):=Ak1.eq _ _ _ _ _;rw[hT,Ak1.T,cb];simp only[Option.bind_some];rw[c1];simp only[Option.bind_some];rw[eK];simp only[Option.bind_some];rw[et];rfl
theorem Ag1.val (s:ShfV) (hs:SmSh s):Ag1.F (s,())=some (((cohV s).1,(cohV s).2,()),()):=by
 obtain⟨v,a1,a1'⟩:=Af4.val s hs;have a1:Af4.F ((s.1,(s.2.1,(s.2.2.1,s.2.2.2))),())=_:=a1;have hT:∀ r,Ev (fun n=>Ag1.T n s.1 s.2.1 s.2.2.1 s.2.2.2) r->Ag1.F (s,())=some r:=fun r hr=>Ag1.of _ _ _ _ hr;refine hT _ ?_;cases v with
 | false =>
   refine(Ev.const _).of_eq fun k=>?_;rw[Ag1.T,a1,cohV,if_neg fun hh=>absurd (a1'.2 hh) (by simp)];rfl
 | true =>
   have h:=a1'.1 rfl;have g:=Goes.push (R:=(List Int×Int×Unit)×Unit) (fun k i x=>Ag1.l5 k (i:Int) s.1 s.2.1 s.2.2.1 s.2.2.2 x) 4 (A4I s) fun i x hi hx=>Goes.succ fun k=>by
     obtain⟨t,h1,h2⟩:=Ak1.val h (k:=i) (by omega);have h1:Ak1.F ((s.1,(s.2.1,(s.2.2.1,s.2.2.2))),(i:Int),())=_:=h1;rw[Ag1.l5_eq,if_pos (by simp only[decide_eq_true_eq];omega),h1];simp only[Option.bind_some];rw[Ak6.eq,Ak6.T,h2];simp only[Option.bind_some];rw[if_pos (A3q hx (by omega)),A0x (by omega)]
   refine Ev.of_eq (g _ ((Ev.const _).succ fun k=>?_)) fun k=>?_
   . rw[Ag1.l5_eq,if_neg (by decide),cohV,if_pos h]
   . rw[Ag1.T,a1];simp only[Option.bind_some];rw[if_neg (by simp)];rfl
open Go.Lib (compact compactUpTo compactUpTo_succ keeps)
theorem A4G:∀ {xs ys:List Int},xs.Pairwise (·<·)->ys.Pairwise (·<·)->(∀ s,s∈xs↔s∈ys)->xs=ys
 | [],ys,_,_,h=>by
   cases ys with
   | nil=>rfl
   | cons y ys=>exact absurd ((h y).2 (by simp)) (by simp)
 | x::xs,[],_,_,h=>absurd ((h x).1 (by simp)) (by simp)
 | x :: xs,y::ys,hx,hy,h=>by
   rw[List.pairwise_cons]at hx hy;have e:x=y:=by
     have h1:=(h x).1 (by simp);have h2:=(h y).2 (by simp);simp only[List.mem_cons]at h1 h2;rcases h1 with rfl|h1
     . rfl
     . rcases h2 with rfl|h2
       . rfl
       . have:=hx.1 y h2;have:=hy.1 x h1;omega
   subst e;rw[A4G hx.2 hy.2 fun s=>?_];constructor
   . intro hs;have:=(h s).1 (by simp[hs]);simp only[List.mem_cons]at this;rcases this with rfl|this
     . have:=hx.1 s hs;omega
     . exact this
   . intro hs;have:=(h s).2 (by simp[hs]);simp only[List.mem_cons]at this;rcases this with rfl|this
     . have:=hy.1 s hs;omega
     . exact this
theorem A2s (d:Array Int) (hs:∀ i j,i<j->j<d.size->d[i]! ≤ d[j]!):∀ m,m≤d.size->(compactUpTo d m).Pairwise (·<·)/\(∀ x,x∈compactUpTo d m↔∃ j,j<m/\d[j]! = x)/\∀ x∈compactUpTo d m,x≤d[m-1]!
 | 0,_=>⟨by simp[compactUpTo],fun x=>by simp[compactUpTo],fun x hx=>by simp[compactUpTo]at hx⟩
 | m + 1,h=>by
   obtain⟨h1,h2,h3⟩:=A2s d hs m (by omega);have hm:∀ x∈compactUpTo d m,x≤d[m]! := fun x hx=>by
     obtain⟨j,hj,rfl⟩:=(h2 x).1 hx;exact hs j m hj (by omega)
   rw[compactUpTo_succ];by_cases hk:keeps d m=true
   . rw[if_pos hk];have hlt:∀ x∈compactUpTo d m,x<d[m]! := fun x hx=>by
       have hm0:m≠0:=by
         rintro rfl;simp[compactUpTo]at hx
       simp only[keeps,hm0,false_or,decide_eq_true_eq,ne_eq]at hk;have:=h3 x hx;have:=hs (m-1) m (by omega) (by omega);omega
     refine⟨?_,fun x=>?_,fun x hx=>?_⟩
     . rw[List.pairwise_append];exact⟨h1,by simp,fun a ha b hb=>by simp only[List.mem_singleton]at hb;rw[hb];exact hlt a ha⟩
     . rw[List.mem_append,h2,List.mem_singleton];constructor
       . rintro(⟨j,hj,rfl⟩|rfl)
         . exact⟨j,by omega,rfl⟩
         . exact⟨m,by omega,rfl⟩
       . rintro⟨j,hj,rfl⟩;by_cases e:j=m
         . subst e;exact .inr rfl
         . exact .inl ⟨j,by omega,rfl⟩
     . simp only[Nat.add_sub_cancel];rw[List.mem_append,List.mem_singleton]at hx;rcases hx with hx|rfl
       . exact hm x hx
       . exact Int.le_refl _
   . rw[if_neg hk,List.append_nil];have hm0:m≠0/\d[m]! = d[m-1]! := by
       simp only[keeps,decide_eq_true_eq,ne_eq,not_or,Classical.not_not]at hk;exact hk
     refine⟨h1,fun x=>?_,fun x hx=>by simpa using hm x hx⟩;rw[h2];constructor
     . rintro⟨j,hj,rfl⟩;exact⟨j,by omega,rfl⟩
     . rintro⟨j,hj,rfl⟩;by_cases e:j=m
       . subst e;exact⟨j-1,by omega,hm0.2.symm⟩
       . exact⟨j,by omega,rfl⟩
def setI (xs:List Int):List Int:=compact (xs.mergeSort fun x y=>decide (x≤y))
theorem A2q (xs:List Int):(setI xs).Pairwise (·<·)/\∀ x,x∈setI xs↔x∈xs:=by
 obtain⟨ys,hys⟩:∃ ys,ys=xs.mergeSort fun x y=>decide (x≤y):=⟨_,rfl⟩;have hp:ys.Perm xs:=by rw[hys];exact List.mergeSort_perm _ _
 have hs:ys.Pairwise (fun a b=>decide (a≤b)=true):=by
   rw[hys];refine List.pairwise_mergeSort ?_ ?_ _
   . intro a b c h1 h2;simp only[decide_eq_true_eq]at *;omega
   . intro a b;simp only[Bool.or_eq_true,decide_eq_true_eq];omega
 have hget:∀ j (hj:j<ys.length),ys.toArray[j]! = ys[j]:=fun j hj=>by rw[getElem!_pos ys.toArray j (by simpa using hj)];simp
 obtain⟨h1,h2,-⟩:=A2s ys.toArray (fun i j hij hj=>by
   have hj':j<ys.length:=by simpa using hj
   have:=List.pairwise_iff_getElem.1 hs i j (by omega) hj' hij;rw[hget i (by omega),hget j hj'];simpa using this) ys.length (by simp)
 unfold setI;rw[<-hys];refine⟨h1,fun x=>?_⟩;show x∈compactUpTo ys.toArray ys.length↔_;rw[h2,<-hp.mem_iff];constructor
 . rintro⟨j,hj,rfl⟩;rw[hget j hj];exact List.getElem_mem hj
 . intro hx;obtain⟨j,hj,rfl⟩:=List.getElem_of_mem hx;exact⟨j,hj,hget j hj⟩
theorem Aq9.val (xs:List Int) (h:xs.length≤1048576):Aq9.F (xs,())=some ((),(xs.mergeSort fun x y=>decide (x≤y),())):=by
 unfold Aq9.F b4p;rw[if_pos (show xs.length<_ by omega)]
theorem Aq7.val (xs:List Int) (h:xs.length≤1048576):Aq7.F (xs,())=some ((compact xs,()),()):=by
 unfold Aq7.F b4b;rw[if_pos (show xs.length<_ by omega)]
def putL:List Int->Int->Bool->List Int
 | [],n,b=>if b=true then[]else[n]
 | x::l,n,b=>if b=true then x::putL l n true else if n≤x then(if n<x then n::x::putL l n true else x::putL l n true)else x::putL l n false
theorem A1a (n:Int):∀ l,putL l n true=l
 | []=>rfl
 | x::l=>by simp[putL,A1a n l]
theorem A4k (n:Int):∀ {l:List Int},l.Pairwise (·<·)->(putL l n false).Pairwise (·<·)/\∀ x,x∈putL l n false↔x=n∨x∈l
 | [],_=>⟨by simp[putL],fun x=>by simp[putL]⟩
 | y :: l,h=>by
   rw[List.pairwise_cons]at h;obtain⟨h1,h2⟩:=A4k n h.2;simp only[putL,Bool.false_eq_true,if_false,A1a];by_cases c1:n≤y
   . rw[if_pos c1];by_cases c2:n<y
     . rw[if_pos c2];refine⟨?_,fun x=>by simp⟩;rw[List.pairwise_cons,List.pairwise_cons];refine⟨fun a ha=>?_,h.1,h.2⟩;simp only[List.mem_cons]at ha;rcases ha with rfl|ha
       . exact c2
       . have:=h.1 a ha;omega
     . rw[if_neg c2];have:n=y:=by omega
       subst this;exact⟨List.pairwise_cons.2 h,fun x=>by simp⟩
   . rw[if_neg c1];refine⟨List.pairwise_cons.2 ⟨fun a ha=>?_,h1⟩,fun x=>?_⟩
     . rcases(h2 a).1 ha with rfl|ha
       . omega
       . exact h.1 a ha
     . rw[List.mem_cons,h2,List.mem_cons];constructor
       . rintro(h|h|h)
         . exact .inr (.inl h)
         . exact .inl h
         . exact .inr (.inr h)
       . rintro(h|h|h)
         . exact .inr (.inl h)
         . exact .inl h
         . exact .inr (.inr h)
theorem A6T (n:Int) (l:List Int) (b:Bool):(putL l n b).length≤l.length+1:=by
 induction l generalizing b with
 | nil=>simp only[putL];split<;>simp
 | cons x l ih =>
   have h1:=A1a n l;simp only[putL];split
   . rw[h1];simp
   . split
     . split<;>rw[h1]<;>simp
     . have:=ih false;simp only[List.length_cons];omega
theorem Am5.val (xs:List Int) (n:Int) (h:xs.length≤1000):Am5.F (xs,n,())=some ((putL xs n false,()),()):=by
 refine Am5.of _ _ ?_;have key:∀ (m i:Nat) (b:Bool) (out:List Int),i+m=xs.length->out.length≤i+b.toNat->Ev (fun k=>Am5.l4 k xs n b (i:Int) out) ((out++putL (xs.drop i) n b,()),()):=by
   intro m;induction m with
   | zero =>
     intro i b out hi ho;have ho1:out.length≤i+1:=by have:=Bool.toNat_le b;omega
     have hi:i=xs.length:=by omega
     subst hi;refine(Ev.const _).succ fun k=>?_;rw[Am5.l4_eq,if_neg (by simp),List.drop_length];cases b with
     | false=>rw[if_pos (by simp),if_pos (by simp only[List.length_cons,List.length_nil,bigA];omega)];simp[putL]
     | true=>rw[if_neg (by simp)];simp[putL]
   | succ m ih =>
     intro i b out hi ho;have ho1:out.length≤i+1:=by have:=Bool.toNat_le b;omega
     have hlt:i<xs.length:=by omega
     have hd:xs.drop i=xs.getD i 0::xs.drop (i+1):=by rw[List.drop_eq_getElem_cons hlt,A0z hlt]
     have hb1:out.length+([xs.getD i 0]:List Int).length≤bigA:=by simp only[List.length_cons,List.length_nil,bigA];omega
     have hb2:out.length+([n]:List Int).length≤bigA:=by simp only[List.length_cons,List.length_nil,bigA];omega
     have hb3:∀ z:Int,(out++[n]).length+([z]:List Int).length≤bigA:=fun z=>by simp only[List.length_append,List.length_cons,List.length_nil,bigA];omega
     have E:=fun k=>Am5.l4_eq k xs n b (i:Int) out;simp only[if_pos (ltI.2 hlt),if_pos (idxI.2 hlt),Int.toNat_natCast,A0x (show i<4611686018427387904 by omega),if_pos hb1]at E;obtain⟨y,hy⟩:∃ y,y=xs.getD i 0:=⟨_,rfl⟩;rw[<-hy]at hd hb1;simp only[←hy]at E;rw[hd];cases b with
     | true =>
       have:=ih (i+1) true (out++[y]) (by omega) (by simp only[List.length_append,List.length_cons,List.length_nil,Bool.toNat_true,Bool.toNat_false]at *;omega);rw[List.append_assoc]at this;refine Ev.succ this fun k=>?_;rw[E,if_neg (by simp)]
     | false =>
       simp only[Bool.not_false,if_true]at E;by_cases c1:n≤y
       . by_cases c2:n<y
         . have:=ih (i+1) true (out++[n]++[y]) (by omega) (by simp only[List.length_append,List.length_cons,List.length_nil,Bool.toNat_true,Bool.toNat_false]at *;omega);have e:out++[n]++[y]++putL (xs.drop (i+1)) n true=out++putL (y::xs.drop (i+1)) n false:=by simp[putL,c1,c2,A1a]
           rw[e]at this;refine Ev.succ this fun k=>?_;rw[E,if_pos (by simpa using c1),if_pos (by simpa using c2),if_pos hb2,if_pos (hb3 _)]
         . have:=ih (i+1) true (out++[y]) (by omega) (by simp only[List.length_append,List.length_cons,List.length_nil,Bool.toNat_true,Bool.toNat_false]at *;omega);have e:out++[y]++putL (xs.drop (i+1)) n true=out++putL (y::xs.drop (i+1)) n false:=by simp[putL,c1,c2,A1a]
           rw[e]at this;refine Ev.succ this fun k=>?_;rw[E,if_pos (by simpa using c1),if_neg (by simpa using c2)]
       . have:=ih (i+1) false (out++[y]) (by omega) (by simp only[List.length_append,List.length_cons,List.length_nil,Bool.toNat_true,Bool.toNat_false]at *;omega);have e:out++[y]++putL (xs.drop (i+1)) n false=out++putL (y::xs.drop (i+1)) n false:=by simp[putL,c1]
         rw[e]at this;refine Ev.succ this fun k=>?_;rw[E,if_neg (by simpa using c1)]
 exact(key xs.length 0 false [] (by omega) (by simp)).of_eq fun k=>rfl
theorem A4A:∀ (l acc:List Int),acc.Pairwise (·<·)->(l.foldl (fun a n=>putL a n false) acc).Pairwise (·<·)/\∀ x,x∈l.foldl (fun a n=>putL a n false) acc↔x∈acc∨x∈l
 | [],acc,h=>⟨h,fun x=>by simp⟩
 | n :: l,acc,h=>by
   obtain⟨h1,h2⟩:=A4k n h;obtain⟨h3,h4⟩:=A4A l _ h1;refine⟨h3,fun x=>?_⟩;rw[List.foldl_cons,h4,h2,List.mem_cons];constructor
   . rintro((h|h)|h)
     . exact .inr (.inl h)
     . exact .inl h
     . exact .inr (.inr h)
   . rintro(h|h|h)
     . exact .inl (.inr h)
     . exact .inl (.inl h)
     . exact .inr h
theorem A5e (l:List Int):l.foldl (fun a n=>putL a n false) []=setI l:=by
 obtain⟨h1,h2⟩:=A4A l [] (by simp);obtain⟨h3,h4⟩:=A2q l;exact A4G h1 h3 fun s=>by rw[h2,h4];simp
def vts (c:List (List Int)):List Int:=(c.filter fun s=>s.length==1).map fun s=>s.getD 0 0
theorem A4o (c:List (List Int)) {i:Nat} (hi:i<c.length):vts (c.take (i+1))=vts (c.take i)++(if (c.getD i []).length=1 then[(c.getD i []).getD 0 0]else[]):=by
 unfold vts;rw[List.take_add_one,List.getElem?_eq_getElem hi,Option.toList_some,List.filter_append,List.map_append,A0z hi];congr 1;by_cases h:c[i].length=1<;>simp[h]
theorem A6y (c:List (List Int)) (i:Nat):(vts (c.take i)).length≤i:=by
 unfold vts;rw[List.length_map];exact Nat.le_trans (List.length_filter_le _ _) (by simp;omega)
theorem Ag7.val (c:List (List Int)) (hn:c.length≤1048576):Ag7.F (c,())=some ((vts c,()),()):=by
 refine Ag7.of _ ?_;obtain⟨s,hs,hg⟩:=Goes.loop (R:=((List Int×Unit)×Unit)) (fun k i (x:List Int)=>Ag7.l3 k c (c.length:Int) (i:Int) x) c.length (fun i x=>x=vts (c.take i)) (fun i x hi h2=>⟨_,rfl,Goes.succ fun k=>by
   have hl:=A6y c i;rw[Ag7.l3_eq,if_pos (ltI.2 hi),if_pos (idxI.2 hi)];simp only[Int.toNat_natCast];rw[A4o c hi,A0x (by omega),<-h2];by_cases h1:(c.getD i []).length=1
   . rw[if_pos (by simp only[beq_iff_eq];omega),if_pos (by omega),if_pos (by rw[h2];simp only[List.length_cons,List.length_nil,bigA];omega),if_pos h1];rfl
   . rw[if_neg (by simp only[beq_iff_eq];omega),if_neg h1,List.append_nil]⟩) 0 [] (Nat.zero_le _) rfl
 rw[List.take_of_length_le (Nat.le_refl _)]at hs;refine Ev.of_eq (hg _ ((Ev.const _).succ fun k=>?_)) fun k=>rfl;rw[Ag7.l3_eq,if_neg (by simp),hs]
theorem A3n {c:List (List Int)} (h:CplxOk c):∀ (n:Nat) (s:List Int),s∈c->s.length≤n->∀ v∈s,[v]∈c:=by
 intro n;induction n with
 | zero=>intro s hs hl v hv;have:s=[]:=List.length_eq_zero_iff.1 (by omega);subst this;simp at hv
 | succ n ih =>
   intro s hs hl v hv;by_cases h1:1<s.length
   . obtain⟨i,hi,hic⟩:∃ i,i<c.length/\c.getD i []=s:=by
       obtain⟨i,hi,rfl⟩:=List.getElem_of_mem hs;exact⟨i,hi,A0z hi⟩
     obtain⟨j,hj,hjv⟩:=List.getElem_of_mem hv;obtain⟨k,hk,hkj⟩:∃ k,k<s.length/\k≠j:=by
       by_cases e:j=0
       . exact⟨1,h1,by omega⟩
       . exact⟨0,by omega,by omega⟩
     have hmem:A0k s k∈c:=A1f h hi (by rw[hic];exact mem_faces.2 ⟨h1,k,hk,rfl⟩);refine ih (A0k s k) hmem (by rw[A0Q hk];omega) v ?_;unfold A0k;rw[List.mem_append];by_cases h2:j<k
     . left;rw[List.mem_take_iff_getElem];exact⟨j,by omega,hjv⟩
     . right;rw[List.mem_drop_iff_getElem];refine⟨j-(k+1),by omega,?_⟩;rw[<-hjv];congr 1;omega
   . cases s with
     | nil=>simp at hv
     | cons a t =>
       have:t=[]:=List.length_eq_zero_iff.1 (by simp only[List.length_cons]at h1;omega);subst this;simp only[List.mem_singleton]at hv;subst hv;exact hs
theorem A3H:∀ {c:List (List Int)},(∀ s∈c,1≤s.length)->c.Pairwise (fun x y=>x.length≤y.length)->∃ B,c=(c.filter fun s=>s.length==1)++B/\∀ s∈B,s.length≠1
 | [],_,_=>⟨[],rfl,by simp⟩
 | x :: c,h1,h2=>by
   rw[List.pairwise_cons]at h2;obtain⟨B,hB,hB'⟩:=A3H (fun s hs=>h1 s (by simp[hs])) h2.2;by_cases hx:x.length=1
   . exact⟨B,by rw[List.filter_cons,if_pos (by simpa using hx),List.cons_append,<-hB],hB'⟩
   . have hall:∀ s∈x::c,s.length≠1:=fun s hs=>by
       have hx1:=h1 x (by simp);simp only[List.mem_cons]at hs;rcases hs with rfl|hs
       . exact hx
       . have:=h2.1 s hs;omega
     have hf:(x::c).filter (fun s=>s.length==1)=[]:=by
       rw[List.filter_eq_nil_iff];intro s hs;simpa using hall s hs
     exact⟨x::c,by rw[hf];rfl,hall⟩
def idxV (xs:List Int) (v:Int):Nat:=xs.findIdx fun x=>decide (x=v)
theorem A3Y {xs:List Int} {v:Int} (h:v∈xs):idxV xs v<xs.length:=List.findIdx_lt_length_of_exists ⟨v,h,by simp⟩
theorem A2S (v:Int):∀ {A:List (List Int)} (B:List (List Int)),(∀ s∈A,s.length=1)->[v]∈A->A0e (A++B) [v]=idxV (A.map fun s=>s.getD 0 0) v
 | [],_,_,h=>by simp at h
 | s :: A,B,h1,h2=>by
   have hs:=h1 s (by simp);obtain⟨a,rfl⟩:∃ a,s=[a]:=by
     cases s with
     | nil=>simp at hs
     | cons a t=>exact⟨a,by rw[List.length_eq_zero_iff.1 (show t.length=0 by simpa using hs)]⟩
   unfold A0e idxV;rw[List.cons_append,List.map_cons,List.findIdx_cons,List.findIdx_cons];by_cases e:a=v
   . subst e;simp
   . have h3:[v]∈A:=by
       simp only[List.mem_cons,List.cons.injEq,and_true]at h2;exact h2.resolve_left fun hh=>e hh.symm
     have ih:=A2S v B (fun s hs=>h1 s (by simp[hs])) h3;unfold A0e idxV at ih;have d1:decide ([a]=[v])=false:=by simp[e]
     have d2:decide (([a]:List Int).getD 0 0=v)=false:=by simp[e]
     rw[d1,d2,cond_false,cond_false,ih]
theorem A4P {c:List (List Int)} (h:CplxOk c) {v:Int} (hv:[v]∈c):A0e c [v]=idxV (vts c) v/\v∈vts c:=by
 have hpw:c.Pairwise (fun x y=>x.length≤y.length):=by
   rw[List.pairwise_iff_getElem];intro i j hi hj hij;have:=h.sorted i j hij hj;rw[A0z hi,A0z hj]at this;refine Classical.byContradiction fun hc=>?_;have h2:=A3D (a:=c[j]) (b:=c[i]) (by omega);have h3:=A1x _ _ _ this h2;have h4:=(A0d c[i] c[i]).2 rfl;omega
 obtain⟨B,hB,hB'⟩:=A3H (fun s hs=>by
   obtain⟨i,hi,rfl⟩:=List.getElem_of_mem hs;have:=(h.2 i hi).1.1.1
   rwa [A0z hi]at this) hpw
 have hA:[v]∈c.filter fun s=>s.length==1:=List.mem_filter.2 ⟨hv,rfl⟩;refine⟨?_,?_⟩
 . unfold vts
   conv=>lhs;rw[hB]
   exact A2S v B (fun s hs=>by simpa using(List.mem_filter.1 hs).2) hA
 . unfold vts;rw[List.mem_map];exact⟨[v],hA,rfl⟩
theorem Af3.val (xs:List Int) (v:Int) (hn:xs.length≤1048576) (hv:v∈xs):Af3.F (xs,v,())=some ((((idxV xs v:Nat):Int),()),()):=by
 refine Af3.of _ _ ?_;have hlt:=A3Y hv;obtain⟨x,-,hg⟩:=Goes.loop (σ:=Unit) (R:=((Int×Unit)×Unit)) (fun k i _=>Af3.l2 k xs v (xs.length:Int) (i:Int)) (idxV xs v) (fun _ _=>True) (fun i _ hi _=>⟨(),trivial,Goes.succ fun k=>by
   have hne:xs[i]'(by omega)≠v:=by simpa using List.not_of_lt_findIdx hi
   rw[Af3.l2_eq,if_pos (ltI.2 (by omega)),if_pos (idxI.2 (by omega))];simp only[Int.toNat_natCast];rw[if_neg (by
     rw[A0z (by omega)];simp only[beq_iff_eq];exact fun e=>hne e.symm),A0x (by omega)]⟩) 0 () (Nat.zero_le _) trivial
 refine Ev.of_eq (hg _ ((Ev.const _).succ fun k=>?_)) fun k=>rfl;have heq:xs[idxV xs v]=v:=of_decide_eq_true (List.findIdx_getElem (xs:=xs) (p:=fun x=>decide (x=v)) (w:=hlt));rw[Af3.l2_eq,if_pos (ltI.2 hlt),if_pos (idxI.2 hlt)];simp only[Int.toNat_natCast];rw[if_pos (by
   rw[A0z hlt];simp only[beq_iff_eq];exact heq.symm)]
def imgL (c:List (List Int)) (im s:List Int):List Int:=s.map fun v=>im.getD (idxV (vts c) v) 0
def imgS (c:List (List Int)) (im s:List Int):List Int:=setI (imgL c im s)
theorem Ak3.val (c:List (List Int)) (im s:List Int) (h:CplxOk c) (hs:s∈c) (hs4:s.length≤4) (hl:im.length=(vts c).length):Ak3.F (c,im,s,())=some ((imgS c im s,()),()):=by
 have hn:=h.1;have hvl:=A6y c c.length;rw[List.take_of_length_le (Nat.le_refl _)]at hvl;refine Ak3.of _ _ _ ?_;obtain⟨x,hx,hg⟩:=Goes.loop (R:=((List Int×Unit)×Unit)) (fun k i (x:List Int)=>Ak3.l4 k im s (s.length:Int) (i:Int) (vts c) x) s.length (fun i x=>x=imgL c im (s.take i)) (fun i x hi h2=>⟨_,rfl,Goes.succ fun k=>by
   obtain⟨-,hm⟩:=A4P h (A3n h 4 s hs hs4 _ (A0y 0 hi));have hlt:=A3Y hm;rw[Ak3.l4_eq,if_pos (ltI.2 hi),if_pos (idxI.2 hi)];simp only[Int.toNat_natCast,Af3.val _ _ (show(vts c).length≤1048576 by omega) hm,Option.bind_some];rw[if_pos (idxI.2 (by omega)),if_pos (by rw[h2];simp only[imgL,List.length_map,List.length_take,List.length_cons,List.length_nil,bigA];omega),A0x (by omega),h2,imgL,imgL,List.take_add_one,List.getElem?_eq_getElem hi,Option.toList_some,List.map_append,A0z hi];rfl⟩) 0 [] (Nat.zero_le _) rfl
 rw[List.take_of_length_le (Nat.le_refl _)]at hx;have hxl:x.length=s.length:=by rw[hx];simp[imgL]
 refine Ev.of_eq (hg _ ((Ev.const _).succ fun k=>?_)) fun k=>?_
 . rw[Ak3.l4_eq,if_neg (by simp),Aq9.val _ (by omega)];simp only[Option.bind_some];rw[Aq7.val _ (by rw[List.length_mergeSort];omega),hx];rfl
 . rw[Ak3.T,Ag7.val c (by omega)];rfl
theorem cut_one (s:List Int) {i:Nat} (hi:i<s.length):cutL s (i:Int) ((i+1:Nat):Int)=[s.getD i 0]:=by
 unfold cutL;simp only[Int.toNat_natCast];rw[A0z hi];apply List.ext_getElem
 . simp;omega
 . intro j h1 h2;have:j=0:=by simpa using h2
   subst this;simp
theorem Am9.val (c:List (List Int)) (im s:List Int) (h:CplxOk c) (hs:s∈c) (hs4:s.length≤4) (hl:im.length=(vts c).length):Am9.F (c,im,s,())=some ((imgS c im s,()),()):=by
 have hn:=h.1;refine Am9.of _ _ _ ?_;obtain⟨x,⟨hx,hxl⟩,hg⟩:=Goes.loop (R:=((List Int×Unit)×Unit)) (fun k i (x:List Int)=>Am9.l3 k c im s (i:Int) x) s.length (fun i x=>x=(imgL c im (s.take i)).foldl (fun a n=>putL a n false) []/\x.length≤i) (fun i x hi ⟨h2,h3⟩=>by
   have hv:=A3n h 4 s hs hs4 _ (A0y 0 hi);obtain⟨hidx,hm⟩:=A4P h hv;have hlt:=A3Y hm;refine⟨putL x (im.getD (idxV (vts c) (s.getD i 0)) 0) false,⟨?_,by have:=A6T (im.getD (idxV (vts c) (s.getD i 0)) 0) x false;omega⟩,Goes.succ fun k=>?_⟩
   . rw[imgL,List.take_add_one,List.getElem?_eq_getElem hi,Option.toList_some,List.map_append,List.foldl_append,<-imgL,<-h2,A0z hi];rfl
   . rw[Am9.l3_eq,if_pos (ltI.2 hi),A0x (by omega),if_pos (by omega),cut_one s hi];simp only[A3W h hv,Option.bind_some,hidx];rw[if_pos (idxI.2 (by omega))];simp only[Int.toNat_natCast,Am5.val x _ (by omega),Option.bind_some]) 0 [] (Nat.zero_le _) ⟨rfl,by simp⟩
 rw[List.take_of_length_le (Nat.le_refl _)]at hx;refine Ev.of_eq (hg _ ((Ev.const _).succ fun k=>?_)) fun k=>rfl;rw[Am9.l3_eq,if_neg (by simp),hx,A5e];rfl
def A4r (c b:List (List Int)) (im:List Int):Prop:=im.length=(vts c).length/\∀ s∈c,imgS c im s∈b
theorem cplx4 {c:List (List Int)} (h:CplxOk c) {s:List Int} (hs:s∈c):s.length≤4:=by
 obtain⟨i,hi,rfl⟩:=List.getElem_of_mem hs;have:=(h.2 i hi).1.1.2
 rwa [A0z hi]at this
theorem A5a:∀ a b:List Int,ordL a b=lexc a b
 | [],[]=>rfl
 | [],_::_=>rfl
 | _::_,[]=>rfl
 | a::x,b::y=>by
   simp only[ordL,lexc,A5a x y];rcases A0G a b with⟨h,e⟩|⟨h,e⟩|⟨h,e⟩<;>rw[e]
   . rw[if_pos h];rfl
   . rw[if_neg (by omega),if_neg (by omega)];rfl
   . rw[if_neg (by omega),if_pos h];rfl
theorem A3y (a b:List Int):ordS a b=cmpS a b:=by
 unfold ordS cmpS;rw[A5a];rcases A0G a.length b.length with⟨h,e⟩|⟨h,e⟩|⟨h,e⟩<;>rw[e]
 . rw[if_pos (by omega)];rfl
 . rw[if_neg (by omega),if_neg (by omega)];rfl
 . rw[if_neg (by omega),if_pos (by omega)];rfl
abbrev LtS (x y:List Int):Prop:=ordS x y<0
theorem LtS.irrefl (x:List Int):¬ LtS x x:=fun h=>by have:=a5m x x;simp only[LtS]at h;omega
theorem LtS.of_le {x y:List Int} (h:¬ LtS y x) (hne:x≠y):LtS x y:=by
 have h1:=a5m x y;have h2:=a9D y x;simp only[LtS]at *;rcases Int.lt_trichotomy (ordS y x) 0 with h3|h3|h3
 . exact absurd h3 h
 . exact absurd (h2 h3).symm hne
 . exact h1.2 h3
theorem sortedS_pw {xs:List (List Int)}:A0V xs↔xs.Pairwise LtS:=by
 rw[List.pairwise_iff_getElem];constructor
 . intro h i j hi hj hij;have:=h i j hij hj;rw[A0z hi,A0z hj,<-A3y]at this;exact this
 . intro h i j hij hj;have:=h i j (by omega) hj hij;rw[A0z (by omega),A0z hj,<-A3y];exact this
theorem A2N:∀ {xs ys:List (List Int)},xs.Pairwise LtS->ys.Pairwise LtS->(∀ s,s∈xs↔s∈ys)->xs=ys
 | [],ys,_,_,h=>by
   cases ys with
   | nil=>rfl
   | cons y ys=>exact absurd ((h y).2 (by simp)) (by simp)
 | x::xs,[],_,_,h=>absurd ((h x).1 (by simp)) (by simp)
 | x :: xs,y::ys,hx,hy,h=>by
   rw[List.pairwise_cons]at hx hy;have e:x=y:=by
     have h1:=(h x).1 (by simp);have h2:=(h y).2 (by simp);simp only[List.mem_cons]at h1 h2;rcases h1 with rfl|h1
     . rfl
     . rcases h2 with rfl|h2
       . rfl
       . exact absurd (a7R x y x (hx.1 y h2) (hy.1 x h1)) (LtS.irrefl x)
   subst e;rw[A2N hx.2 hy.2 fun s=>?_];constructor
   . intro hs;have:=(h s).1 (by simp[hs]);simp only[List.mem_cons]at this;rcases this with rfl|this
     . exact absurd (hx.1 s hs) (LtS.irrefl s)
     . exact this
   . intro hs;have:=(h s).2 (by simp[hs]);simp only[List.mem_cons]at this;rcases this with rfl|this
     . exact absurd (hy.1 s hs) (LtS.irrefl s)
     . exact this
theorem A1V (s:List Int):∀ (l:List (List Int)) (p:List Int),s∈p::a2N p l↔s∈p::l
 | [],p=>by simp[a2N]
 | x::l,p=>by
   have h1:=A1V s l p;have h2:=A1V s l x;simp only[List.mem_cons]at *;simp only[a2N];split
   . rename_i e;subst e;rw[h1];simp
   . rw[List.mem_cons,h2]
theorem A5J (s:List Int) (l:List (List Int)):s∈a8z l↔s∈l:=by
 cases l with
 | nil=>simp[a8z]
 | cons x l=>exact A1V s l x
theorem A1r:∀ (l:List (List Int)) (p:List Int),(p::l).Pairwise (fun a b=>¬ LtS b a)->(p::a2N p l).Pairwise LtS
 | [],p,_=>by simp[a2N]
 | x :: l,p,h=>by
   rw[List.pairwise_cons,List.pairwise_cons]at h;simp only[a2N];split
   . rename_i e;subst e;exact A1r l x (List.pairwise_cons.2 ⟨h.2.1,h.2.2⟩)
   . rename_i hne;have ih:=A1r l x (List.pairwise_cons.2 ⟨h.2.1,h.2.2⟩);have hpx:LtS p x:=LtS.of_le (h.1 x (by simp)) (Ne.symm hne);refine List.pairwise_cons.2 ⟨fun y hy=>?_,ih⟩;simp only[List.mem_cons]at hy;rcases hy with rfl|hy
     . exact hpx
     . exact a7R p x y hpx ((List.pairwise_cons.1 ih).1 y hy)
theorem A6A {l:List (List Int)} (h:l.Pairwise (fun a b=>¬ LtS b a)):(a8z l).Pairwise LtS:=by
 cases l with
 | nil=>simp[a8z]
 | cons x l=>exact A1r l x h
def A2t (xs:List (List Int)):List (List Int):=a8z (b4O ordS xs)
theorem A2M (xs:List (List Int)):(b4O ordS xs).Perm xs:=List.mergeSort_perm _ _
theorem A1q (s:List Int) (xs:List (List Int)):s∈A2t xs↔s∈xs:=by rw[A2t,A5J,(A2M xs).mem_iff]
theorem A4h (xs:List (List Int)):(A2t xs).Pairwise LtS:=by
 refine A6A ?_;have h:=List.pairwise_mergeSort (le:=fun x y=>!Go.Proofs.ltOf ordS y x) (fun x y z h1 h2=>?_) (fun x y=>?_) xs
 . refine List.Pairwise.imp ?_ h;intro a b hab;simpa[Go.Proofs.ltOf]using hab
 . simp only[Go.Proofs.ltOf,Bool.not_eq_true',decide_eq_false_iff_not]at *;intro h3;rcases Int.lt_trichotomy (ordS y x) 0 with h|h|h
   . exact h1 h
   . have:=a9D y x h;subst this;exact h2 h3
   . exact h2 (a7R z x y h3 ((a5m x y).2 h))
 . simp only[Go.Proofs.ltOf,Bool.or_eq_true,Bool.not_eq_true',decide_eq_false_iff_not];have:=a5m x y;omega
theorem A3s {xs:List (List Int)} (h:A0V xs):A2t xs=xs:=A2N (A4h xs) (sortedS_pw.1 h) fun s=>A1q s xs
theorem Aq8.val (xs:List (List Int)) (h:SmL xs):Aq8.F (xs,Ac2.cloG (()),())=some ((),(b4O ordS xs,())):=by
 unfold Aq8.F sortF;rw[if_pos];refine⟨fun x hx y hy=>?_,by have:=h.1;show xs.length<_;omega⟩;show(Ac2.F (x,y,())).map (·.1)=_;rw[Ac2.val x y (h.2 x hx) (h.2 y hy),A3y];rfl
theorem Aq6.val (xs:List (List Int)) (h:SmL xs):Aq6.F (xs,Ab7.cloG (()),())=some ((a8z xs,()),()):=by
 unfold Aq6.F compF;rw[if_pos];refine⟨fun x hx y _=>?_,by have:=h.1;show xs.length<_;omega⟩;have hxs:Sm x:=by
   simp only[List.mem_cons]at hx;rcases hx with rfl|hx
   . simp[Sm]
   . exact h.2 x hx
 obtain⟨b,hb,hb'⟩:=Ab7.same x y hxs;show(Ab7.F (x,y,())).map (·.1)=_;rw[hb];have:b=decide (x=y):=Bool.eq_iff_iff.2 (hb'.trans (by simp));rw[this];rfl
theorem SmL.perm {xs ys:List (List Int)} (h:SmL xs) (hp:ys.Perm xs):SmL ys:=⟨by rw[hp.length_eq];exact h.1,fun x hx=>h.2 x (hp.mem_iff.1 hx)⟩
theorem Ad5.val (xs:List (List Int)) (h:SmL xs):Ad5.F (xs,())=some ((A2t xs,()),()):=by
 rw[Ad5.eq,Ad5.T,Ad3.val xs h];simp only[Option.bind_some,Aq8.val xs h,Aq6.val _ (h.perm (A2M xs))];rfl
theorem Ad5.same (xs:List (List Int)) (h:SmL xs) (hs:A0V xs):Ad5.F (xs,())=some ((xs,()),()):=by rw[Ad5.val xs h,A3s hs]
theorem Al8.val (m:MatV) (h:m.2.2.2.length≤1048576):Al8.F (m,())=some ((m,()),()):=by
 have hT:Al8.F (m,())=Al8.T m.1 m.2.1 m.2.2.1 m.2.2.2:=Al8.eq _ _ _ _;rw[hT,Al8.T,Ac8.val _ h];rfl
def A2T (c:List (List Int)) (g:A2B->MatV):List MatV:=(arr c c.length).map g
theorem A2y (c:List (List Int)) (g:A2B->MatV):(A2T c g).length=off c c.length:=by simp[A2T,A0J]
theorem A1X (c:List (List Int)) (g:A2B->MatV):A2T c g=(List.range (arr c c.length).length).map fun q=>g ((arr c c.length).getD q (0,0,0)):=by
 rw[A2T];apply List.ext_getElem
 . simp
 . intro i h1 h2;simp only[List.length_map]at h1;simp[h1]
theorem Aj6.val (c:List (List Int)) (p:Int) (st:List Int) (f:A2B×Unit->Option (MatV×Unit)) (g:A2B->MatV) (h:CplxOk c) (hst:st.length≤1048576)
   (hf:∀ e∈arr c c.length,f (e,())=some (g e,())/\(g e).2.2.2.length≤1048576):Aj6.F (c,p,st,f,())=some (((c,p,st,A2T c g),()),()):=by
 have ho:=A1A h (Nat.le_refl c.length);have hn:=h.1;refine Aj6.of _ _ _ _ ?_;have hp:=Goes.push (R:=((ShfV×Unit)×Unit)) (fun k i (s:List MatV)=>Aj6.l3 k f ((arr c c.length).length:Int) (i:Int) [] 0 [] [] c p st s (arr c c.length)) (arr c c.length).length (fun q=>g ((arr c c.length).getD q (0,0,0))) (fun i s hi hs=>Goes.succ fun k=>by
   obtain⟨h1,h2⟩:=hf _ (A0y (0,0,0) hi);rw[A0J]at hi;rw[Aj6.l3_eq,if_pos (by rw[A0J];exact ltI.2 hi),if_pos (by rw[A0J];omega)];simp only[Int.toNat_natCast,h1,Option.bind_some,Al8.val _ h2];rw[if_pos (A3q hs (by omega)),A0x (by omega)])
 refine Ev.of_eq (hp _ ((Ev.const _).succ fun k=>?_)) fun k=>?_
 . rw[Aj6.l3_eq,if_neg (by simp),<-A1X]
 . rw[Aj6.T,Ad5.same c h.small h.sorted,Ac8.val _ hst,Ad9.val c h];rfl
def newM (p:Int) (st:List Int) (e:A2B):MatV:=(p,st.getD e.1.toNat 0,st.getD e.2.2.toNat 0,List.replicate ((st.getD e.1.toNat 0).toNat*(st.getD e.2.2.toNat 0).toNat) 0)
theorem A5r {st:List Int} (h:A0M 0 3 st) (k:Nat):((st.getD k 0).toNat:Int)=st.getD k 0/\(st.getD k 0).toNat≤3:=by
 by_cases hk:k<st.length
 . have:=h _ (A0y 0 hk);omega
 . rw[List.getD_eq_getElem?_getD,List.getElem?_eq_none (by omega)];simp
theorem Af9.val (c:List (List Int)) (p:Int) (st:List Int) (h:CplxOk c) (hl:st.length=c.length) (hst:A0M 0 3 st):Af9.F (c,p,st,())=some (((c,p,st,A2T c (newM p st)),()),()):=by
 have hn:=h.1;refine Af9.of _ _ _ ?_;obtain⟨x,hx,hg⟩:=Goes.loop (R:=((ShfV×Unit)×Unit)) (fun k i (x:List MatV)=>Af9.l3 k c p st (i:Int) [] 0 [] [] c p st x) c.length (fun i x=>x=(arr c i).map (newM p st)) (fun i x hi h2=>by
   have hoff:=A1A h (show i≤c.length by omega);have h5:=A1O h hi;have e5:(fcs c i).length=(A0U (c.getD i [])).length:=by simp[fcs]
   refine⟨_,rfl,(Goes.succ fun k=>by rw[Af9.l3_eq,if_pos (ltI.2 hi),Aa2.val c h i hi]).trans ?_⟩;obtain⟨y,hy,hg2⟩:=Goes.loop (R:=((ShfV×Unit)×Unit)) (fun k j (y:List MatV)=>Af9.l7 k c p st (i:Int) (j:Int) [] 0 [] [] c p st y (fcs c i)) (fcs c i).length (fun j y=>y=(arr c i).map (newM p st)++(List.range j).map fun(j:Nat)=>newM p st ((i:Int),(j:Int),(fcs c i).getD j 0)) (fun j y hj h3=>⟨_,rfl,Goes.succ fun k=>by
     obtain⟨q,hq,hq'⟩:=A4N h hi (A0y 0 hj);obtain⟨z1,z1'⟩:=A5r hst i;obtain⟨z2,z2'⟩:=A5r hst q;have z:=Ad0.val p (st.getD i 0).toNat (st.getD q 0).toNat (by omega) (by omega);rw[z1,z2]at z;rw[Af9.l7_eq,if_pos (ltI.2 hj),if_pos (idxI.2 (by omega)),if_pos (idxI.2 hj)];simp only[Int.toNat_natCast];rw[hq,if_pos (idxI.2 (by omega))];simp only[Int.toNat_natCast,z,Option.bind_some];rw[if_pos (by rw[h3];simp only[List.length_append,List.length_map,List.length_range,List.length_cons,List.length_nil,A0J,bigA];omega),A0x (by omega),h3,List.range_succ,List.map_append,List.append_assoc];simp only[List.map_cons,List.map_nil,newM,hq,Int.toNat_natCast]⟩) 0 x (Nat.zero_le _) (by simp[h2])
   refine hg2.trans (Goes.succ fun k=>?_);rw[Af9.l7_eq,if_neg (by simp),A0x (by omega),hy,A2d,List.map_append,A4s,List.map_map];rfl) 0 [] (Nat.zero_le _) rfl
 refine Ev.of_eq (hg _ ((Ev.const _).succ fun k=>?_)) fun k=>?_
 . rw[Af9.l3_eq,if_neg (by simp),hx];rfl
 . rw[Af9.T,Am8.val c h,Ab2.val _ (by omega)];rfl
noncomputable def A0r (s:ShfV) (f i:Nat):MatV:=match Ac5.F (s,(f:Int),(i:Int),())with
 | some r=>r.1.1
 | none=>(0,0,0,[])
theorem A5w {s:ShfV} (h:SheafOk s) {f i:Nat} (hf:f<s.1.length) (hi:i<s.1.length) (hsub:∀ x∈s.1.getD f [],x∈s.1.getD i []) :
   MatOk (A0r s f i)/\Ac5.F (s,(f:Int),(i:Int),())=some ((A0r s f i,()),())/\Ae6.F (s,(f:Int),(i:Int),())=some ((A0r s f i,()),()):=by
 have htf:=(h.1.2 f hf).1;have hle:=A1w (A1b htf.2.2) hsub;obtain⟨m,m0,m1,m2,m3,m4,m5,m6⟩:=A1S s h f hf ((s.1.getD i []).length-(s.1.getD f []).length) i hi (by omega) hsub;have c1:Ac5.F (s,(f:Int),(i:Int),())=some ((m,()),()):=Ac5.ofR ⟨_,fun q hq=>m5 q (Nat.lt_of_succ_le hq)⟩;have c2:Ae6.F (s,(f:Int),(i:Int),())=some ((m,()),()):=Ae6.ofR ⟨_,fun q hq=>m6 q (Nat.lt_of_succ_le hq)⟩;have e:A0r s f i=m:=by unfold A0r;rw[c1]
 rw[e];exact⟨m1,c1,c2⟩
theorem A4u {t:List Int} {j:Nat}:∀ x∈A0k t j,x∈t:=by
 intro x hx;unfold A0k at hx;rw[List.mem_append]at hx;exact hx.elim List.mem_of_mem_take List.mem_of_mem_drop
theorem A6J (c:List (List Int)) (im:List Int) {s t:List Int} (h:∀ x∈s,x∈t):∀ x∈imgS c im s,x∈imgS c im t:=by
 intro x hx;have h1:=(A2q (imgL c im s)).2 x;have h2:=(A2q (imgL c im t)).2 x;rw[imgS,h2];rw[imgS,h1]at hx;unfold imgL at *;obtain⟨v,hv,rfl⟩:=List.mem_map.1 hx;exact List.mem_map.2 ⟨v,h v hv,rfl⟩
def plAt (s:ShfV) (c:List (List Int)) (im:List Int) (k:Nat):Nat:=A0e s.1 (imgS c im (c.getD k []))
def A0c (s:ShfV) (c:List (List Int)) (im:List Int):List Int:=(List.range c.length).map fun k=>((plAt s c im k:Nat):Int)
def A0I (s:ShfV) (c:List (List Int)) (im:List Int):List Int:=(List.range c.length).map fun k=>s.2.2.1.getD (plAt s c im k) 0
noncomputable def A1Z (s:ShfV) (c:List (List Int)) (im:List Int):List MatV:=A2T c fun e=>A0r s (plAt s c im e.2.2.toNat) (plAt s c im e.1.toNat)
noncomputable def pulS (s:ShfV) (c:List (List Int)) (im:List Int):ShfV:=(c,s.2.1,A0I s c im,A1Z s c im)
theorem A1C {s:ShfV} {c:List (List Int)} {im:List Int} (hm:A4r c s.1 im) {k:Nat} (hk:k<c.length):plAt s c im k<s.1.length/\s.1.getD (plAt s c im k) []=imgS c im (c.getD k []):=A0H (hm.2 _ (A0y [] hk))
theorem A3v {s:ShfV} (h:SheafOk s) (c:List (List Int)) (im:List Int):A0M 0 3 (A0I s c im):=fun x hx=>by
 unfold A0I at hx;obtain⟨k,-,rfl⟩:=List.mem_map.1 hx;obtain⟨h1,h2⟩:=A5r h.2.2.1.2.1 (plAt s c im k);omega
theorem A3U {c:List (List Int)} (hc:CplxOk c) {k j:Nat} (hk:k<c.length) (hj:j<(fcs c k).length):∃ f:Nat,(fcs c k).getD j 0=(f:Int)/\f<c.length/\∀ x∈c.getD f [],x∈c.getD k []:=by
 have hfl:=A0D c k;have h1:1<(c.getD k []).length:=by
   by_cases h:1<(c.getD k []).length
   . exact h
   . rw[if_neg h]at hfl;omega
 rw[if_pos h1]at hfl;have hj':j<(c.getD k []).length:=by omega
 have hmem:A0k (c.getD k []) j∈A0U (c.getD k []):=mem_faces.2 ⟨h1,j,hj',rfl⟩;obtain⟨m1,m2⟩:=A0H (A1f hc hk hmem);refine⟨A0e c (A0k (c.getD k []) j),?_,m1,fun x hx=>?_⟩
 . have e1:fcs c k=(List.range (c.getD k []).length).map fun q=>((A0e c (A0k (c.getD k []) q):Nat):Int):=by
     unfold fcs A0U;rw[if_pos h1,List.map_map];rfl
   rw[e1,A0z (by simpa using hj')];simp only[List.getElem_map,List.getElem_range]
 . rw[m2]at hx;exact A4u x hx
theorem A5c {s:ShfV} {c:List (List Int)} {im:List Int} (h:SheafOk s) (hc:CplxOk c) (hm:A4r c s.1 im) {k j f:Nat} (hk:k<c.length) (hj:j<(fcs c k).length) (hf:(fcs c k).getD j 0=(f:Int)) :
   f < c.length/\MatOk (A0r s (plAt s c im f) (plAt s c im k))/\Ac5.F (s,((plAt s c im f:Nat):Int),((plAt s c im k:Nat):Int),())=some ((A0r s (plAt s c im f) (plAt s c im k),()),()) ∧
     Ae6.F (s,((plAt s c im f:Nat):Int),((plAt s c im k:Nat):Int),())=some ((A0r s (plAt s c im f) (plAt s c im k),()),()):=by
 obtain⟨f',e1,e2,e3⟩:=A3U hc hk hj;have:f=f':=by rw[hf]at e1;omega
 subst this;obtain⟨p1,p2⟩:=A1C hm e2;obtain⟨q1,q2⟩:=A1C hm hk;exact⟨e2,A5w h p1 q1 (by rw[p2,q2];exact A6J c im e3)⟩
theorem A3e (s:ShfV) (c:List (List Int)) (im:List Int) {k:Nat} (hk:k<c.length):(A0c s c im).getD k 0=((plAt s c im k:Nat):Int):=A0N _ 0 hk
theorem A0n (s:ShfV) (c:List (List Int)) (im:List Int):(A1Z s c im).length=off c c.length:=A2y _ _
theorem Aj5.val {s:ShfV} {c:List (List Int)} {im:List Int} (h:SheafOk s) (hc:CplxOk c) (hm:A4r c s.1 im) (e:A2B) (he:e∈arr c c.length) :
   Aj5.cloG (s,A0c s c im,()) (e,())=some (A0r s (plAt s c im e.2.2.toNat) (plAt s c im e.1.toNat),())/\(A0r s (plAt s c im e.2.2.toNat) (plAt s c im e.1.toNat)).2.2.2.length≤1048576:=by
 simp only[arr,List.mem_flatMap,List.mem_range,A4s,List.mem_map]at he;obtain⟨k,hk,j,hj,rfl⟩:=he;obtain⟨f,hf,hf',-⟩:=A3U hc hk hj;obtain⟨-,r1,r2,-⟩:=A5c h hc hm hk hj hf;have r2:Ac5.F ((s.1,(s.2.1,(s.2.2.1,s.2.2.2))),((plAt s c im f:Nat):Int),((plAt s c im k:Nat):Int),())=_:=r2;have hpl:(A0c s c im).length=c.length:=by simp[A0c]
 simp only[Int.toNat_natCast,hf];refine⟨?_,by have h2:=A6N r1.2.1 r1.2.2.1;have:=r1.2.2.2.1;omega⟩;show(Aj5.F (((k:Int),(j:Int),(f:Int)),s,A0c s c im,())).map (·.1)=_;have hT:Aj5.F (((k:Int),(j:Int),(f:Int)),s,A0c s c im,())=Aj5.T (k:Int) (j:Int) (f:Int) s.1 s.2.1 s.2.2.1 s.2.2.2 (A0c s c im):=Aj5.eq _ _ _ _ _ _ _ _;rw[hT,Aj5.T,if_pos (idxI.2 (by omega)),if_pos (idxI.2 (by omega))];simp only[Int.toNat_natCast,A3e s c im hf',A3e s c im hk,r2];rfl
theorem Ak5.val {s:ShfV} {c:List (List Int)} {im:List Int} (h:SheafOk s) (hc:CplxOk c) (hm:A4r c s.1 im):Ak5.F (s,c,im,())=some ((pulS s c im,()),()):=by
 have hn:=hc.1;have hl:=h.2.2.1.1;refine Ak5.of s.1 s.2.1 s.2.2.1 s.2.2.2 c im ?_;obtain⟨y,hy,hg⟩:=Goes.loop (R:=((ShfV×Unit)×Unit)) (fun k i (y:List Int×List Int)=>Ak5.l3 k im c (c.length:Int) (i:Int) s.1 s.2.1 s.2.2.1 s.2.2.2 c [] 0 [] [] y.1 y.2) c.length (fun i y=>y=((List.range i).map (fun k=>((plAt s c im k:Nat):Int)),(List.range i).map fun k=>s.2.2.1.getD (plAt s c im k) 0)) (fun i y hi h2=>⟨_,rfl,Goes.succ fun k=>by
   have hmem:=A0y ([]:List Int) hi;have himg:=Ak3.val c im _ hc hmem (cplx4 hc hmem) hm.1;obtain⟨p1,p2⟩:=A1C hm hi;have hs:=A3K h.1 (hm.2 _ hmem);rw[h2,Ak5.l3_eq,if_pos (ltI.2 hi),if_pos (idxI.2 hi)];simp only[Int.toNat_natCast,himg,Option.bind_some,hs];rw[if_pos (by simp only[List.length_map,List.length_range,List.length_cons,List.length_nil,bigA];omega),if_pos (idxI.2 (by unfold plAt at p1;omega)),if_pos (by simp only[List.length_map,List.length_range,List.length_cons,List.length_nil,bigA];omega),A0x (by omega),List.range_succ,List.map_append,List.map_append];rfl⟩) 0 ([],[]) (Nat.zero_le _) rfl
 have hso:=Aj6.val c s.2.1 (A0I s c im) (Aj5.cloG (s,A0c s c im,())) (fun e=>A0r s (plAt s c im e.2.2.toNat) (plAt s c im e.1.toNat)) hc (by simp[A0I];omega) (fun e he=>Aj5.val h hc hm e he);refine Ev.of_eq (hg _ ((Ev.const _).succ fun k=>?_)) fun k=>rfl;rw[hy,Ak5.l3_eq,if_neg (by simp)];have hso:Aj6.F (c,s.2.1,(List.range c.length).map (fun k=>s.2.2.1.getD (plAt s c im k) 0),Aj5.cloG ((s.1,(s.2.1,(s.2.2.1,s.2.2.2))),(List.range c.length).map (fun k=>((plAt s c im k:Nat):Int)),()),())=_:=hso;rw[hso];rfl
theorem Af6.val {s:ShfV} {c:List (List Int)} {im:List Int} (h:SheafOk s) (hc:CplxOk c) (hm:A4r c s.1 im):Af6.F (s,c,im,())=some ((pulS s c im,()),()):=by
 have hn:=hc.1;have hl:=h.2.2.1.1;have ho:=A1A hc (Nat.le_refl c.length);refine Af6.of s.1 s.2.1 s.2.2.1 s.2.2.2 c im ?_;obtain⟨y,hy,hg⟩:=Goes.loop (R:=((ShfV×Unit)×Unit)) (fun k i (y:List Int×List Int)=>Af6.l4 k s.1 s.2.1 s.2.2.1 s.2.2.2 c im (i:Int) [] 0 [] [] y.1 y.2) c.length (fun i y=>y=((List.range i).map (fun k=>((plAt s c im k:Nat):Int)),(List.range i).map fun k=>s.2.2.1.getD (plAt s c im k) 0)) (fun i y hi h2=>⟨_,rfl,Goes.succ fun k=>by
   have hmem:=A0y ([]:List Int) hi;have himg:=Am9.val c im _ hc hmem (cplx4 hc hmem) hm.1;obtain⟨p1,p2⟩:=A1C hm hi;have hs:=A3W h.1 (hm.2 _ hmem);rw[h2,Af6.l4_eq,if_pos (ltI.2 hi),if_pos (idxI.2 hi)];simp only[Int.toNat_natCast,himg,Option.bind_some,hs];rw[if_pos (by simp only[List.length_map,List.length_range,List.length_cons,List.length_nil,bigA];omega),if_pos (idxI.2 (by unfold plAt at p1;omega)),if_pos (by simp only[List.length_map,List.length_range,List.length_cons,List.length_nil,bigA];omega),A0x (by omega),List.range_succ,List.map_append,List.map_append];rfl⟩) 0 ([],[]) (Nat.zero_le _) rfl
 have hnew:Af9.F (c,s.2.1,A0I s c im,())=_:=Af9.val c s.2.1 (A0I s c im) hc (by simp[A0I]) (A3v h c im);have hpl:(A0c s c im).length=c.length:=by simp[A0c]
 obtain⟨x,⟨hx1,hx2⟩,hg3⟩:=Goes.loop (R:=((ShfV×Unit)×Unit)) (fun k i (x:List MatV)=>Af6.l11 k s.1 s.2.1 s.2.2.1 s.2.2.2 c (i:Int) [] 0 [] [] (A0c s c im) c s.2.1 (A0I s c im) x) c.length (fun i x=>x.length=off c c.length/\x.take (off c i)=(A1Z s c im).take (off c i)) (fun i x hi ⟨q1,q2⟩=>by
   have e5:(fcs c i).length=(A0U (c.getD i [])).length:=by simp[fcs]
   have e6 := A1O hc hi;obtain⟨z,⟨hz1,hz2⟩,hg2⟩:=Goes.loop (R:=((ShfV×Unit)×Unit)) (fun k j (z:List MatV)=>Af6.l15 k s.1 s.2.1 s.2.2.1 s.2.2.2 c (i:Int) (j:Int) [] 0 [] [] (A0c s c im) c s.2.1 (A0I s c im) z (fcs c i)) (fcs c i).length (fun j z=>z.length=off c c.length/\z.take (off c i+j)=(A1Z s c im).take (off c i+j)) (fun j z hj ⟨r1,r2⟩=>by
     obtain⟨f,hf,hf',-⟩:=A3U hc hi hj;obtain⟨-,k1,-,k3⟩:=A5c h hc hm hi hj hf;have k3:Ae6.F ((s.1,(s.2.1,(s.2.2.1,s.2.2.2))),((plAt s c im f:Nat):Int),((plAt s c im i:Nat):Int),())=_:=k3;have hlt:=A3G hi hj;have hplace:=Ab8.val c hc i (by omega) j (by omega);refine⟨z.set (off c i+j) (A0r s (plAt s c im f) (plAt s c im i)),⟨by simp[r1],?_⟩,Goes.succ fun k=>?_⟩
     . rw[show off c i+(j+1)=off c i+j+1 by omega,List.take_add_one,List.take_add_one,List.take_set_of_le (Nat.le_refl _),r2];have e1:(A1Z s c im)[off c i+j]? = some (A0r s (plAt s c im f) (plAt s c im i)):=by
         have e2:(A1Z s c im).getD (off c i+j) (0,0,0,[])=A0r s (plAt s c im f) (plAt s c im i):=by
           rw[A1Z,A1X,A0N _ _ (by rw[A0J];exact hlt),A2c c hi hj,hf];simp only[Int.toNat_natCast]
         rw[A0z (by rw[A0n];omega)]at e2;rw[<-e2,List.getElem?_eq_getElem (by rw[A0n];omega)]
       rw[e1,List.getElem?_set_self (by omega)]
     . rw[Af6.l15_eq,if_pos (ltI.2 hj),hplace];simp only[Option.bind_some];rw[if_pos (idxI.2 hj),Int.toNat_natCast j,hf,if_pos (idxI.2 (by omega)),if_pos (idxI.2 (by omega))];simp only[Int.toNat_natCast,A3e s c im hf',A3e s c im hi,k3,Option.bind_some];rw[if_pos (idxI.2 (by omega)),A0x (by omega)]) 0 x (Nat.zero_le _) ⟨q1,by simpa using q2⟩
   refine⟨z,⟨hz1,by rw[off];exact hz2⟩,(Goes.succ fun k=>?_).trans (hg2.trans (Goes.succ fun k=>?_))⟩
   . rw[Af6.l11_eq,if_pos (ltI.2 hi),Aa2.val c hc i hi];rfl
   . rw[Af6.l15_eq,if_neg (by simp),A0x (by omega)]) 0 (A2T c (newM s.2.1 (A0I s c im))) (Nat.zero_le _) ⟨A2y _ _,by simp[off]⟩
 have hxe:x=A1Z s c im:=by
   rw[List.take_of_length_le (by omega),List.take_of_length_le (by rw[A0n];exact Nat.le_refl _)]at hx2;exact hx2
 refine Ev.of_eq (hg _ (Ev.succ (hg3 _ ((Ev.const _).succ fun k=>?_)) fun k=>?_)) fun k=>rfl
 . rw[Af6.l11_eq,if_neg (by simp),hxe];rfl
 . rw[hy,Af6.l4_eq,if_neg (by simp)];have hnew:Af9.F (c,s.2.1,(List.range c.length).map (fun k=>s.2.2.1.getD (plAt s c im k) 0),())=_:=hnew;rw[hnew];rfl
def IsIn (p c:List (List Int)):Prop:=∀ s∈p,s∈c
theorem An0.val (p c:List (List Int)) (hp:p.length≤1048576) (h:SmL c):∃ v,An0.F (p,c,())=some ((v,()),())/\(v=true↔IsIn p c):=by
 obtain⟨v,hv,hv'⟩:=Ev.allP (L:=fun k i=>An0.l2 k p c (i:Int)) (a:=()) (b:=()) (n:=p.length) (fun i=>p.getD i []∈c) true (fun i hi=>by
   have E:=fun k=>An0.l2_eq k p c (i:Int);obtain⟨r,hr,hr'⟩:=Aa1.val c (p.getD i []) h;simp only[if_pos (ltI.2 hi),if_pos (idxI.2 hi),Int.toNat_natCast,hr,Option.bind_some,A0x (show i<4611686018427387904 by omega)]at E;by_cases hm:p.getD i []∈c
   . exact .inl ⟨hm,fun k=>by rw[E,if_neg (by simp only[decide_eq_true_eq,hr'];exact fun hh=>hh hm)]⟩
   . exact .inr ⟨hm,fun k=>by rw[E,if_pos (by simp only[decide_eq_true_eq,hr'];exact hm)]⟩) ((Ev.const _).succ fun k=>by rw[An0.l2_eq,if_neg (by simp)]) 0 (Nat.zero_le _)
 refine⟨v,An0.of _ _ (hv.of_eq fun k=>rfl),hv'.trans ⟨fun⟨_,h⟩ s hs=>?_,fun h=>⟨rfl,fun j _ hj=>h _ (A0y _ hj)⟩⟩⟩;obtain⟨j,hj,rfl⟩:=List.getElem_of_mem hs;have:=h j (Nat.zero_le _) hj
 rwa [A0z hj]at this
theorem Ad7.val (xs:List Int) (h:xs.length≤1099511627776):Ad7.F (xs,())=some ((xs,()),()):=by
 refine Ad7.of xs ?_;have:=Goes.fill (L:=fun k i ys=>Ad7.l3 k xs (i:Int) ys) xs 0 (fun k i ys hi hy=>by
   rw[Ad7.l3_eq,if_pos (ltI.2 hi),if_pos (idxI.2 hi),if_pos (by omega),A0x (by omega)];simp only[Int.toNat_natCast]) (List.replicate xs.length 0) (by simp)
 refine Ev.of_eq (this _ ((Ev.const _).succ fun k=>?_)) fun k=>?_
 . rw[Ad7.l3_eq,if_neg (by simp)]
 . rw[Ad7.T,if_pos (by simp only[bigN];omega)];rfl
theorem Ac7.val (xs ys:List Int) (hn:xs.length<4611686018427387904):∃ b,Ac7.F (xs,ys,())=some ((b,()),())/\(b=true↔xs=ys):=by
 by_cases hl:xs.length=ys.length
 . obtain⟨b,hb,hb'⟩:=Ev.all (L:=fun k i=>Ac7.l4 k xs ys (i:Int)) (a:=()) (b:=()) (n:=xs.length) (fun i=>xs.getD i 0==ys.getD i 0) (fun k i hi=>by
     rw[Ac7.l4_eq,if_pos (ltI.2 hi),if_pos (idxI.2 hi),if_pos (by omega),A0x (by omega)];simp only[Int.toNat_natCast];exact ite_nb _ _ _) (fun k=>by rw[Ac7.l4_eq,if_neg (by simp)]) 0 (Nat.zero_le _)
   refine⟨b,Ac7.of _ _ (hb.of_eq fun k=>?_),by rw[hb',all_eq hl (fun x y=>x==y) (by simp)]⟩;rw[Ac7.T,if_neg (by simp[hl])];rfl
 . refine⟨false,Ac7.of _ _ ((Ev.const _).of_eq fun k=>?_),by simp;intro e;exact hl (by rw[e])⟩;rw[Ac7.T,if_pos (by simp;omega)]
theorem Af2.val (xs:List Int) (l:Int) (h0:0≤l) (h1:l≤1048576) (hx:xs.length≤maxLen):∃ r,Af2.F (xs,l,())=some ((r,()),())/\(r=-1∨0≤r/\r≤l/\Sm xs):=by
 have:xs.length≤9223372036854775807:=hx;rw[Af2.eq,Af2.T,A0j (by omega) (by omega)];by_cases h:l<xs.length
 . exact⟨-1,by rw[if_pos (by simp;omega)],.inl rfl⟩
 . exact⟨_,by rw[if_neg (by simp;omega)],.inr ⟨by omega,by omega,by unfold Sm;omega⟩⟩
theorem Ai7.val (xs:List (List Int)) (l:Int) (h0:0≤l) (h1:l≤1048576) (hx:xs.length≤maxLen) (hr:∀ x∈xs,x.length≤maxLen):∃ r,Ai7.F (xs,l,())=some ((r,()),())/\(r=-1∨0≤r/\r≤l/\SmL xs):=by
 have:xs.length≤9223372036854775807:=hx;by_cases h:l<xs.length
 . exact⟨-1,Ai7.of _ _ ((Ev.const _).of_eq fun k=>by rw[Ai7.T,A0j (by omega) (by omega),if_pos (by simp;omega)]),.inl rfl⟩
 obtain⟨r,hv,h2⟩:=A5u (fun k i s=>Ai7.l5 k xs s (i:Int)) xs [] Sm (fun i s hi s0 s1=>by
   have E:=fun k=>Ai7.l5_eq k xs s (i:Int);obtain⟨r,hr1,hr2⟩:=Af2.val (xs.getD i []) s s0 s1 (hr _ (A0y _ hi));simp only[if_pos (ltI.2 hi),if_pos (idxI.2 hi),Int.toNat_natCast,hr1,Option.bind_some,A0x (show i<4611686018427387904 by omega)]at E;rcases hr2 with rfl|⟨a,b,c⟩
   . exact .inr fun k=>by rw[E,if_pos (by simp)]
   . exact .inl ⟨r,a,b,c,fun k=>by rw[E,if_neg (by simp;omega)]⟩) (fun k l=>by rw[Ai7.l5_eq,if_neg (by simp)]) (l-xs.length) (by omega) (by omega)
 refine⟨r,Ai7.of _ _ (hv.of_eq fun k=>by rw[Ai7.T,A0j (by omega) (by omega),if_neg (by simp;omega)];rfl),?_⟩;rcases h2 with h2|⟨a,b,c⟩
 . exact .inl h2
 . exact .inr ⟨a,by omega,by omega,c⟩
theorem Ah0.val (xs:List (List Int)) (l:Int) (h0:0≤l) (h1:l≤1048576) (hx:xs.length≤maxLen) (hr:∀ x∈xs,x.length≤maxLen):∃ r,Ah0.F (xs,l,())=some ((r,()),())/\(r=-1∨0≤r/\r≤l/\SmL xs):=by
 obtain⟨r,h2,h3⟩:=Ai7.val xs l h0 h1 hx hr;rw[Ah0.eq,Ah0.T,h2];simp only[Option.bind_some];rcases h3 with rfl|⟨a,b,c⟩
 . exact⟨-1,by rw[if_pos (by simp)],.inl rfl⟩
 . exact⟨r,by rw[if_neg (by simp;omega)],.inr ⟨a,b,c⟩⟩
theorem Ak7.val (xs:List (List Int)) (h:SmL xs):Ak7.F (xs,())=some ((xs,()),()):=by
 have hl:=h.1;refine Ak7.of xs ?_;have:=Goes.fill (L:=fun k i ys=>Ak7.l3 k xs (i:Int) ys) xs [] (fun k i ys hi hy=>by
   have hs:(xs.getD i []).length≤1048576:=h.2 _ (A0y _ hi);rw[Ak7.l3_eq,if_pos (ltI.2 hi),if_pos (idxI.2 hi)];simp only[Int.toNat_natCast,Ad7.val (xs.getD i []) (by omega),Option.bind_some];rw[if_pos (by omega),A0x (by omega)]) (List.replicate xs.length []) (by simp)
 refine Ev.of_eq (this _ ((Ev.const _).succ fun k=>?_)) fun k=>?_
 . rw[Ak7.l3_eq,if_neg (by simp)]
 . rw[Ak7.T,if_pos (by simp only[bigN];omega)];rfl
theorem Ad6.val (xs:List (List Int)) (h:SmL xs):Ad6.F (xs,())=some ((xs,()),()):=by
 rw[Ad6.eq,Ad6.T,Ak7.val xs h];rfl
theorem Ae2.same (xs ys:List (List Int)) (h:SmL xs):∃ b,Ae2.F (xs,ys,())=some ((b,()),())/\(b=true↔xs=ys):=by
 have hn:=h.1;by_cases hl:xs.length=ys.length
 . obtain⟨b,hb,hb'⟩:=A1E (fun k i=>Ae2.l4 k xs ys (i:Int)) xs ys [] hl (fun i hi=>by
     have hs:(xs.getD i []).length≤1048576:=h.2 _ (A0y _ hi);obtain⟨c,hc,hc'⟩:=Ac7.val (xs.getD i []) (ys.getD i []) (by omega);exact⟨c,hc',fun k=>by rw[Ae2.l4_eq,if_pos (ltI.2 hi),if_pos (idxI.2 hi),if_pos (idx2 (hl▸hi))];simp only[Int.toNat_natCast,hc,Option.bind_some];rw[A0x (by omega)]⟩) (fun k=>by rw[Ae2.l4_eq,if_neg (by simp)])
   exact⟨b,Ae2.of _ _ (hb.of_eq fun k=>by rw[Ae2.T,if_neg (by simp[hl])];rfl),hb'⟩
 . exact⟨false,Ae2.of _ _ ((Ev.const _).of_eq fun k=>by rw[Ae2.T,if_pos (by simp;omega)]),by simp;intro e;exact hl (by rw[e])⟩
theorem Ag8.same (xs ys:List (List Int)) (h:SmL xs):∃ b,Ag8.F (xs,ys,())=some ((b,()),())/\(b=true↔xs=ys):=by
 obtain⟨b,hb,hb'⟩:=Ae2.same xs ys h;rw[Ag8.eq,Ag8.T,hb];exact⟨b,by cases b<;>rfl,hb'⟩
theorem A6H {xs:List Int} {v:Int} (h:v∈xs):xs.getD (idxV xs v) 0=v:=by
 have h1:=A3Y h;rw[A0z h1];have:=List.findIdx_getElem (w:=h1) (p:=fun x=>decide (x=v)) (xs:=xs);simp only[decide_eq_true_eq]at this;exact this
theorem A2g {c:List (List Int)} (h:CplxOk c) {s:List Int} (hs:s∈c):imgS c (vts c) s=s:=by
 have e:imgL c (vts c) s=s:=by
   unfold imgL
   conv=>rhs;rw[<-List.map_id s]
   exact List.map_congr_left fun v hv=>A6H (A4P h (A3n h s.length s hs (Nat.le_refl _) v hv)).2
 obtain⟨h1,h2⟩:=A2q s;rw[imgS,e];refine A4G h1 ?_ h2;obtain⟨i1,i2⟩:=A0H hs;have hr:A1l s:=by have:=(h.2 _ i1).1.2.2;rwa [i2]at this
 rw[List.pairwise_iff_getElem];intro i j hi hj hij;have:=A2v hr i j hij hj
 rwa [A0z hi,A0z hj]at this
theorem A3b {p b:List (List Int)} (h:CplxOk p) (hi:IsIn p b):A4r p b (vts p):=⟨rfl,fun s hs=>by rw[A2g h hs];exact hi s hs⟩
theorem A6x (c:List (List Int)):(A0A c 0 c.length).map (fun i=>(c.getD i.toNat []).getD 0 0)=vts c:=by
 have key:∀ i,i≤c.length->(A0A c 0 i).map (fun i=>(c.getD i.toNat []).getD 0 0)=vts (c.take i):=by
   intro i;induction i with
   | zero=>intro _;rfl
   | succ i ih =>
     intro hi;rw[A1k,A4o c (by omega)];by_cases h1:(c.getD i []).length=1
     . rw[if_pos (by simp only[beq_iff_eq];omega),if_pos h1,List.map_append,ih (by omega)];simp
     . rw[if_neg (by simp only[beq_iff_eq];omega),if_neg h1,List.append_nil,ih (by omega)]
 have:=key c.length (Nat.le_refl _)
 rwa [List.take_of_length_le (Nat.le_refl _)]at this
theorem Al4.val {c:List (List Int)} (h:CplxOk c):Al4.F (c,())=some ((vts c,()),()):=by
 have hn:=h.1;have e0:=Ae5.val c 0 (by omega) (by omega);have hl:=A0K c 0 c.length;rw[<-A6x c];have hd:∀ x∈A0A c 0 c.length,∃ j:Nat,x=j/\j<c.length/\(c.getD j []).length=1:=fun x hx=>by
   unfold A0A at hx;obtain⟨j,hj,rfl⟩:=List.mem_map.1 hx;obtain⟨h1,h2⟩:=List.mem_filter.1 hj;simp only[beq_iff_eq]at h2;exact⟨j,rfl,List.mem_range.1 h1,by omega⟩
 generalize A0A c 0 c.length=L at e0 hl hd;refine Al4.of _ ?_;have g:=Goes.push (R:=(List Int×Unit)×Unit) (fun k i s=>Al4.l4 k c (i:Int) s L) L.length (fun i=>(c.getD (L.getD i 0).toNat []).getD 0 0) fun i s hi hs=>Goes.succ fun k=>by
   obtain⟨j,j1,j2,j3⟩:=hd _ (A0y 0 hi);rw[Al4.l4_eq,if_pos (ltI.2 hi),if_pos (idxI.2 hi)];simp only[Int.toNat_natCast];rw[j1,if_pos (idxI.2 j2)];simp only[Int.toNat_natCast];rw[if_pos (by omega),if_pos (A3q hs (by omega)),A0x (by omega)];rfl
 have em:(List.range L.length).map (fun i=>(c.getD (L.getD i 0).toNat []).getD 0 0)=L.map fun i=>(c.getD i.toNat []).getD 0 0:=by
   refine List.ext_getElem (by simp) fun i h1 h2=>?_;simp only[List.getElem_map,List.getElem_range];rw[A0z (xs:=L) (by simpa using h1)]
 rw[em]at g;refine Ev.of_eq (g _ ((Ev.const _).succ fun k=>?_)) fun k=>?_
 . rw[Al4.l4_eq,if_neg (by simp)]
 . rw[Al4.T,e0];rfl
theorem A2L {s:ShfV} {p:List (List Int)} (h:SheafOk s) (hc:CplxOk p) (hi:IsIn p s.1):Ai5.F (s,p,())=some ((pulS s p (vts p),()),()):=by
 have T:Ai5.F (s,p,())=Ai5.T s.1 s.2.1 s.2.2.1 s.2.2.2 p:=Ai5.eq _ _ _ _ _;have hn:=hc.1;rw[T,Ai5.T,Ag7.val p (by omega)];have hp:Ak5.F ((s.1,(s.2.1,(s.2.2.1,s.2.2.2))),p,vts p,())=_:=Ak5.val h hc (A3b hc hi);simp only[Option.bind_some,hp]
open Classical in
noncomputable def A2Z (s:ShfV) (p:List (List Int)):Int:=if A1J s/\CplxOk p then(if IsIn p s.1 then 0 else 6)else 1
noncomputable def rstV (s:ShfV) (p:List (List Int)):ShfV:=@ite _ (A2Z s p=0) (Classical.propDecidable _) (pulS s p (vts p)) ([],0,[],[])
theorem partC_zero {s:ShfV} {p:List (List Int)}:A2Z s p=0↔(A1J s/\CplxOk p)/\IsIn p s.1:=by
 unfold A2Z;split
 . split<;>simp[*]
 . simp[*]
theorem Al1.val (s:ShfV) (p:List (List Int)) (hs:SmSh s) (hp:SmL p):Al1.F (s,p,())=some ((rstV s p,A2Z s p,()),()):=by
 obtain⟨v1,a1,a1'⟩:=Ad1.val s hs;obtain⟨v2,a2,a2'⟩:=Aa3.val p hp;have a1:Ad1.F ((s.1,(s.2.1,(s.2.2.1,s.2.2.2))),())=_:=a1;have T:Al1.F (s,p,())=Al1.T s.1 s.2.1 s.2.2.1 s.2.2.2 p:=Al1.eq _ _ _ _ _;rw[T,Al1.T,a1,a2];simp only[Option.bind_some];cases v1 with
 | false =>
   have e:A2Z s p=1:=by rw[A2Z,if_neg fun hh=>absurd (a1'.2 hh.1) (by simp)]
   rw[if_pos (by simp),rstV,e,if_neg (by simp)]
 | true=>cases v2 with
   | false =>
     have e:A2Z s p=1:=by rw[A2Z,if_neg fun hh=>absurd (a2'.2 hh.2) (by simp)]
     rw[if_neg (by simp),if_pos (by simp),rstV,e,if_neg (by simp)]
   | true =>
     have h:=(a1'.1 rfl).1;have hc:=a2'.1 rfl;obtain⟨v3,a3,a3'⟩:=An0.val p s.1 hp.1 h.1.small;rw[if_neg (by simp),if_neg (by simp),a3];simp only[Option.bind_some];cases v3 with
     | false =>
       have e:A2Z s p=6:=by rw[A2Z,if_pos ⟨a1'.1 rfl,hc⟩,if_neg fun hh=>absurd (a3'.2 hh) (by simp)]
       rw[if_pos (by simp),rstV,e,if_neg (by simp)]
     | true =>
       have hi:=a3'.1 rfl;have e:A2Z s p=0:=by rw[A2Z,if_pos ⟨a1'.1 rfl,hc⟩,if_pos hi]
       have hq:Af6.F ((s.1,(s.2.1,(s.2.2.1,s.2.2.2))),p,vts p,())=_:=Af6.val h hc (A3b hc hi);rw[if_neg (by simp),rstV,e,if_pos rfl,Al4.val hc];simp only[Option.bind_some,hq]
theorem A6I {c p:List (List Int)} (hc:CplxOk c) (hp:CplxOk p) (hi:IsIn p c) {i j:Nat} (hij:i<j) (hj:j<p.length):A0e c (p.getD i [])<A0e c (p.getD j []):=by
 obtain⟨a1,a2⟩:=A0H (hi _ (A0y [] (show i<p.length by omega)));obtain⟨b1,b2⟩:=A0H (hi _ (A0y [] hj));have l:=hp.sorted i j hij hj;refine Nat.lt_of_not_le fun hle=>?_;rcases Nat.lt_or_eq_of_le hle with h|h
 . have g:=hc.sorted _ _ h a1;rw[b2,a2,<-A3y]at g;rw[<-A3y]at l;have:=(a5m _ _).1 g;omega
 . have e:p.getD i []=p.getD j []:=by rw[<-a2,<-b2,h]
   have:=A1G hp.sorted (by omega) hj e;omega
def stIn (c p:List (List Int)) (st:List Int):List Int:=(List.range p.length).map fun k=>st.getD (A0e c (p.getD k [])) 0
theorem psum_le {c p:List (List Int)} (hc:CplxOk c) (hp:CplxOk p) (hi:IsIn p c) {st:List Int} (ha:A0M 0 3 st) (hl:st.length=c.length) (d:Int):∀ k,k≤p.length->∀ n,(∀ j,j<k->A0e c (p.getD j [])<n)->n≤c.length->psum p (stIn c p st) d k≤psum c st d n:=by
 intro k;induction k with
 | zero=>intro _ n _ hn;exact(A1s ha n (by omega)).1
 | succ k ih =>
   intro hk n hj hn;have hm:=hj k (by omega);have h1:=ih (by omega) (A0e c (p.getD k [])) (fun j hjk=>A6I hc hp hi hjk (by omega)) (by omega);obtain⟨a1,a2⟩:=A0H (hi _ (A0y [] (show k<p.length by omega)));have e:psum p (stIn c p st) d (k+1)≤psum c st d (A0e c (p.getD k [])+1):=by
     have es:(stIn c p st).getD k 0=st.getD (A0e c (p.getD k [])) 0:=by rw[stIn,A0N _ 0 (by omega)]
     simp only[psum];rw[a2,es];split<;>omega
   exact Int.le_trans e (A3j ha (by omega) (by omega))
theorem A6R (s:ShfV) {p:List (List Int)} (hc:CplxOk p) {k:Nat} (hk:k<p.length):plAt s p (vts p) k=A0e s.1 (p.getD k []):=by rw[plAt,A2g hc (A0y [] hk)]
theorem A4q (s:ShfV) {p:List (List Int)} (hc:CplxOk p):A0I s p (vts p)=stIn s.1 p s.2.2.1:=List.map_congr_left fun k hk=>by rw[A6R s hc (List.mem_range.1 hk)]
theorem A5q {s:ShfV} (h:SheafOk s) {f i:Nat} (hf:f<s.1.length) (hi:i<s.1.length) (hsub:∀ x∈s.1.getD f [],x∈s.1.getD i []) :
   MatOk (A0r s f i)/\(A0r s f i).1=s.2.1/\(A0r s f i).2.1=s.2.2.1.getD i 0/\(A0r s f i).2.2.1=s.2.2.1.getD f 0:=by
 have htf:=(h.1.2 f hf).1;have hle:=A1w (A1b htf.2.2) hsub;obtain⟨m,m0,m1,m2,m3,m4,m5,m6⟩:=A1S s h f hf ((s.1.getD i []).length-(s.1.getD f []).length) i hi (by omega) hsub;have c1:Ac5.F (s,(f:Int),(i:Int),())=some ((m,()),()):=Ac5.ofR ⟨_,fun q hq=>m5 q (Nat.lt_of_succ_le hq)⟩;have e:A0r s f i=m:=by unfold A0r;rw[c1]
 rw[e];exact⟨m1,m2,m3,m4⟩
noncomputable def rstS (s:ShfV) (p:List (List Int)):ShfV:=pulS s p (vts p)
theorem A5l {s:ShfV} {p:List (List Int)} (h:SheafOk s) (hc:CplxOk p) (hi:IsIn p s.1):SheafOk (rstS s p):=by
 have hl:s.2.2.1.length=s.1.length:=h.2.2.1.1;have hn:=hc.1;have hn':=h.1.1;have hall:=A3v h p (vts p);have hlen:(A0I s p (vts p)).length=p.length:=by simp[A0I]
 refine⟨hc,h.2.1,⟨hlen,hall,fun k hk=>?_⟩,A0n s p (vts p),fun i hip j hj=>?_⟩
 . show sumL (A0I s p (vts p)) (A0A p k p.length)≤32;have h2:=h.2.2.1.2.2 k hk;rw[A2w h.2.2.1.2.1 _ (by omega) (by omega)]at h2;rw[A2w hall _ (by omega) (by omega),A4q s hc];exact Int.le_trans (psum_le h.1 hc hi h.2.2.1.2.1 hl k p.length (Nat.le_refl _) s.1.length (fun j hj=>(A0H (hi _ (A0y [] hj))).1) (Nat.le_refl _)) h2
 . have hip:i<p.length:=hip;have hj:j<(fcs p i).length:=hj;obtain⟨f,hf,hfl,hsub⟩:=A3U hc hip hj;have e1:(A1Z s p (vts p)).getD (off p i+j) (0,0,0,[])=A0r s (plAt s p (vts p) f) (plAt s p (vts p) i):=by
     rw[A1Z,A1X,A0N _ _ (by rw[A0J];exact A3G hip hj),A2c p hip hj];simp only[hf,Int.toNat_natCast]
   obtain⟨a1,a2⟩:=A1C (A3b hc hi) hfl;obtain⟨b1,b2⟩:=A1C (A3b hc hi) hip;rw[A2g hc (A0y [] hfl)]at a2;rw[A2g hc (A0y [] hip)]at b2;have d:=A5q h a1 b1 (by rw[a2,b2];exact hsub);show A3o p s.2.1 (A0I s p (vts p)) ((A1Z s p (vts p)).getD (off p i+j) (0,0,0,[])) i j;rw[e1];refine⟨d.1,d.2.1,?_,?_⟩
   . rw[d.2.2.1,A0I,A0N _ 0 hip]
   . rw[d.2.2.2,hf,Int.toNat_natCast,A0I,A0N _ 0 hfl]
def both (a b:List (List Int)):List (List Int):=a.filter fun s=>decide (s∈b)
theorem A4t {a:List (List Int)} (b:List (List Int)) (h:SmL a):SmL (both a b) :=
 ⟨Nat.le_trans (List.length_filter_le _ _) h.1,fun x hx=>h.2 x (List.mem_filter.1 hx).1⟩
theorem A2r {a:List (List Int)} (b:List (List Int)) (h:A0V a):A0V (both a b):=sortedS_pw.2 ((sortedS_pw.1 h).sublist List.filter_sublist)
theorem A3p (a b:List (List Int)) {i:Nat} (hi:i<a.length):both (a.take (i+1)) b=both (a.take i) b++(if a.getD i []∈b then[a.getD i []]else[]):=by
 rw[both,both,List.take_add_one,List.getElem?_eq_getElem hi,Option.toList_some,List.filter_append,A0z hi];congr 1;by_cases h:a[i]∈b<;>simp[h]
theorem A1u (a b:List (List Int)) (i:Nat):(both (a.take i) b).length≤i:=Nat.le_trans (List.length_filter_le _ _) (by simp;omega)
theorem Ad2.val (a b:List (List Int)) (ha:SmL a) (hb:SmL b):Ad2.F (a,b,())=some ((both a b,()),()):=by
 have hn:=ha.1;refine Ad2.of _ _ ?_;obtain⟨s,hs,hg⟩:=Goes.loop (R:=((List (List Int)×Unit)×Unit)) (fun k i (x:List (List Int))=>Ad2.l3 k a b (i:Int) [] x) a.length (fun i x=>x=both (a.take i) b) (fun i x hi h2=>⟨_,rfl,Goes.succ fun k=>by
   obtain⟨r,hr,hr'⟩:=Aa1.val b (a.getD i []) hb;have hl:=A1u a b i;rw[Ad2.l3_eq,if_pos (ltI.2 hi),if_pos (idxI.2 hi)];simp only[Int.toNat_natCast,hr,Option.bind_some,Ab2.val _ (ha.2 _ (A0y [] hi))];rw[A3p a b hi,A0x (by omega),<-h2];by_cases hm:a.getD i []∈b
   . have:¬ r<0:=fun hh=>hr'.1 hh hm;rw[if_pos (by simp;omega),if_pos (idxI.2 hi),if_pos (by rw[h2];simp only[List.length_cons,List.length_nil,bigA];omega),if_pos hm]
   . have:r<0:=hr'.2 hm;rw[if_neg (by simp;omega),if_neg hm,List.append_nil]⟩) 0 [] (Nat.zero_le _) rfl
 rw[List.take_of_length_le (Nat.le_refl _)]at hs;refine Ev.of_eq (hg _ ((Ev.const _).succ fun k=>?_)) fun k=>rfl;rw[Ad2.l3_eq,if_neg (by simp),hs]
theorem Al7.val (a:List (List Int)) (f:List Int×Unit->Option (Bool×Unit)) (b:List (List Int)) (ha:SmL a) (hf:∀ s∈a,f (s,())=some (decide (s∈b),())) (hs:A0V a) :
   Al7.F (a,f,())=some ((both a b,()),()):=by
 have hn:=ha.1;refine Al7.of _ _ ?_;obtain⟨s,hs',hg⟩:=Goes.loop (R:=((List (List Int)×Unit)×Unit)) (fun k i (x:List (List Int))=>Al7.l3 k f a (a.length:Int) (i:Int) [] x) a.length (fun i x=>x=both (a.take i) b) (fun i x hi h2=>⟨_,rfl,Goes.succ fun k=>by
   have hl:=A1u a b i;rw[Al7.l3_eq,if_pos (ltI.2 hi),if_pos (idxI.2 hi)];simp only[Int.toNat_natCast,hf _ (A0y [] hi),Option.bind_some];rw[A3p a b hi,A0x (by omega),<-h2];by_cases hm:a.getD i []∈b
   . rw[if_pos (decide_eq_true hm),if_pos (by rw[h2];simp only[List.length_cons,List.length_nil,bigA];omega),if_pos hm]
   . rw[if_neg (fun hh=>hm (of_decide_eq_true hh)),if_neg hm,List.append_nil]⟩) 0 [] (Nat.zero_le _) rfl
 rw[List.take_of_length_le (Nat.le_refl _)]at hs';refine Ev.of_eq (hg _ ((Ev.const _).succ fun k=>?_)) fun k=>rfl;rw[Al7.l3_eq,if_neg (by simp),hs',Ad5.same _ (A4t b ha) (A2r b hs)];rfl
theorem Ap1.val (a b:List (List Int)) (ha:SmL a) (hb:SmL b) (sa:A0V a) (sb:A0V b):Ap1.F (a,b,())=some ((both a b,()),()):=by
 rw[Ap1.eq,Ap1.T,Al7.val a _ b ha (fun s hs=>?_) sa]
 . rfl
 . obtain⟨r,hr,hr'⟩:=Ab6.val b s sb hb (ha.2 s hs);show(As4.F (s,b,())).map (·.1)=_;rw[As4.eq,As4.T,hr];simp only[Option.bind_some,Option.map_some,Option.some.injEq,Prod.mk.injEq,and_true,decide_eq_decide];have:r<0↔s∉b:=hr';by_cases h:s∈b
   . have h2:¬ r<0:=fun hh=>(this.1 hh) h;simp only[h,iff_true];omega
   . simp only[h,iff_false];have:=this.2 h;omega
theorem Ao6.same (xs ys:List (List Int)) (h:SmL xs):∃ b,Ao6.F (xs,ys,())=some ((b,()),())/\(b=true↔xs=ys):=by
 have hn:=h.1;rw[Ao6.eq,Ao6.T]
 suffices ∃ b,Al0.F (xs,ys,Ab7.cloG (()),())=some ((b,()),())/\(b=true↔xs=ys)by
   obtain⟨b,hb,hb'⟩:=this;rw[hb];exact⟨b,rfl,hb'⟩
 by_cases hl:xs.length=ys.length
 . obtain⟨b,hb,hb'⟩:=A1E (fun k i=>Al0.l4 k ys (Ab7.cloG (())) xs xs.length (i:Int)) xs ys [] hl (fun i hi=>by
     obtain⟨c,hc,hc'⟩:=Ab7.same (xs.getD i []) (ys.getD i []) (h.2 _ (A0y _ hi));have hc2:Ab7.cloG (()) (xs.getD i [],ys.getD i [],())=some (c,()):=by
       show(Ab7.F (xs.getD i [],ys.getD i [],())).map (·.1)=_;rw[hc];rfl
     exact⟨c,hc',fun k=>by rw[Al0.l4_eq,if_pos (ltI.2 hi),if_pos (idxI.2 hi),if_pos (idx2 (hl▸hi))];simp only[Int.toNat_natCast,hc2,Option.bind_some];rw[A0x (by omega)]⟩) (fun k=>by rw[Al0.l4_eq,if_neg (by simp)])
   exact⟨b,Al0.of _ _ _ (hb.of_eq fun k=>by rw[Al0.T,if_neg (by simp[hl])];rfl),hb'⟩
 . exact⟨false,Al0.of _ _ _ ((Ev.const _).of_eq fun k=>by rw[Al0.T,if_pos (by simp;omega)]),by simp;intro e;exact hl (by rw[e])⟩
theorem An9.same (xs ys:List (List Int)) (h:SmL xs):∃ b,An9.F (xs,ys,())=some ((b,()),())/\(b=true↔xs=ys):=by
 obtain⟨b,hb,hb'⟩:=Ao6.same xs ys h;rw[An9.eq,An9.T,hb];exact⟨b,rfl,hb'⟩
def A5G (c a b:List (List Int)):Prop:=(∀ s∈a,s∈c)/\(∀ s∈b,s∈c)/\∀ s∈c,s∈a∨s∈b
theorem both_all {a b:List (List Int)}:(both a b).length=a.length↔∀ s∈a,s∈b:=by
 rw[both,List.length_filter_eq_length_iff];simp
theorem Ae7.val (c a b:List (List Int)) (hc:SmL c) (ha:SmL a) (hb:SmL b):∃ v,Ae7.F (c,a,b,())=some ((v,()),())/\(v=true↔A5G c a b):=by
 have hn:=hc.1;obtain⟨v,hv,hv'⟩:=Ev.allP (L:=fun k i=>Ae7.l6 k c a b (i:Int)) (a:=()) (b:=()) (n:=c.length) (fun i=>c.getD i []∈a∨c.getD i []∈b) true (fun i hi=>by
   have E:=fun k=>Ae7.l6_eq k c a b (i:Int);obtain⟨r,hr,hr'⟩:=Aa1.val a (c.getD i []) ha;obtain⟨t,ht,ht'⟩:=Aa1.val b (c.getD i []) hb;simp only[if_pos (ltI.2 hi),if_pos (idxI.2 hi),Int.toNat_natCast,hr,ht,Option.bind_some,A0x (show i<4611686018427387904 by omega)]at E;by_cases hm:c.getD i []∈a
   . exact .inl ⟨.inl hm,fun k=>by rw[E,if_neg (by simp only[decide_eq_true_eq,hr'];exact fun hh=>hh hm)]⟩
   . by_cases hm2:c.getD i []∈b
     . exact .inl ⟨.inr hm2,fun k=>by rw[E,if_pos (by simp only[decide_eq_true_eq,hr'];exact hm),if_neg (by simp only[decide_eq_true_eq,ht'];exact fun hh=>hh hm2)]⟩
     . exact .inr ⟨fun hh=>hh.elim hm hm2,fun k=>by rw[E,if_pos (by simp only[decide_eq_true_eq,hr'];exact hm),if_pos (by simp only[decide_eq_true_eq,ht'];exact hm2)]⟩) ((Ev.const _).succ fun k=>by rw[Ae7.l6_eq,if_neg (by simp)]) 0 (Nat.zero_le _)
 have T:=fun k=>(rfl:Ae7.T k c a b=_);simp only[Ae7.T,Ad2.val a c ha hc,Ad2.val b c hb hc,Option.bind_some]at T;by_cases h1:∀ s∈a,s∈c
 . have e1:=both_all.2 h1;by_cases h2:∀ s∈b,s∈c
   . have e2:=both_all.2 h2;refine⟨v,Ae7.of _ _ _ (hv.of_eq fun k=>?_),hv'.trans ⟨fun⟨_,h⟩=>⟨h1,h2,fun s hs=>?_⟩,fun h=>⟨rfl,fun j _ hj=>h.2.2 _ (A0y _ hj)⟩⟩⟩
     . show Ae7.T k c a b=_;rw[Ae7.T,Ad2.val a c ha hc,Ad2.val b c hb hc];simp only[Option.bind_some];rw[if_neg (by simp[e1]),if_neg (by simp[e2])];rfl
     . obtain⟨j,hj,rfl⟩:=List.getElem_of_mem hs;have:=h j (Nat.zero_le _) hj
       rwa [A0z hj]at this
   . refine⟨false,Ae7.of _ _ _ ((Ev.const _).of_eq fun k=>?_),by simp only[Bool.false_eq_true,false_iff];exact fun h=>h2 h.2.1⟩;have e2:¬ (both b c).length=b.length:=fun h=>h2 (both_all.1 h);show Ae7.T k c a b=_;rw[Ae7.T,Ad2.val a c ha hc,Ad2.val b c hb hc];simp only[Option.bind_some];rw[if_neg (by simp[e1]),if_pos (by simp;omega)]
 . refine⟨false,Ae7.of _ _ _ ((Ev.const _).of_eq fun k=>?_),by simp only[Bool.false_eq_true,false_iff];exact fun h=>h1 h.1⟩;have e1:¬ (both a c).length=a.length:=fun h=>h1 (both_all.1 h);show Ae7.T k c a b=_;rw[Ae7.T,Ad2.val a c ha hc,Ad2.val b c hb hc];simp only[Option.bind_some];rw[if_pos (by simp;omega)]
theorem Ah1.val2 (a b:List (List Int)) (ha:a.length≤1048576) (hb:b.length≤1048576):Ah1.F ([a,b],())=some ((a++b,()),()):=by
 have w1:IntKind.i64.wrap (0+(a.length:Int))=(a.length:Int):=by rw[A0j (by omega) (by omega)];omega
 have w2:IntKind.i64.wrap ((a.length:Int)+(b.length:Int))=(a.length:Int)+(b.length:Int):=A0j (by omega) (by omega);have w3:IntKind.i64.wrap ((0:Int)+1)=1:=A0j (by omega) (by omega);have w4:IntKind.i64.wrap ((1:Int)+1)=2:=A0j (by omega) (by omega);refine Ah1.of _ ⟨6,fun k hk=>?_⟩;obtain⟨k,rfl⟩:∃ j,k=j+1+1+1+1+1+1:=⟨k-6,by omega⟩;show Ah1.T (k+1+1+1+1+1+1) [a,b]=_;have e0:((([a,b]:List (List (List Int))).length:Nat):Int)=2:=rfl;rw[Ah1.T,e0,Ah1.l3_eq,if_pos (by decide),if_pos (by rw[e0];decide)];simp only[Int.toNat_zero,List.getD_cons_zero,w1,w3];rw[if_neg (by simp only[decide_eq_true_eq];omega),Ah1.l3_eq,if_pos (by decide),if_pos (by rw[e0];decide)];simp only[show(1:Int).toNat=1 from rfl,List.getD_cons_succ,List.getD_cons_zero,w2,w4];rw[if_neg (by simp only[decide_eq_true_eq];omega),Ah1.l3_eq,if_neg (by decide),if_pos (by simp only[bigN];omega),e0,Ah1.l11_eq,if_pos (by decide),if_pos (by rw[e0];decide)];simp only[Int.toNat_zero,List.getD_cons_zero,w3];rw[if_pos (by simp only[List.length_nil,bigA];omega),Ah1.l11_eq,if_pos (by decide),if_pos (by rw[e0];decide)];simp only[show(1:Int).toNat=1 from rfl,List.getD_cons_succ,List.getD_cons_zero,w4,List.nil_append];rw[if_pos (by simp only[bigA];omega),Ah1.l11_eq,if_neg (by decide)]
theorem Ap3.val (a b:List (List Int)) (ha:CplxOk a) (hb:CplxOk b):Ap3.F (a,b,())=some ((A2t (a++b),()),()):=by
 have h1:=ha.1;have h2:=hb.1;have hs:SmL (a++b):=⟨by rw[List.length_append];omega,fun x hx=>(List.mem_append.1 hx).elim (ha.small.2 x) (hb.small.2 x)⟩;rw[Ap3.eq,Ap3.T,Ah1.val2 a b (by omega) (by omega)];simp only[Option.bind_some,Ad5.val _ hs]
theorem A2u {c a b:List (List Int)} (hc:A0V c):A2t (a++b)=c↔A5G c a b:=by
 constructor
 . rintro rfl;refine⟨fun s hs=>by rw[A1q];simp[hs],fun s hs=>by rw[A1q];simp[hs],fun s hs=>by rw[A1q]at hs;simpa using hs⟩
 . rintro⟨h1,h2,h3⟩;refine A2N (A4h _) (sortedS_pw.1 hc) fun s=>?_;rw[A1q,List.mem_append];exact⟨fun h=>h.elim (h1 s) (h2 s),h3 s⟩
theorem A4Q {c a b:List (List Int)} (kc:CplxOk c) (ka:CplxOk a) (kb:CplxOk b):∃ v,Ar0.F (c,a,b,())=some ((v,()),())/\(v=true↔A5G c a b):=by
 obtain⟨u1,b1,b1'⟩:=Aa9.val c kc.small;obtain⟨u2,b2,b2'⟩:=Aa9.val a ka.small;obtain⟨u3,b3,b3'⟩:=Aa9.val b kb.small;obtain rfl:u1=true:=b1'.2 kc;obtain rfl:u2=true:=b2'.2 ka;obtain rfl:u3=true:=b3'.2 kb;have hsm:SmL (A2t (a++b)):=by
   refine⟨?_,fun x hx=>?_⟩
   . have h1:=ka.1;have h2:=kb.1;have hle:∀ (l:List (List Int)) (p:List Int),(a2N p l).length≤l.length:=by
       intro l;induction l with
       | nil=>intro p;simp[a2N]
       | cons x l ih => intro p;simp only[a2N];split
                        . have:=ih x;simp only[List.length_cons];omega
                        . have:=ih x;simp only[List.length_cons];omega
     have hle2:(A2t (a++b)).length≤(b4O ordS (a++b)).length:=by
       unfold A2t;cases b4O ordS (a++b)with
       | nil=>simp[a8z]
       | cons x l=>have:=hle l x;simp only[a8z,List.length_cons];omega
     rw[(A2M (a++b)).length_eq,List.length_append]at hle2;omega
   . have:=(A1q x (a++b)).1 hx;exact(List.mem_append.1 this).elim (ka.small.2 x) (kb.small.2 x)
 obtain⟨w,e2,e2'⟩:=An9.same (A2t (a++b)) c hsm;refine⟨w,?_,e2'.trans (A2u kc.sorted)⟩;rw[Ar0.eq,Ar0.T,b1,b2,b3];simp only[Option.bind_some,if_true,Ap3.val a b ka kb,e2]
open Classical in
noncomputable def covC (s:ShfV) (a b:List (List Int)):Int:=if A1J s/\CplxOk a/\CplxOk b then(if A5G s.1 a b then 0 else 6)else 1
theorem covC_zero {s:ShfV} {a b:List (List Int)}:covC s a b=0↔(A1J s/\CplxOk a/\CplxOk b)/\A5G s.1 a b:=by
 unfold covC;split
 . split<;>simp[*]
 . simp[*]
theorem Ak2.val (s:ShfV) (a b:List (List Int)) (hs:SmSh s) (ha:SmL a) (hb:SmL b):Ak2.F (s,a,b,())=some ((covC s a b,()),()):=by
 obtain⟨v1,a1,a1'⟩:=Af4.val s hs;obtain⟨v2,a2,a2'⟩:=Aa9.val a ha;obtain⟨v3,a3,a3'⟩:=Aa9.val b hb;have a1:Af4.F ((s.1,(s.2.1,(s.2.2.1,s.2.2.2))),())=_:=a1;have T:Ak2.F (s,a,b,())=Ak2.T s.1 s.2.1 s.2.2.1 s.2.2.2 a b:=Ak2.eq _ _ _ _ _ _;rw[T,Ak2.T,a1,a2,a3];simp only[Option.bind_some];unfold covC;cases v1 with
 | false=>rw[if_pos (by simp),if_neg fun hh=>absurd (a1'.2 hh.1) (by simp)]
 | true=>cases v2 with
   | false=>rw[if_neg (by simp),if_pos (by simp),if_neg fun hh=>absurd (a2'.2 hh.2.1) (by simp)]
   | true=>cases v3 with
     | false=>rw[if_neg (by simp),if_neg (by simp),if_pos (by simp),if_neg fun hh=>absurd (a3'.2 hh.2.2) (by simp)]
     | true =>
       have k1:=a1'.1 rfl;have k2:=a2'.1 rfl;have k3:=a3'.1 rfl;obtain⟨v4,a4,a4'⟩:=A4Q k1.1.1 k2 k3;rw[if_neg (by simp),if_neg (by simp),if_neg (by simp),if_pos ⟨k1,k2,k3⟩,a4];simp only[Option.bind_some];cases v4 with
       | false=>rw[if_pos (by simp),if_neg fun hh=>absurd (a4'.2 hh) (by simp)]
       | true=>rw[if_neg (by simp),if_pos (a4'.1 rfl)]
theorem Al5.val (s:ShfV) (a b:List (List Int)) (hs:SmSh s) (ha:SmL a) (hb:SmL b):Al5.F (s,a,b,())=some ((covC s a b,()),()):=by
 obtain⟨v1,a1,a1'⟩:=Ad1.val s hs;obtain⟨v2,a2,a2'⟩:=Aa3.val a ha;obtain⟨v3,a3,a3'⟩:=Aa3.val b hb;have a1:Ad1.F ((s.1,(s.2.1,(s.2.2.1,s.2.2.2))),())=_:=a1;have T:Al5.F (s,a,b,())=Al5.T s.1 s.2.1 s.2.2.1 s.2.2.2 a b:=Al5.eq _ _ _ _ _ _;rw[T,Al5.T,a1,a2,a3];simp only[Option.bind_some];unfold covC;cases v1 with
 | false=>rw[if_pos (by simp),if_neg fun hh=>absurd (a1'.2 hh.1) (by simp)]
 | true=>cases v2 with
   | false=>rw[if_neg (by simp),if_pos (by simp),if_neg fun hh=>absurd (a2'.2 hh.2.1) (by simp)]
   | true=>cases v3 with
     | false=>rw[if_neg (by simp),if_neg (by simp),if_pos (by simp),if_neg fun hh=>absurd (a3'.2 hh.2.2) (by simp)]
     | true =>
       have k1:=a1'.1 rfl;have k2:=a2'.1 rfl;have k3:=a3'.1 rfl;obtain⟨v4,a4,a4'⟩:=Ae7.val s.1 a b k1.1.1.small k2.small k3.small;rw[if_neg (by simp),if_neg (by simp),if_neg (by simp),if_pos ⟨k1,k2,k3⟩,a4];simp only[Option.bind_some];cases v4 with
       | false=>rw[if_pos (by simp),if_neg fun hh=>absurd (a4'.2 hh) (by simp)]
       | true=>rw[if_neg (by simp),if_pos (a4'.1 rfl)]
structure CovAt (s:ShfV) (a b:List (List Int)):Prop where
 s1:A1J s
 ha:CplxOk a
 hb:CplxOk b
 ia:IsIn a s.1
 ib:IsIn b s.1
 cov:∀ t∈s.1,t∈a∨t∈b
theorem covAt {s:ShfV} {a b:List (List Int)} (h:covC s a b=0):CovAt s a b:=by
 obtain⟨⟨h1,h2,h3⟩,h4,h5,h6⟩:=covC_zero.1 h;exact⟨h1,h2,h3,h4,h5,h6⟩
theorem A6V {s:ShfV} {p:List (List Int)} (h:A1J s) (hc:CplxOk p) (hi:IsIn p s.1):rstV s p=rstS s p:=by rw[rstV,if_pos (partC_zero.2 ⟨⟨h,hc⟩,hi⟩),rstS]
theorem Af7.val {s:ShfV} {p:List (List Int)} (hs:SmSh s) (hp:SmL p) (h:A1J s) (hc:CplxOk p) (hi:IsIn p s.1):Af7.F (s,p,())=some ((rstS s p,()),()):=by
 have a1:Al1.F ((s.1,(s.2.1,(s.2.2.1,s.2.2.2))),p,())=_:=Al1.val s p hs hp;have T:Af7.F (s,p,())=Af7.T s.1 s.2.1 s.2.2.1 s.2.2.2 p:=Af7.eq _ _ _ _ _;rw[T,Af7.T,a1];simp only[Option.bind_some,A6V h hc hi]
theorem both_ok {a:List (List Int)} {b:List (List Int)} (ha:CplxOk a) (hb:CplxOk b):CplxOk (both a b):=by
 have hso:=A2r b ha.sorted;have hmem:∀ t,t∈both a b↔t∈a/\t∈b:=fun t=>by simp[both]
 have hle:(both a b).length≤a.length:=List.length_filter_le _ _;have hn:=ha.1;refine⟨by omega,fun i hi=>?_⟩;obtain⟨m1,m2⟩:=(hmem _).1 (A0y [] hi);obtain⟨i1,i2⟩:=A0H m1;obtain⟨j1,j2⟩:=A0H m2;have q1:=ha.2 _ i1;have q2:=hb.2 _ j1;rw[i2]at q1;rw[j2]at q2;exact⟨q1.1,fun h0=>hso _ _ (by omega) hi,fun h1 k hk=>(hmem _).2 ⟨q1.2.2 h1 k hk,q2.2.2 h1 k hk⟩⟩
theorem both_in {a b:List (List Int)}:IsIn (both a b) a/\IsIn (both a b) b:=⟨fun t ht=>(by simp[both]at ht;exact ht.1),fun t ht=>(by simp[both]at ht;exact ht.2)⟩
noncomputable def A3Q (s:ShfV) (a b:List (List Int)):List (List Int):=[(cohV s).1,(cohV (rstS s a)).1,(cohV (rstS s b)).1,(cohV (rstS s (both a b))).1]
noncomputable def covV (s:ShfV) (a b:List (List Int)):List (List Int)×Int:=if covC s a b≠0 then([],covC s a b)else(A3Q s a b,0)
structure CovRst (s:ShfV) (a b:List (List Int)):Prop where
 c:CovAt s a b
 hB:CplxOk (both a b)
 iB:IsIn (both a b) s.1
 s1:SmSh s
 s2:SmSh (rstS s a)
 s3:SmSh (rstS s b)
 s4:SmSh (rstS s (both a b))
theorem A6g {s:ShfV} {a b:List (List Int)} (h:covC s a b=0):CovRst s a b:=by
 have c:=covAt h;have hB:=both_ok c.ha c.hb;have iB:IsIn (both a b) s.1:=fun t ht=>c.ia t (both_in.1 t ht);exact⟨c,hB,iB,A1R c.s1.1,A1R (A5l c.s1.1 c.ha c.ia),A1R (A5l c.s1.1 c.hb c.ib),A1R (A5l c.s1.1 hB iB)⟩
theorem Ah5.val {s:ShfV} {a b:List (List Int)} (h:CovRst s a b):Ah5.F (s,a,b,())=some ((A3Q s a b,()),()):=by
 have c:=h.c;refine Ah5.of s.1 s.2.1 s.2.2.1 s.2.2.2 a b ?_;have r1:Ai5.F ((s.1,(s.2.1,(s.2.2.1,s.2.2.2))),a,())=some ((rstS s a,()),()):=A2L c.s1.1 c.ha c.ia;have r2:Ai5.F ((s.1,(s.2.1,(s.2.2.1,s.2.2.2))),b,())=some ((rstS s b,()),()):=A2L c.s1.1 c.hb c.ib;have r3:Ai5.F ((s.1,(s.2.1,(s.2.2.1,s.2.2.2))),both a b,())=some ((rstS s (both a b),()),()):=A2L c.s1.1 h.hB h.iB;have m:=Ap1.val a b c.ha.small c.hb.small c.ha.sorted c.hb.sorted;have d1:=fun(t:ShfV) (ht:SmSh t)=>Ag1.val t ht;have d1':∀ t:ShfV,SmSh t->Ag1.F ((t.1,(t.2.1,(t.2.2.1,t.2.2.2))),())=some (((cohV t).1,(cohV t).2,()),()):=d1;obtain⟨x,hx,hg⟩:=Goes.loop (R:=((List (List Int)×Unit)×Unit)) (fun k i (x:List (List Int))=>Ah5.l3 k 4 (i:Int) x [s,rstS s a,rstS s b,rstS s (both a b)]) 4 (fun i x=>x=(A3Q s a b).take i) (fun i x hi h2=>⟨_,rfl,Goes.succ fun k=>by
   have hb4:x.length+1≤bigA:=by rw[h2,List.length_take];simp only[bigA];omega
   have hd:∀ t,[s,rstS s a,rstS s b,rstS s (both a b)].getD i ([],0,[],[])=t->SmSh t->Ah5.l3 (k+1) 4 (i:Int) x [s,rstS s a,rstS s b,rstS s (both a b)]=Ah5.l3 k 4 ((i+1:Nat):Int) (x++[(cohV t).1]) [s,rstS s a,rstS s b,rstS s (both a b)]:=fun t ht hst=>by
     rw[Ah5.l3_eq,if_pos (by simp only[decide_eq_true_eq];omega),if_pos (by simp only[List.length_cons,List.length_nil];omega)];simp only[Int.toNat_natCast,ht];rw[d1' t hst];simp only[Option.bind_some];rw[if_pos (show x.length+[(cohV t).1].length≤bigA from hb4),A0x (by omega)]
   have hcase:i=0∨i=1∨i=2∨i=3:=by omega
   rcases hcase with rfl|rfl|rfl|rfl
   . rw[hd s rfl h.s1,h2];rfl
   . rw[hd (rstS s a) rfl h.s2,h2];rfl
   . rw[hd (rstS s b) rfl h.s3,h2];rfl
   . rw[hd (rstS s (both a b)) rfl h.s4,h2];rfl⟩) 0 [] (Nat.zero_le _) rfl
 refine Ev.of_eq (hg _ ((Ev.const _).succ fun k=>?_)) fun k=>?_
 . rw[Ah5.l3_eq,if_neg (by decide),hx];rfl
 . rw[Ah5.T,r1];simp only[Option.bind_some];rw[r2];simp only[Option.bind_some];rw[m];simp only[Option.bind_some];rw[r3];rfl
theorem Al6.val {s:ShfV} {a b:List (List Int)} (h:CovRst s a b):Al6.F (s,a,b,())=some ((A3Q s a b,()),()):=by
 have c:=h.c;have T:Al6.F (s,a,b,())=Al6.T s.1 s.2.1 s.2.2.1 s.2.2.2 a b:=Al6.eq _ _ _ _ _ _;have r1:Af7.F ((s.1,(s.2.1,(s.2.2.1,s.2.2.2))),a,())=some ((rstS s a,()),()):=Af7.val h.s1 c.ha.small c.s1 c.ha c.ia;have r2:Af7.F ((s.1,(s.2.1,(s.2.2.1,s.2.2.2))),b,())=some ((rstS s b,()),()):=Af7.val h.s1 c.hb.small c.s1 c.hb c.ib;have r3:Af7.F ((s.1,(s.2.1,(s.2.2.1,s.2.2.2))),both a b,())=some ((rstS s (both a b),()),()):=Af7.val h.s1 h.hB.small c.s1 h.hB h.iB;have d0:Ad8.F ((s.1,(s.2.1,(s.2.2.1,s.2.2.2))),())=some (((cohV s).1,(cohV s).2,()),()):=Ad8.val s h.s1;have d1:=Ad8.val _ h.s2;have d2:=Ad8.val _ h.s3;have d3:=Ad8.val _ h.s4;rw[T,Al6.T,Ad2.val a b c.ha.small c.hb.small];simp only[Option.bind_some];rw[d0];simp only[Option.bind_some];rw[if_pos (by simp only[List.length_cons,List.length_nil,bigA];omega),r1];simp only[Option.bind_some];rw[d1];simp only[Option.bind_some];rw[if_pos (by simp only[List.nil_append,List.length_cons,List.length_nil,bigA];omega),r2];simp only[Option.bind_some];rw[d2];simp only[Option.bind_some];rw[if_pos (by simp only[List.length_append,List.length_cons,List.length_nil,bigA];omega),r3];simp only[Option.bind_some];rw[d3];simp only[Option.bind_some];rw[if_pos (by simp only[List.length_append,List.length_cons,List.length_nil,bigA];omega)];rfl
theorem A4J (s:ShfV) (a b:List (List Int)):SmL (A3Q s a b):=by
 refine⟨by simp[A3Q],fun x hx=>?_⟩;simp only[A3Q,List.mem_cons,List.not_mem_nil,or_false]at hx;unfold Sm;rcases hx with rfl|rfl|rfl|rfl
 all_goals exact Nat.le_trans (A6k _) (by omega)
theorem A2E (s:ShfV) (a b:List (List Int)):SmL (covV s a b).1:=by
 unfold covV;split
 . exact⟨by simp,by simp⟩
 . exact A4J s a b
theorem Ap9.val (m:MatV) (l:Int) (h0:0≤l) (h1:l≤1048576) (hx:m.2.2.2.length≤maxLen):∃ r,Ap9.F (m,l,())=some ((r,()),())/\(r=-1∨0≤r/\r≤l/\SmM m):=by
 obtain⟨a,b,c,xs⟩:=m;obtain⟨r,h2,h3⟩:=Af2.val xs l h0 h1 hx;rw[Ap9.eq,Ap9.T,h2];simp only[Option.bind_some];rcases h3 with rfl|⟨a,b,c⟩
 . exact⟨-1,by rw[if_pos (by simp)],.inl rfl⟩
 . exact⟨r,by rw[if_neg (by simp;omega)],.inr ⟨a,b,c⟩⟩
theorem Ai8.val (xs:List MatV) (l:Int) (h0:0≤l) (h1:l≤1048576) (hx:xs.length≤maxLen) (hr:∀ x∈xs,x.2.2.2.length≤maxLen):∃ r,Ai8.F (xs,l,())=some ((r,()),())/\(r=-1∨0≤r/\r≤l/\SmMs xs):=by
 have:xs.length≤9223372036854775807:=hx;by_cases h:l<xs.length
 . exact⟨-1,Ai8.of _ _ ((Ev.const _).of_eq fun k=>by rw[Ai8.T,A0j (by omega) (by omega),if_pos (by simp;omega)]),.inl rfl⟩
 obtain⟨r,hv,h2⟩:=A5u (fun k i s=>Ai8.l5 k xs s (i:Int)) xs (0,0,0,[]) SmM (fun i s hi s0 s1=>by
   have E:=fun k=>Ai8.l5_eq k xs s (i:Int);obtain⟨r,hr1,hr2⟩:=Ap9.val (xs.getD i (0,0,0,[])) s s0 s1 (hr _ (A0y _ hi));simp only[if_pos (ltI.2 hi),if_pos (idxI.2 hi),Int.toNat_natCast,hr1,Option.bind_some,A0x (show i<4611686018427387904 by omega)]at E;rcases hr2 with rfl|⟨a,b,c⟩
   . exact .inr fun k=>by rw[E,if_pos (by simp)]
   . exact .inl ⟨r,a,b,c,fun k=>by rw[E,if_neg (by simp;omega)]⟩) (fun k l=>by rw[Ai8.l5_eq,if_neg (by simp)]) (l-xs.length) (by omega) (by omega)
 refine⟨r,Ai8.of _ _ (hv.of_eq fun k=>by rw[Ai8.T,A0j (by omega) (by omega),if_neg (by simp;omega)];rfl),?_⟩;rcases h2 with h2|⟨a,b,c⟩
 . exact .inl h2
 . exact .inr ⟨a,by omega,by omega,c⟩
theorem Aq0.val (m:MatV) (h:SmM m):Aq0.F (m,())=some ((m,()),()):=by
 obtain⟨a,b,c,xs⟩:=m;have hs:xs.length≤1048576:=h;rw[Aq0.eq,Aq0.T,Ad7.val xs (by omega)];rfl
theorem Ak8.val (xs:List MatV) (h:SmMs xs):Ak8.F (xs,())=some ((xs,()),()):=by
 have hl:=h.1;refine Ak8.of xs ?_;have:=Goes.fill (L:=fun k i ys=>Ak8.l3 k xs (i:Int) ys) xs (0,0,0,[]) (fun k i ys hi hy=>by
   rw[Ak8.l3_eq,if_pos (ltI.2 hi),if_pos (idxI.2 hi)];simp only[Int.toNat_natCast,Aq0.val _ (h.2 _ (A0y (0,0,0,[]) hi)),Option.bind_some];rw[if_pos (by omega),A0x (by omega)]) (List.replicate xs.length (0,0,0,[])) (by simp)
 refine Ev.of_eq (this _ ((Ev.const _).succ fun k=>?_)) fun k=>?_
 . rw[Ak8.l3_eq,if_neg (by simp)]
 . rw[Ak8.T,if_pos (by simp only[bigN];omega)];rfl
theorem Ap6.same (m n:MatV) (h:SmM m):∃ b,Ap6.F (m,n,())=some ((b,()),())/\(b=true↔m=n):=by
 obtain⟨a,b,c,xs⟩:=m;obtain⟨a',b',c',ys⟩:=n;have hs:xs.length≤1048576:=h;obtain⟨e,he,he'⟩:=Ac7.val xs ys (by omega);rw[Ap6.eq,Ap6.T,he];simp only[Option.bind_some,Prod.mk.injEq];by_cases h1:a=a'
 . by_cases h2:b=b'
   . by_cases h3:c=c'
     . rw[if_neg (by simp[h1]),if_neg (by simp[h2]),if_neg (by simp[h3])];exact⟨e,by cases e<;>rfl,by simp[h1,h2,h3,he']⟩
     . exact⟨false,by rw[if_neg (by simp[h1]),if_neg (by simp[h2]),if_pos (by simp[h3])],by simp[h3]⟩
   . exact⟨false,by rw[if_neg (by simp[h1]),if_pos (by simp[h2])],by simp[h2]⟩
 . exact⟨false,by rw[if_pos (by simp[h1])],by simp[h1]⟩
theorem Ai6.same (xs ys:List MatV) (h:SmMs xs):∃ b,Ai6.F (xs,ys,())=some ((b,()),())/\(b=true↔xs=ys):=by
 have hn:=h.1;by_cases hl:xs.length=ys.length
 . obtain⟨b,hb,hb'⟩:=A1E (fun k i=>Ai6.l4 k xs ys (i:Int)) xs ys (0,0,0,[]) hl (fun i hi=>by
     obtain⟨c,hc,hc'⟩:=Ap6.same (xs.getD i (0,0,0,[])) (ys.getD i (0,0,0,[])) (h.2 _ (A0y _ hi));exact⟨c,hc',fun k=>by rw[Ai6.l4_eq,if_pos (ltI.2 hi),if_pos (idxI.2 hi),if_pos (idx2 (hl▸hi))];simp only[Int.toNat_natCast,hc,Option.bind_some];rw[A0x (by omega)]⟩) (fun k=>by rw[Ai6.l4_eq,if_neg (by simp)])
   exact⟨b,Ai6.of _ _ (hb.of_eq fun k=>by rw[Ai6.T,if_neg (by simp[hl])];rfl),hb'⟩
 . exact⟨false,Ai6.of _ _ ((Ev.const _).of_eq fun k=>by rw[Ai6.T,if_pos (by simp;omega)]),by simp;intro e;exact hl (by rw[e])⟩
theorem shf_wf {s:ShfV} (h:wfT (.pair (.sl (.sl (.int .i64))) (.pair (.int .i64) (.pair (.sl (.int .i64)) (.sl (.pair (.int .i64) (.pair (.int .i64) (.pair (.int .i64) (.sl (.int .i64))))))))) s):s.1.length≤maxLen/\(∀ x∈s.1,x.length≤maxLen)/\s.2.2.1.length≤maxLen/\s.2.2.2.length≤maxLen/\∀ x∈s.2.2.2,x.2.2.2.length≤maxLen:=by
 obtain⟨a,p,b,c⟩:=s;obtain⟨⟨h1,h2⟩,_,⟨h3,_⟩,h4,h5⟩:=h;exact⟨h1,fun x hx=>(h2 x hx).1,h3,h4,fun x hx=>(h5 x hx).2.2.2.1⟩
theorem An3.val (s:ShfV) (l:Int) (h0:0≤l) (h1:l≤1048576) (w1:s.1.length≤maxLen) (w2:∀ x∈s.1,x.length≤maxLen) (w3:s.2.2.1.length≤maxLen) (w4:s.2.2.2.length≤maxLen) (w5:∀ x∈s.2.2.2,x.2.2.2.length≤maxLen):∃ r,An3.F (s,l,())=some ((r,()),())/\(r=-1∨0≤r/\r≤l/\SmSh s):=by
 obtain⟨a,p,b,c⟩:=s;obtain⟨r1,e1,k1⟩:=Ah0.val a l h0 h1 w1 w2;rw[An3.eq,An3.T,e1];simp only[Option.bind_some];rcases k1 with rfl|⟨a1,b1,c1⟩
 . exact⟨-1,by rw[if_pos (by simp)],.inl rfl⟩
 rw[if_neg (by simp;omega)];obtain⟨r2,e2,k2⟩:=Af2.val b r1 a1 (by omega) w3;rw[e2];simp only[Option.bind_some];rcases k2 with rfl|⟨a2,b2,c2⟩
 . exact⟨-1,by rw[if_pos (by simp)],.inl rfl⟩
 rw[if_neg (by simp;omega)];obtain⟨r3,e3,k3⟩:=Ai8.val c r2 a2 (by omega) w4 w5;rw[e3];simp only[Option.bind_some];rcases k3 with rfl|⟨a3,b3,c3⟩
 . exact⟨-1,by rw[if_pos (by simp)],.inl rfl⟩
 exact⟨r3,by rw[if_neg (by simp;omega)],.inr ⟨a3,by omega,c1,c2,c3⟩⟩
theorem Aj8.val (s:ShfV) (h:SmSh s):Aj8.F (s,())=some ((s,()),()):=by
 obtain⟨a,p,b,c⟩:=s;obtain⟨h1,h2,h3⟩:=h;have h2':b.length≤1048576:=h2;rw[Aj8.eq,Aj8.T,Ad6.val a h1,Ad7.val b (by omega),Ak8.val c h3];rfl
theorem Ap7.same (s t:ShfV) (h:SmSh s):∃ b,Ap7.F (s,t,())=some ((b,()),())/\(b=true↔s=t):=by
 obtain⟨a,p,b,c⟩:=s;obtain⟨a',p',b',c'⟩:=t;obtain⟨h1,h2,h3⟩:=h;have h2':b.length≤1048576:=h2;obtain⟨v1,e1,k1⟩:=Ag8.same a a' h1;obtain⟨v2,e2,k2⟩:=Ac7.val b b' (by omega);obtain⟨v3,e3,k3⟩:=Ai6.same c c' h3;rw[Ap7.eq,Ap7.T,e1,e2,e3];simp only[Option.bind_some,Prod.mk.injEq];by_cases hp:p=p'
 . rw[show(p !=p')=false by simp[hp]];refine⟨v1&&v2&&v3,by cases v1<;>cases v2<;>cases v3<;>rfl,?_⟩;simp only[Bool.and_eq_true,k1,k2,k3,hp,true_and,and_assoc]
 . rw[show(p !=p')=true by simp[hp]];exact⟨false,by cases v1<;>rfl,by simp[hp]⟩
def A2p (ys:List Int) (k:Int):Prop:=∀ j,j<ys.length->ys.getD j 0=k+j
theorem Ae3.val (xs:List Int) (k0:Int) (h0:0≤k0) (h1:k0+xs.length≤4611686018427387904):∃ ys,Ae3.F (xs,k0,())=some ((k0+xs.length,()),(ys,()))/\ys.length=xs.length/\A2p ys k0:=by
 obtain⟨⟨v,ys⟩,⟨hv,hl,hm⟩,hg⟩:=Goes.loop (R:=(Int×Unit)×(List Int×Unit)) (fun k i (s:Int×List Int)=>Ae3.l2 k s.1 (i:Int) s.2) xs.length (fun i s=>s.1=k0+i/\s.2.length=xs.length/\∀ j,j<i->s.2.getD j 0=k0+j)
   (fun i s hi ⟨h2,h3,h4⟩=>⟨(s.1+1,s.2.set i s.1),⟨by simp only[];omega,by simp[h3],fun j hj=>by
     simp only[List.getD_eq_getElem?_getD,List.getElem?_set];by_cases hij:i=j
     . subst hij;simp[h3,hi,h2]
     . have:=h4 j (by omega);simp only[List.getD_eq_getElem?_getD]at this;simp[hij,this]⟩,Goes.succ fun k=>by
     rw[Ae3.l2_eq,if_pos (by simp;omega),if_pos (by omega),A0j (by omega) (by omega),A0x (by omega)];simp only[Int.toNat_natCast]⟩) 0 (k0,xs) (Nat.zero_le _) ⟨by simp,rfl,fun j hj=>by omega⟩
 simp only[]at hv hl hm;refine⟨ys,Ae3.of _ _ ((hg _ ((Ev.const _).succ fun k=>?_)).of_eq fun k=>rfl),hl,fun j hj=>hm j (by omega)⟩;rw[Ae3.l2_eq,if_neg (by simp;omega),hv]
theorem Am2.val (ys:List Int) (k0:Int) (h0:0≤k0) (h1:k0+ys.length≤4611686018427387904) (hm:A2p ys k0):Am2.F (ys,k0,())=some ((k0+ys.length,()),()):=by
 obtain⟨v,hv,hg⟩:=Goes.loop (R:=(Int×Unit)×Unit) (fun k i (s:Int)=>Am2.l2 k ys s (i:Int)) ys.length (fun i s=>s=k0+i)
   (fun i s hi h2=>⟨s+1,by omega,Goes.succ fun k=>by
     rw[Am2.l2_eq,if_pos (ltI.2 hi),if_pos (idxI.2 hi),if_neg (by simp only[Int.toNat_natCast];rw[hm i hi,h2];simp),A0j (by omega) (by omega),A0x (by omega)]⟩) 0 k0 (Nat.zero_le _) (by simp)
 refine Am2.of _ _ ((hg _ ((Ev.const _).succ fun k=>?_)).of_eq fun k=>rfl);rw[Am2.l2_eq,if_neg (by simp),hv]
def mkI (n:Nat) (k:Int):List Int:=(List.range n).map fun(j:Nat)=>k+(j:Int)
theorem A5x (n:Nat) (k:Int):(mkI n k).length=n:=by simp[mkI]
theorem A5v (n:Nat) (k:Int):A2p (mkI n k) k:=fun j hj=>by
 rw[A5x]at hj;simp[mkI,List.getD_eq_getElem?_getD,hj]
theorem mkI_of {ys:List Int} {k:Int} (h:A2p ys k):ys=mkI ys.length k:=by
 refine List.ext_getElem (by simp[mkI]) fun i h1 h2=>?_;rw[<-A0z (d:=0) h1,<-A0z (d:=0) h2,h i h1,A5v _ _ i h2]
def mkM (m:MatV) (k:Int):MatV:=(k,k+1,k+1+1,mkI m.2.2.2.length (k+1+1+1))
def szM (m:MatV):Nat:=3+m.2.2.2.length
def offM (ms:List MatV) (i:Nat):Nat:=((ms.take i).map szM).sum
theorem A2x {ms:List MatV} {i:Nat} (h:i<ms.length):offM ms (i+1)=offM ms i+szM (ms.getD i (0,0,0,[])):=by
 unfold offM;rw[List.take_add_one,List.getElem?_eq_getElem h,Option.toList_some,List.map_append,List.sum_append,A0z h];simp
theorem offM_le {ms:List MatV} {i j:Nat} (h:i≤j):offM ms i≤offM ms j:=by
 induction h with
 | refl=>exact Nat.le_refl _
 | @step m _ ih =>
   by_cases hm:m<ms.length
   . rw[Nat.succ_eq_add_one,A2x hm];omega
   . have:offM ms (m+1)=offM ms m:=by unfold offM;rw[List.take_of_length_le (by omega),List.take_of_length_le (by omega)]
     rw[Nat.succ_eq_add_one,this];exact ih
theorem offM_bd {ms:List MatV} (h:SmMs ms):offM ms ms.length≤1048579*1048576:=by
 have key:∀ i,i≤ms.length->offM ms i≤1048579*i:=by
   intro i;induction i with
   | zero=>intro _;simp[offM]
   | succ i ih =>
     intro hi;have h1:=ih (by omega);have h2:(ms.getD i (0,0,0,[])).2.2.2.length≤1048576:=h.2 _ (A0y _ (by omega));rw[A2x (by omega),szM];omega
 have:=key ms.length (Nat.le_refl _);have:=h.1;omega
theorem A6W {α:Type} (l:List α) (i:Nat) (x y:α):(l.set i x).set i y=l.set i y:=by rw[List.set_set]
theorem A2z {α:Type} (l:List α) (i:Nat) (x d:α) (h:i<l.length):(l.set i x).getD i d=x:=by simp[List.getD_eq_getElem?_getD,h]
theorem Am3.val (ms:List MatV) (k0:Int) (h0:0≤k0) (hx:ms.length<4611686018427387904) (h1:k0+offM ms ms.length≤4611686018427387904) :
   ∃ ys,Am3.F (ms,k0,())=some ((k0+offM ms ms.length,()),(ys,()))/\ys.length=ms.length/\∀ j,j<ms.length->ys.getD j (0,0,0,[])=mkM (ms.getD j (0,0,0,[])) (k0+offM ms j):=by
 obtain⟨⟨v,ys⟩,⟨hv,hl,hm,-⟩,hg⟩:=Goes.loop (R:=(Int×Unit)×(List MatV×Unit)) (fun k i (s:Int×List MatV)=>Am3.l2 k s.1 (i:Int) s.2) ms.length
   (fun i s=>s.1=k0+offM ms i/\s.2.length=ms.length/\(∀ j,j<i->s.2.getD j (0,0,0,[])=mkM (ms.getD j (0,0,0,[])) (k0+offM ms j))/\∀ j,i≤j->s.2.getD j (0,0,0,[])=ms.getD j (0,0,0,[]))
   (fun i s hi ⟨h2,h3,h4,h5⟩=>by
     have hle:=offM_le (ms:=ms) (show i+1≤ms.length by omega);rw[A2x hi,szM]at hle;obtain⟨m,hm⟩:∃ m,ms.getD i (0,0,0,[])=m:=⟨_,rfl⟩;rw[hm]at hle;obtain⟨ys,e1,e2,e3⟩:=Ae3.val m.2.2.2 (s.1+1+1+1) (by omega) (by omega);have e4:ys=mkI m.2.2.2.length (s.1+1+1+1):=by rw[<-e2];exact mkI_of e3
     have w1:IntKind.i64.wrap (s.1+1)=s.1+1:=A0j (by omega) (by omega);have w2:IntKind.i64.wrap (s.1+1+1)=s.1+1+1:=A0j (by omega) (by omega);have w3:IntKind.i64.wrap (s.1+1+1+1)=s.1+1+1+1:=A0j (by omega) (by omega);have hsi:s.2.getD i (0,0,0,[])=m:=by rw[h5 i (Nat.le_refl _),hm]
     have hil:i<s.2.length:=by omega
     refine⟨(s.1+1+1+1+m.2.2.2.length,s.2.set i (mkM m s.1)),⟨by simp only[];rw[A2x hi,hm,szM];omega,by simp[h3],fun j hj=>?_,fun j hj=>?_⟩,Goes.succ fun k=>?_⟩
     . by_cases hij:i=j
       . subst hij;simp only[];rw[A2z _ _ _ _ hil,hm,h2]
       . have:=h4 j (by omega);simp only[List.getD_eq_getElem?_getD,List.getElem?_set]at this ⊢;rw[if_neg hij];exact this
     . have:=h5 j (by omega);simp only[List.getD_eq_getElem?_getD,List.getElem?_set]at this ⊢;rw[if_neg (by omega)];exact this
     . rw[Am3.l2_eq,if_pos (by simp;omega),if_pos (by omega)];simp only[Int.toNat_natCast,hsi,A6W,A2z _ _ _ _ hil,List.length_set,w1,w2,w3];rw[if_pos (by omega),if_pos (by omega),if_pos (by omega),e1];simp only[Option.bind_some];rw[A0x (by omega),e4];rfl) 0 (k0,ms) (Nat.zero_le _) ⟨by simp[offM],rfl,fun j hj=>by omega,fun _ _=>rfl⟩
 simp only[]at hv hl hm;refine⟨ys,Am3.of _ _ ((hg _ ((Ev.const _).succ fun k=>?_)).of_eq fun k=>rfl),hl,hm⟩;rw[Am3.l2_eq,if_neg (by simp;omega),hv]
def offs (xs:List (List Int)) (i:Nat):Nat:=((xs.take i).map List.length).sum
theorem A1B {xs:List (List Int)} {i:Nat} (h:i<xs.length):offs xs (i+1)=offs xs i+(xs.getD i []).length:=by
 unfold offs;rw[List.take_add_one,List.getElem?_eq_getElem h,Option.toList_some,List.map_append,List.sum_append,A0z h];simp
theorem A5Z {xs:List (List Int)} {i j:Nat} (h:i≤j):offs xs i≤offs xs j:=by
 induction h with
 | refl=>exact Nat.le_refl _
 | @step m _ ih =>
   by_cases hm:m<xs.length
   . rw[Nat.succ_eq_add_one,A1B hm];omega
   . have:offs xs (m+1)=offs xs m:=by unfold offs;rw[List.take_of_length_le (by omega),List.take_of_length_le (by omega)]
     rw[Nat.succ_eq_add_one,this];exact ih
theorem Af8.val (xs:List (List Int)) (k0:Int) (h0:0≤k0) (hx:xs.length<4611686018427387904) (h1:k0+offs xs xs.length≤4611686018427387904) :
   ∃ ys,Af8.F (xs,k0,())=some ((k0+offs xs xs.length,()),(ys,()))/\ys.length=xs.length/\∀ j,j<xs.length->(ys.getD j []).length=(xs.getD j []).length/\A2p (ys.getD j []) (k0+offs xs j):=by
 obtain⟨⟨v,ys⟩,⟨hv,hl,hm,-⟩,hg⟩:=Goes.loop (R:=(Int×Unit)×(List (List Int)×Unit)) (fun k i (s:Int×List (List Int))=>Af8.l2 k s.1 (i:Int) s.2) xs.length
   (fun i s=>s.1=k0+offs xs i/\s.2.length=xs.length/\(∀ j,j<i->(s.2.getD j []).length=(xs.getD j []).length/\A2p (s.2.getD j []) (k0+offs xs j))/\∀ j,i≤j->s.2.getD j []=xs.getD j [])
   (fun i s hi ⟨h2,h3,h4,h5⟩=>by
     have hle:=A5Z (xs:=xs) (show i+1≤xs.length by omega);rw[A1B hi]at hle;obtain⟨ys,e1,e2,e3⟩:=Ae3.val (s.2.getD i []) s.1 (by omega) (by rw[h5 i (Nat.le_refl _),h2];omega);rw[h5 i (Nat.le_refl _)]at e1 e2;refine⟨(s.1+(xs.getD i []).length,s.2.set i ys),⟨by simp only[];rw[A1B hi];omega,by simp[h3],fun j hj=>?_,fun j hj=>?_⟩,Goes.succ fun k=>?_⟩
     . simp only[List.getD_eq_getElem?_getD,List.getElem?_set];by_cases hij:i=j
       . subst hij;simp only[h3,hi,if_true,Option.getD_some];exact⟨by rw[e2,List.getD_eq_getElem?_getD],by rw[<-h2];exact e3⟩
       . have:=h4 j (by omega);simp only[List.getD_eq_getElem?_getD]at this;simpa[hij]using this
     . have:=h5 j (by omega);simp only[List.getD_eq_getElem?_getD,List.getElem?_set]at this ⊢;rw[if_neg (by omega)];exact this
     . rw[Af8.l2_eq,if_pos (by simp;omega),if_pos (by omega)];simp only[Int.toNat_natCast,h5 i (Nat.le_refl _),e1,Option.bind_some];rw[A0x (by omega)]) 0 (k0,xs) (Nat.zero_le _) ⟨by simp[offs],rfl,fun j hj=>by omega,fun _ _=>rfl⟩
 simp only[]at hv hl hm;refine⟨ys,Af8.of _ _ ((hg _ ((Ev.const _).succ fun k=>?_)).of_eq fun k=>rfl),hl,hm⟩;rw[Af8.l2_eq,if_neg (by simp;omega),hv]
theorem Aj7.val (xs ys:List (List Int)) (k0:Int) (h0:0≤k0) (hx:xs.length<4611686018427387904) (h1:k0+offs xs xs.length≤4611686018427387904) (hl:ys.length=xs.length)
   (hm:∀ j,j<xs.length->(ys.getD j []).length=(xs.getD j []).length/\A2p (ys.getD j []) (k0+offs xs j)):Aj7.F (ys,k0,())=some ((k0+offs xs xs.length,()),()):=by
 obtain⟨v,hv,hg⟩:=Goes.loop (R:=(Int×Unit)×Unit) (fun k i (s:Int)=>Aj7.l2 k ys s (i:Int)) xs.length (fun i s=>s=k0+offs xs i)
   (fun i s hi h2=>by
     have hle:=A5Z (xs:=xs) (show i+1≤xs.length by omega);rw[A1B hi]at hle;obtain⟨e1,e2⟩:=hm i hi;have e3:=Am2.val (ys.getD i []) s (by omega) (by rw[e1,h2];omega) (by rw[h2];exact e2);refine⟨s+(xs.getD i []).length,by rw[A1B hi];omega,Goes.succ fun k=>?_⟩;rw[Aj7.l2_eq,if_pos (by simp;omega),if_pos (by omega)];simp only[Int.toNat_natCast,e3,Option.bind_some];rw[if_neg (by simp;omega),A0x (by omega),e1]) 0 k0 (Nat.zero_le _) (by simp[offs])
 refine Aj7.of _ _ ((hg _ ((Ev.const _).succ fun k=>?_)).of_eq fun k=>rfl);rw[Aj7.l2_eq,if_neg (by simp;omega),hv]
theorem A4T (xs:List (List Int)) (hx:xs.length<4611686018427387904) (h1:offs xs xs.length≤4611686018427387903):∃ ys v,Af8.F (xs,1,())=some ((v,()),(ys,()))/\Aj7.F (ys,1,())=some ((v,()),())/\0≤v:=by
 obtain⟨ys,h2,h3,h4⟩:=Af8.val xs 1 (by omega) hx (by omega);exact⟨ys,_,h2,Aj7.val xs ys 1 (by omega) hx (by omega) h3 h4,by omega⟩
theorem A5Y {xs:List (List Int)} (h:SmL xs):offs xs xs.length≤1048576*1048576:=by
 have key:∀ i,i≤xs.length->offs xs i≤1048576*i:=by
   intro i;induction i with
   | zero=>intro _;simp[offs]
   | succ i ih =>
     intro hi;have h1:=ih (by omega);have h2:(xs.getD i []).length≤1048576:=h.2 _ (A0y _ (by omega));rw[A1B (by omega)];omega
 have:=key xs.length (Nat.le_refl _);have:=h.1;omega
theorem Ag9.some (c:List (List Int)) (k0:Int) (h:SmL c) (h0:0≤k0) (h1:k0≤1152921504606846976):∃ v ys,Ag9.F (c,k0,())=some ((v,()),(ys,()))/\k0≤v/\v≤k0+1099511627776:=by
 have b:=A5Y h;have hl:=h.1;obtain⟨ys,e,_⟩:=Af8.val c k0 h0 (by omega) (by omega);rw[Ag9.eq,Ag9.T,e];exact⟨k0+((offs c c.length:Nat):Int),_,rfl,by omega,by omega⟩
theorem Ap8.some (s:ShfV) (k0:Int) (h:SmSh s) (h0:0≤k0) (h1:k0≤576460752303423488):∃ v ys,Ap8.F (s,k0,())=some ((v,()),(ys,()))/\k0≤v/\v≤k0+8796093022208:=by
 obtain⟨c,p,st,ms⟩:=s;obtain⟨hc,hst,hms⟩:=h;have hst:st.length≤1048576:=hst;have hml:=hms.1;have b:=offM_bd hms;obtain⟨v1,y1,e1,a1,b1⟩:=Ag9.some c k0 hc h0 (by omega);obtain⟨y2,e2,_⟩:=Ae3.val st v1 (by omega) (by omega);obtain⟨y3,e3,_⟩:=Am3.val ms (v1+st.length) (by omega) (by have:ms.length≤1048576:=hml;omega) (by have:offM ms ms.length≤1048579*1048576:=b;omega);rw[Ap8.eq,Ap8.T,e1];simp only[Option.bind_some,e2,e3];have:offM ms ms.length≤1048579*1048576:=b;exact⟨_,_,rfl,by omega,by omega⟩
theorem A6h {s:List (List Int)} (h:wfT (.sl (.sl (.int .i64))) s):s.length≤maxLen/\∀ x∈s,x.length≤maxLen:=⟨h.1,fun x hx=>(h.2 x hx).1⟩
theorem Ak0.val (s:ShfV) (a b:List (List Int)) (hs:SmSh s) (ha:SmL a) (hb:SmL b):Ak0.F (s,a,b,())=some (((covV s a b).1,(covV s a b).2,()),()):=by
 have T:Ak0.F (s,a,b,())=Ak0.T s.1 s.2.1 s.2.2.1 s.2.2.2 a b:=Ak0.eq _ _ _ _ _ _;have a1:Ak2.F ((s.1,(s.2.1,(s.2.2.1,s.2.2.2))),a,b,())=some ((covC s a b,()),()):=Ak2.val s a b hs ha hb;rw[T,Ak0.T,a1];simp only[Option.bind_some];by_cases h:covC s a b=0
 . have d:Ah5.F ((s.1,(s.2.1,(s.2.2.1,s.2.2.2))),a,b,())=some ((A3Q s a b,()),()):=Ah5.val (A6g h);rw[if_neg (by simp[h]),d,covV,if_neg (by simp[h])];rfl
 . rw[if_pos (by simp[h]),covV,if_pos h]
theorem Am4.val (s:ShfV) (a b:List (List Int)) (hs:SmSh s) (ha:SmL a) (hb:SmL b):Am4.F (s,a,b,())=some (((covV s a b).1,(covV s a b).2,()),()):=by
 have T:Am4.F (s,a,b,())=Am4.T s.1 s.2.1 s.2.2.1 s.2.2.2 a b:=Am4.eq _ _ _ _ _ _;have a1:Al5.F ((s.1,(s.2.1,(s.2.2.1,s.2.2.2))),a,b,())=some ((covC s a b,()),()):=Al5.val s a b hs ha hb;rw[T,Am4.T,a1];simp only[Option.bind_some];by_cases h:covC s a b=0
 . have d:Al6.F ((s.1,(s.2.1,(s.2.2.1,s.2.2.2))),a,b,())=some ((A3Q s a b,()),()):=Al6.val (A6g h);rw[if_neg (by simp[h]),d,covV,if_neg (by simp[h])];rfl
 . rw[if_pos (by simp[h]),covV,if_pos h]
theorem An2.pure (d:Ins An2.sig.ps) (h:wfIns An2.sig.ps d):∃ mu,An2.F d=some ((true,()),mu):=by
 obtain⟨d0,d1,d2,⟨⟩⟩:=d;obtain⟨hw0,hw1,hw2,_⟩:=h;obtain⟨w0a,w0b,w0c,w0d,w0e⟩:=shf_wf hw0;obtain⟨w1a,w1b⟩:=A6h hw1;obtain⟨w2a,w2b⟩:=A6h hw2;refine⟨(),?_⟩;have hT:An2.F (d0,d1,d2,())=An2.T d0.1 d0.2.1 d0.2.2.1 d0.2.2.2 d1 d2:=An2.eq _ _ _ _ _ _;rw[hT,An2.T];obtain⟨r0,e0,k0⟩:=An3.val d0 1048576 (by omega) (by omega) w0a w0b w0c w0d w0e;have e0:An3.F ((d0.1,(d0.2.1,(d0.2.2.1,d0.2.2.2))),1048576,())=_:=e0;rw[e0];simp only[Option.bind_some];rcases k0 with rfl|⟨a0,b0,c0⟩
 . rw[if_pos (by simp)]
 rw[if_neg (by simp;omega)];obtain⟨r1,e1,k1⟩:=Ah0.val d1 r0 a0 (by omega) w1a w1b;rw[e1];simp only[Option.bind_some];rcases k1 with rfl|⟨a1,b1,c1⟩
 . rw[if_pos (by simp)]
 rw[if_neg (by simp;omega)];obtain⟨r2,e2,k2⟩:=Ah0.val d2 r1 a1 (by omega) w2a w2b;rw[e2];simp only[Option.bind_some];rcases k2 with rfl|⟨a2,b2,c2⟩
 . rw[if_pos (by simp)]
 rw[if_neg (by simp;omega)];have t0:Aj8.F ((d0.1,(d0.2.1,(d0.2.2.1,d0.2.2.2))),())=_:=Aj8.val d0 c0;obtain⟨f0,g0,g0'⟩:=Ap7.same d0 d0 c0;obtain rfl:f0=true:=g0'.2 rfl;obtain⟨v0,s0,m0,ma0,mb0⟩:=Ap8.some d0 1 c0 (by omega) (by omega);have t1:=Ad6.val d1 c1;obtain⟨f1,g1,g1'⟩:=Ag8.same d1 d1 c1;obtain rfl:f1=true:=g1'.2 rfl;obtain⟨v1,s1,m1,ma1,mb1⟩:=Ag9.some d1 v0 c1 (by omega) (by omega);have t2:=Ad6.val d2 c2;obtain⟨f2,g2,g2'⟩:=Ag8.same d2 d2 c2;obtain rfl:f2=true:=g2'.2 rfl;obtain⟨v2,s2,m2,ma2,mb2⟩:=Ag9.some d2 v1 c2 (by omega) (by omega);obtain⟨fr,gr,gr'⟩:=Ae2.same (covV d0 d1 d2).1 (covV d0 d1 d2).1 (A2E d0 d1 d2);obtain rfl:fr=true:=gr'.2 rfl;obtain⟨ys,v,n1,n2,n3⟩:=A4T (covV d0 d1 d2).1 (by have:=(A2E d0 d1 d2).1;omega) (by have:=A5Y (A2E d0 d1 d2);omega);have q1:¬ v2<0:=by omega
 have q2:¬ v<0:=by omega
 simp[t0,g0,m0,t1,g1,m1,t2,g2,m2,Am4.val d0 d1 d2 c0 c1 c2,Ak0.val d0 d1 d2 c0 c1 c2,gr,n1,n2,q1,q2]
end Go.Proofs.YthiiohhfalmgdaaGreat
