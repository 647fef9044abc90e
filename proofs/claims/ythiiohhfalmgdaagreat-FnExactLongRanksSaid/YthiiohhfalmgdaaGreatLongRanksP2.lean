/- What the functions answer. -/
import Derived.Test.YthiiohhfalmgdaaGreatLongRanksP1
namespace Go.Proofs.YthiiohhfalmgdaaGreat
open Go Go.Vm
set_option linter.unusedVariables false
set_option linter.unusedSimpArgs false
theorem A3h {p:Int} {h:Nat} {h':Nat} {w:Nat} {E:List (List Int)} {E':List (List Int)} {P:List Int} {P':List Int} (hp:2≤p) (r:Rref p h w w E P) (r':Rref p h' w w E' P') (hs:∀ x,Null p w E x->Null p w E' x):∀ x∈P',x∈P:=fun x hx=>by
 obtain⟨j,hj,rfl⟩:=A5l r' hx;by_cases hjp:(j:Int)∈P
 . exact hjp
 . obtain⟨y,h1,h2,h3⟩:=(A3b hp r hj).1 hjp;exact absurd hx ((A3b hp r' hj).2 ⟨y,hs y h1,h2,h3⟩)
theorem A6t {p:Int} {h:Nat} {h':Nat} {w:Nat} {E:List (List Int)} {E':List (List Int)} {P:List Int} {P':List Int} (hp:2≤p) (r:Rref p h w w E P) (r':Rref p h' w w E' P') (hs:∀ x,Null p w E x↔Null p w E' x):P=P' :=
 A4g r.asc r'.asc fun x=>⟨A3h hp r' r (fun y=>(hs y).2) x,A3h hp r r' (fun y=>(hs y).1) x⟩
theorem A6r {p:Int} {a b:Int} (ha:0≤a/\a≤p-1) (hb:0≤b/\b≤p-1) (h:p ∣ a-b):a=b:=by
 have h1:=emod_self ha;have h2:=emod_self hb;have:=(Int.emod_eq_emod_iff_emod_sub_eq_zero).2 (Int.emod_eq_zero_of_dvd h);omega
theorem A5t {p:Int} {h:Nat} {h':Nat} {w:Nat} {E:List (List Int)} {E':List (List Int)} {P:List Int} {P':List Int} (hp:2≤p) (r:Rref p h w w E P) (r':Rref p h' w w E' P') (hs:∀ x,Null p w E x↔Null p w E' x):P=P'/\E.take P.length=E'.take P.length:=by
 have e:=A6t hp r r' hs;subst e;refine⟨rfl,?_⟩;have hl:=r.len;have hl':=r'.len;refine List.ext_getElem (by simp[r.ok.len,r'.ok.len];omega) fun k h1 h2=>?_;have hk:k<P.length:=by simp at h1;omega
 rw[List.getElem_take,List.getElem_take,<-A0y (d:=[]),<-A0y (d:=[])];have o1:=r.ok.at (i:=k) (by omega);have o2:=r'.ok.at (i:=k) (by omega);refine List.ext_getElem (by rw[o1.1,o2.1]) fun j h3 h4=>?_;rw[<-A0y (d:=0),<-A0y (d:=0)];have hj:j<w:=by rw[o1.1]at h3;exact h3
 show en E k j=en E' k j;by_cases hjp:(j:Int)∈P
 . obtain⟨l,hl,rfl⟩:=(A0h r j).1 hjp;by_cases e:k=l
   . subst e;rw[r.one k hk,r'.one k hk]
   . rw[r.en0 hk hl e,r'.en0 hk hl e]
 . have h5:=A2Q r (A1T r (dl j)) ((hs _).2 (A1T r' (dl j))) (fun q hq hqp=>by rw[A0p r _ hqp,A0p r' _ hqp,Int.sub_self];exact Int.dvd_zero p) (pv P k) (r.pw hk);rw[A4i r hj hjp hk,A4i r' hj hjp hk]at h5;refine(A6r (r'.ok.cell (by omega) j hj) (r.ok.cell (by omega) j hj) ?_).symm
   rwa [show-en E k j - - en E' k j=en E' k j-en E k j by omega]at h5
theorem A5b {p:Int} {h:Nat} {h':Nat} {w:Nat} {E:List (List Int)} {E':List (List Int)} {P:List Int} {P':List Int} (r:Rref p h w w E P) (r':Rref p h' w w E' P') (hp:2≤p) (hs:∀ x,Null p w E x->Null p w E' x) (hl:P.length=P'.length):∀ x,Null p w E' x->Null p w E x:=fun x hx=>by
 have e:P'=P:=(A1r r'.asc r.asc (A3h hp r r' hs)).2 hl.symm;subst e;have h1:=A1T r x;exact A4B (A2Q r' (hs _ h1) hx fun j hj hjp=>by rw[A0p r _ hjp,Int.sub_self];exact Int.dvd_zero p) h1
def rk (p:Int) (w:Nat) (R:List (List Int)):Nat:=(gjN p w R w).2.length
theorem A4r {p:Int} {w:Nat} {R:List (List Int)} {x:Nat->Int} (h:Null p w R x) {r:List Int} (hr:r∈R):p ∣ dotN w r x:=by
 obtain⟨i,hi,rfl⟩:=List.getElem_of_mem hr;have:=h i hi
 rwa [A0y hi]at this
theorem row_exp {p:Int} {h:Nat} {w:Nat} {R:List (List Int)} (hp:A0G p) (o:RowsOk p h w R) {i j:Nat} (hi:i<h) (hj:j<w) :
   p ∣ en R i j-sumN (fun k=>en (gjN p w R w).1 k j*en R i (pv (gjN p w R w).2 k)) (gjN p w R w).2.length:=by
 obtain⟨r,hn⟩:=A0O hp o w (Nat.le_refl _);generalize (gjN p w R w).1=E at *;generalize (gjN p w R w).2=P at *;by_cases hjp:(j:Int)∈P
 . obtain⟨l,hl,rfl⟩:=(A0h r j).1 hjp;rw[A0u hl fun k hk hne=>by rw[r.en0 hk hl hne,Int.zero_mul],r.one l hl,Int.one_mul,Int.sub_self];exact Int.dvd_zero p
 . have h1:=(hn _).1 (A1T r (dl j)) i (by rw[o.len];exact hi);have e:dotN w (R.getD i []) (fixV w E P (dl j))=en R i j-sumN (fun k=>en E k j*en R i (pv P k)) P.length:=by
     unfold fixV;rw[A3V,A4R,A5X hjp,A1p _ hj];congr 1;refine A0A fun k hk=>?_;rw[A4Q,A1p _ (r.pw hk),A1p _ hj]
   rwa [e]at h1
theorem rk_le {p:Int} {h:Nat} {w:Nat} {R:List (List Int)} (hp:A0G p) (o:RowsOk p h w R):rk p w R≤h:=(A0O hp o w (Nat.le_refl _)).1.len
theorem A6a {p:Int} {h:Nat} {w:Nat} {R:List (List Int)} {T:List (List Int)} (hp:A0G p) {h':Nat} (o:RowsOk p h w R) (o':RowsOk p h' w T) (hs:∀ x,Null p w R x↔Null p w T x):rk p w R=rk p w T:=by
 obtain⟨r,hn⟩:=A0O hp o w (Nat.le_refl _);obtain⟨r',hn'⟩:=A0O hp o' w (Nat.le_refl _);unfold rk;rw[A6t hp.1.1 r r' fun x=>(hn x).trans ((hs x).trans (hn' x).symm)]
theorem A4d {p:Int} {h:Nat} {w:Nat} {R:List (List Int)} {T:List (List Int)} (hp:A0G p) (o:RowsOk p h w R) (oT:RowsOk p w h T) (ht:∀ i j,i<h->j<w->en T j i=en R i j):rk p h T≤rk p w R:=by
 obtain⟨r,hn⟩:=A0O hp o w (Nat.le_refl _);have hexp:∀ i j,i<h->j<w->_:=fun i j hi hj=>row_exp hp o hi hj;unfold rk;generalize (gjN p w R w).1=E at *;generalize (gjN p w R w).2=P at *;have hC:RowsOk p P.length h (P.map fun x=>T.getD x.toNat []):=by
   refine⟨by simp,fun q hq=>?_⟩;obtain⟨x,hx,rfl⟩:=List.mem_map.1 hq;obtain⟨j,hj,rfl⟩:=A5l r hx;exact oT.at (by simpa using hj)
 have hget:∀ k,k<P.length->(P.map fun x=>T.getD x.toNat []).getD k []=T.getD (pv P k) []:=fun k hk=>by
   simp only[List.getD_eq_getElem?_getD,List.getElem?_map,pv];rw[List.getElem?_eq_getElem hk];rfl
 have hs : ∀ x,Null p h T x↔Null p h (P.map fun x=>T.getD x.toNat []) x:=fun x=>by
   constructor
   . intro hx k hk;have hk:k<P.length:=by simpa using hk
     rw[hget k hk];exact hx _ (by rw[oT.len];exact r.pw hk)
   . intro hx j hj;rw[oT.len]at hj;have e1:p ∣ dotN h (T.getD j []) x-sumN (fun i=>sumN (fun k=>en E k j*en R i (pv P k)*x i) P.length) h:=by
       unfold dotN;rw[<-A0g];refine A0S fun i hi=>?_;have h1:=hexp i j hi hj;have e2:sumN (fun k=>en E k j*en R i (pv P k)*x i) P.length=sumN (fun k=>en E k j*en R i (pv P k)) P.length*x i:=by
         rw[Int.mul_comm,<-A0U];exact A0A fun k _=>Int.mul_comm _ _
       rw[e2];have e3:(T.getD j []).getD i 0=en R i j:=ht i j hi hj;rw[e3,<-Int.sub_mul];exact Int.dvd_mul_of_dvd_left h1
     refine(A0c e1).2 ?_;rw[A1N];refine A0S fun k hk=>?_;have h2:=hx k (by simpa using hk);rw[hget k hk]at h2;have e4:sumN (fun i=>en E k j*en R i (pv P k)*x i) h=en E k j*dotN h (T.getD (pv P k) []) x:=by
       unfold dotN;rw[<-A0U];refine A0A fun i hi=>?_;have:(T.getD (pv P k) []).getD i 0=en R i (pv P k):=ht i _ hi (r.pw hk);rw[this,Int.mul_assoc]
     rw[e4];exact Int.dvd_mul_of_dvd_right h2
 have h1:=A6a hp oT hC hs;have h2:=rk_le hp hC;unfold rk at h1 h2;omega
def A0q (w:Nat) (P:List Int):List Nat:=(List.range w).filter fun j:Nat=>decide ((j:Int)∉P)
theorem freeL_mem {w:Nat} {P:List Int} {j:Nat}:j∈A0q w P↔j<w/\(j:Int)∉P:=by
 unfold A0q;rw[List.mem_filter,List.mem_range,decide_eq_true_eq]
theorem A5T (w:Nat) (P:List Int):(A0q w P).Pairwise (·<·):=List.pairwise_lt_range.sublist List.filter_sublist
theorem A4h:∀ {l:List Nat},l.Pairwise (·<·)->(l.map fun j:Nat=>(j:Int)).Pairwise (·<·):=fun h=>by
 rw[List.pairwise_map];exact h.imp fun h=>by omega
theorem A4v {p:Int} {h w:Nat} {E:List (List Int)} {P:List Int} (r:Rref p h w w E P):(A0q w P).length+P.length=w:=by
 have h1:(((List.range w).filter fun j:Nat=>decide ((j:Int)∈P)).map fun j:Nat=>(j:Int))=P:=by
   refine A4g (A4h (List.pairwise_lt_range.sublist List.filter_sublist)) r.asc fun x=>?_;simp only[List.mem_map,List.mem_filter,List.mem_range,decide_eq_true_eq];constructor
   . rintro⟨j,⟨_,h⟩,rfl⟩;exact h
   . intro hx;obtain⟨j,hj,rfl⟩:=A5l r hx;exact⟨j,⟨hj,hx⟩,rfl⟩
 have h2:=congrArg List.length h1;rw[List.length_map]at h2;have h3:∀ l:List Nat,(l.filter fun j:Nat=>decide ((j:Int)∉P)).length+(l.filter fun j:Nat=>decide ((j:Int)∈P)).length=l.length:=by
   intro l;induction l with
   | nil=>rfl
   | cons a l ih =>
     simp only[List.filter_cons];by_cases ha:(a:Int)∈P<;>simp[ha]<;>simp at ih<;>omega
 have h4:=h3 (List.range w);rw[List.length_range]at h4;unfold A0q;omega
structure KerOk (p:Int) (w:Nat) (E:List (List Int)) (P:List Int) (K:List (List Int)):Prop where
 ok:RowsOk p (A0q w P).length w K
 val:∀ i,i<(A0q w P).length->∀ q,q<w->p ∣ en K i q-fixV w E P (dl ((A0q w P).getD i 0)) q
theorem A4T {w:Nat} {P:List Int} {i:Nat} (hi:i<(A0q w P).length):(A0q w P).getD i 0<w/\(((A0q w P).getD i 0:Nat):Int)∉P:=freeL_mem.1 (A0z 0 hi)
theorem A6N {w:Nat} {P:List Int} {i l:Nat} (hi:i<(A0q w P).length) (hl:l<(A0q w P).length) (e:(A0q w P).getD i 0=(A0q w P).getD l 0):i=l:=by
 have ha:=A5T w P;rw[List.pairwise_iff_getElem]at ha;rw[A0y hi,A0y hl]at e;rcases Nat.lt_trichotomy i l with h|h|h
 . have:=ha i l hi hl h;omega
 . exact h
 . have:=ha l i hl hi h;omega
theorem A6S {p:Int} {h:Nat} {w:Nat} {E:List (List Int)} {P:List Int} {K:List (List Int)} (r:Rref p h w w E P) (k:KerOk p w E P K) {i:Nat} (hi:i<(A0q w P).length):Null p w E (fun q=>en K i q) :=
 A4B (fun q hq=>by have:=Int.dvd_neg.2 (k.val i hi q hq);rwa [Int.neg_sub]at this) (A1T r (dl ((A0q w P).getD i 0)))
theorem A2m {p:Int} {h:Nat} {w:Nat} {E:List (List Int)} {P:List Int} {K:List (List Int)} (r:Rref p h w w E P) (k:KerOk p w E P K) {i l:Nat} (hi:i<(A0q w P).length) (hl:l<(A0q w P).length):p ∣ en K i ((A0q w P).getD l 0)-(if l=i then 1 else 0):=by
 obtain⟨h1,h2⟩:=A4T hl;have:=k.val i hi _ h1;rw[A0p r _ h2,dl]at this;by_cases e:l=i
 . subst e;rwa [if_pos rfl]at this ⊢
 . rw[if_neg e]
   rwa [if_neg (fun e'=>e (A6N hl hi e'))]at this
theorem A6T {p:Int} {h:Nat} {w:Nat} {E:List (List Int)} {P:List Int} {K:List (List Int)} (r:Rref p h w w E P) (k:KerOk p w E P K) {v:Nat->Int} (hv:Null p w E v):∀ q,q<w->p ∣ sumN (fun i=>v ((A0q w P).getD i 0)*en K i q) (A0q w P).length-v q:=by
 refine A2Q r (fun i hi=>?_) hv fun q hq hqp=>?_
 . rw[A4R];refine A0S fun l hl=>?_;rw[A4Q];exact Int.dvd_mul_of_dvd_right (A6S r k hl i hi)
 . obtain⟨l,hl,e⟩:=List.getElem_of_mem (freeL_mem.2 ⟨hq,hqp⟩);rw[<-A0y (d:=0)]at e;subst e;have h1:p ∣ sumN (fun i=>v ((A0q w P).getD i 0)*en K i ((A0q w P).getD l 0)) (A0q w P).length-v ((A0q w P).getD l 0)*en K l ((A0q w P).getD l 0):=A1d hl fun i hi hne=>by
     have:=A2m r k hi hl;rw[if_neg (Ne.symm hne),Int.sub_zero]at this;exact Int.dvd_mul_of_dvd_right this
   have h2:=A2m r k hl hl;rw[if_pos rfl]at h2;have h3:p ∣ v ((A0q w P).getD l 0)*(en K l ((A0q w P).getD l 0)-1):=Int.dvd_mul_of_dvd_right h2;rw[Int.mul_sub,Int.mul_one]at h3;have:=Int.dvd_add h1 h3
   rwa [show ∀ a b c:Int,a-b+(b-c)=a-c by omega]at this
theorem ker_ann {p:Int} {h:Nat} {w:Nat} {E:List (List Int)} {P:List Int} {K:List (List Int)} (r:Rref p h w w E P) (k:KerOk p w E P K) {x v:Nat->Int} (hx:Null p w K x) (hv:Null p w E v):p ∣ sumN (fun q=>v q*x q) w:=by
 have h1:p ∣ sumN (fun q=>sumN (fun i=>v ((A0q w P).getD i 0)*en K i q*x q) (A0q w P).length) w-sumN (fun q=>v q*x q) w:=by
   rw[<-A0g];refine A0S fun q hq=>?_;have e2:sumN (fun i=>v ((A0q w P).getD i 0)*en K i q*x q) (A0q w P).length=sumN (fun i=>v ((A0q w P).getD i 0)*en K i q) (A0q w P).length*x q:=by
     rw[Int.mul_comm,<-A0U];exact A0A fun k _=>Int.mul_comm _ _
   rw[e2,<-Int.sub_mul];exact Int.dvd_mul_of_dvd_left (A6T r k hv q hq)
 refine(A0c h1).1 ?_;rw[A1N];refine A0S fun i hi=>?_;have e4:sumN (fun q=>v ((A0q w P).getD i 0)*en K i q*x q) w=v ((A0q w P).getD i 0)*dotN w (K.getD i []) x:=by
   unfold dotN;rw[<-A0U];exact A0A fun q _=>by rw[Int.mul_assoc]
 rw[e4];exact Int.dvd_mul_of_dvd_right (hx i (by rw[k.ok.len];exact hi))
def A2V (h w:Nat) (R:List (List Int)):List (List Int):=(List.range w).map fun j=>(List.range h).map fun i=>en R i j
theorem A6h {p:Int} {h w:Nat} {R:List (List Int)} (o:RowsOk p h w R):RowsOk p w h (A2V h w R):=by
 refine⟨by simp[A2V],fun r hr=>?_⟩;unfold A2V at hr;obtain⟨j,hj,rfl⟩:=List.mem_map.1 hr;have hj:=List.mem_range.1 hj;refine⟨by simp,fun x hx=>?_⟩;obtain⟨i,hi,rfl⟩:=List.mem_map.1 hx;exact o.cell (List.mem_range.1 hi) j hj
theorem A3t {h w:Nat} {R:List (List Int)} {i j:Nat} (hi:i<h) (hj:j<w):en (A2V h w R) j i=en R i j:=by
 unfold A2V;rw[en,A0K _ _ hj,A0K _ _ hi]
theorem ker_rk {p:Int} {h w:Nat} {E:List (List Int)} {P:List Int} {K:List (List Int)} (hp:A0G p) (r:Rref p h w w E P) (k:KerOk p w E P K):rk p w K=(A0q w P).length:=by
 have oT := A6h k.ok;have h1:=A4d hp k.ok oT fun i j hi hj=>A3t hi hj;have h2:=rk_le hp k.ok;obtain⟨rT,hn⟩:=A0O hp oT _ (Nat.le_refl _);have h3:(A0q w P).length≤rk p (A0q w P).length (A2V (A0q w P).length w K):=by
   unfold rk;have:=(A1r (a:=(List.range (A0q w P).length).map fun j:Nat=>(j:Int)) (A4h List.pairwise_lt_range) rT.asc fun x hx=>by
     obtain⟨j,hj,rfl⟩:=List.mem_map.1 hx;have hj:=List.mem_range.1 hj;by_cases hjp:(j:Int)∈(gjN p (A0q w P).length (A2V (A0q w P).length w K) (A0q w P).length).2
     . exact hjp
     . obtain⟨y,g1,g2,_⟩:=(A3b hp.1.1 rT hj).1 hjp;refine absurd ?_ g2;obtain⟨f1,f2⟩:=A4T hj;have g3:=(hn y).1 g1 ((A0q w P).getD j 0) (by rw[oT.len];exact f1);have g4:p ∣ dotN (A0q w P).length ((A2V (A0q w P).length w K).getD ((A0q w P).getD j 0) []) y-y j:=by
         have e:(fun i=>((A2V (A0q w P).length w K).getD ((A0q w P).getD j 0) []).getD i 0*y i)=fun i=>en (A2V (A0q w P).length w K) ((A0q w P).getD j 0) i*y i:=rfl;have g5:p ∣ dotN (A0q w P).length ((A2V (A0q w P).length w K).getD ((A0q w P).getD j 0) []) y-en (A2V (A0q w P).length w K) ((A0q w P).getD j 0) j*y j:=A1d hj fun i hi hne=>by
           have:=A2m r k hi hj;rw[if_neg (Ne.symm hne),Int.sub_zero]at this;have e:((A2V (A0q w P).length w K).getD ((A0q w P).getD j 0) []).getD i 0=en K i ((A0q w P).getD j 0):=A3t hi f1;rw[e];exact Int.dvd_mul_of_dvd_left this
         rw[A3t hj f1]at g5;have g6:=A2m r k hj hj;rw[if_pos rfl]at g6;have g7:p ∣ (en K j ((A0q w P).getD j 0)-1)*y j:=Int.dvd_mul_of_dvd_left g6;rw[Int.sub_mul,Int.one_mul]at g7;have:=Int.dvd_add g5 g7
         rwa [show ∀ a b c:Int,a-b+(b-c)=a-c by omega]at this
       exact(A0c g4).1 g3).1
   simpa using this
 omega
theorem A5e {p:Int} {h w:Nat} {E:List (List Int)} {P:List Int} (r:Rref p h w w E P) (x:Nat->Int):Null p w (E.take P.length) x↔Null p w E x:=by
 have hl:=r.len;have ho:=r.ok.len;have hg:∀ i,i<P.length->(E.take P.length).getD i []=E.getD i []:=fun i hi=>by simp[List.getD_eq_getElem?_getD,hi]
 constructor
 . intro hx i hi;by_cases hr:i<P.length
   . have:=hx i (by rw[List.length_take];omega)
     rwa [hg i hr]at this
   . have z:∀ j,j<w->en E i j=0:=r.low i (by omega) (by omega);have e1:dotN w (E.getD i []) x=0:=A0a fun k hk=>by have:=z k hk;unfold en at this;rw[this,Int.zero_mul]
     rw[e1];exact Int.dvd_zero p
 . intro hx i hi;rw[List.length_take]at hi;rw[hg i (by omega)];exact hx i (by omega)
def A0Z (p:Int) (w:Nat) (R:List (List Int)):List (List Int):=(gjN p w R w).1.take (rk p w R)
theorem A1X {p:Int} {h w:Nat} {R:List (List Int)} (hp:A0G p) (o:RowsOk p h w R):(A0Z p w R).length=rk p w R:=by
 obtain⟨r,_⟩:=A0O hp o w (Nat.le_refl _);unfold A0Z;rw[List.length_take,r.ok.len];have:=r.len;unfold rk;omega
theorem A1g {p:Int} {h w:Nat} {R:List (List Int)} (hp:A0G p) (o:RowsOk p h w R) (x:Nat->Int):Null p w (A0Z p w R) x↔Null p w R x:=by
 obtain⟨r,hn⟩:=A0O hp o w (Nat.le_refl _);exact(A5e r x).trans (hn x)
theorem A6G {p:Int} {h h' w:Nat} {R T:List (List Int)} (hp:A0G p) (o:RowsOk p h w R) (o':RowsOk p h' w T):A0Z p w R=A0Z p w T↔∀ x,Null p w R x↔Null p w T x:=by
 constructor
 . intro e x;rw[<-A1g hp o,<-A1g hp o',e]
 . intro hs;obtain⟨r,hn⟩:=A0O hp o w (Nat.le_refl _);obtain⟨r',hn'⟩:=A0O hp o' w (Nat.le_refl _);obtain⟨e1,e2⟩:=A5t hp.1.1 r r' fun x=>(hn x).trans ((hs x).trans (hn' x).symm);unfold A0Z rk;rw[<-e1];exact e2
theorem Al3.val (xs:List Int) (n:Int) (hn:xs.length<4611686018427387904):Al3.F (xs,n,())=some ((decide (n∈xs),()),()):=by
 obtain⟨v,hv,hv'⟩:=Ev.loop (σ:=Unit) (R:=(Bool×Unit)×Unit) (fun k i _=>Al3.l2 k xs n (i:Int)) xs.length (fun i _=>∀ j,j<i->xs.getD j 0≠n) (fun r=>r=((decide (n∈xs),()),()))
   (fun i s hi hI=>by
     have E:=fun k=>Al3.l2_eq k xs n (i:Int);simp only[if_pos (ltI.2 hi),if_pos (idxI.2 hi),Int.toNat_natCast,A0x (show i<4611686018427387904 by omega)]at E;by_cases h:xs.getD i 0=n
     . exact .inl ⟨_,(Ev.const _).succ fun k=>by rw[E,if_pos (by simp only[h,beq_self_eq_true])],by
         have:n∈xs:=h▸A0z 0 hi;simp[this]⟩
     . refine .inr ⟨(),fun j hj=>?_,Goes.succ fun k=>by rw[E,if_neg (by simp only[beq_iff_eq];exact h)]⟩;by_cases hji:j=i
       . rw[hji];exact h
       . exact hI j (by omega))
   (fun s hI=>⟨_,(Ev.const _).succ fun k=>by rw[Al3.l2_eq,if_neg (by simp)],by
     have:n∉xs:=fun hm=>by
       obtain⟨j,hj,e⟩:=List.getElem_of_mem hm;exact hI j hj (by rw[A0y hj];exact e)
     simp[this]⟩) 0 () (Nat.zero_le _) (by intro j hj;omega)
 subst hv';exact Al3.of _ _ (hv.of_eq fun k=>rfl)
theorem Ah9.val (xs:List Int) (n:Int) (hn:xs.length<4611686018427387904):Ah9.F (xs,n,())=some ((decide (n∈xs),()),()):=by
 obtain⟨v,hv,hv'⟩:=Ev.loop (σ:=Unit) (R:=(Int×Unit)×Unit) (fun k i _=>Af4.l2 k xs n xs.length (i:Int)) xs.length (fun i _=>∀ j,j<i->xs.getD j 0≠n) (fun r=>∃ q:Int,r=((q,()),())/\decide (q≥0)=decide (n∈xs))
   (fun i s hi hI=>by
     have E:=fun k=>Af4.l2_eq k xs n xs.length (i:Int);simp only[if_pos (ltI.2 hi),if_pos (idxI.2 hi),Int.toNat_natCast,A0x (show i<4611686018427387904 by omega)]at E;by_cases h:n=xs.getD i 0
     . exact .inl ⟨_,(Ev.const _).succ fun k=>by rw[E,if_pos (by simp only[←h,beq_self_eq_true])],_,rfl,by
         have:n∈xs:=h▸A0z 0 hi;simp[this]⟩
     . refine .inr ⟨(),fun j hj=>?_,Goes.succ fun k=>by rw[E,if_neg (by simp only[beq_iff_eq];exact h)]⟩;by_cases hji:j=i
       . rw[hji];exact fun e=>h e.symm
       . exact hI j (by omega))
   (fun s hI=>⟨_,(Ev.const _).succ fun k=>by rw[Af4.l2_eq,if_neg (by simp)],_,rfl,by
     have:n∉xs:=fun hm=>by
       obtain⟨j,hj,e⟩:=List.getElem_of_mem hm;exact hI j hj (by rw[A0y hj];exact e)
     simp[this]⟩) 0 () (Nat.zero_le _) (by intro j hj;omega)
 obtain⟨q,rfl,hq⟩:=hv';rw[Ah9.eq,Ah9.T,Af4.of _ _ (hv.of_eq fun k=>rfl)];simp only[Option.bind_some,hq]
def A2F (p:Int) (n:Nat):MatV:=(p,(n:Int),(n:Int),A1v n n fun i j=>if i=j then 1 else 0)
theorem Ap4.val (p:Int) (n:Nat) (hn:n≤3):Ap4.F (p,(n:Int),())=some ((A2F p n,()),()):=by
 rw[Ap4.eq,Ap4.T,Ab4.val p n n _ (fun i j=>if i=j then 1 else 0) (by omega) (by omega) (fun i j _ _=>?_)]
 . rfl
 . show(As7.F ((i:Int),(j:Int),())).map (·.1)=_;rw[As7.eq,As7.T];by_cases h:i=j
   . rw[if_pos (by simp[h]),if_pos h];rfl
   . rw[if_neg (by simp;omega),if_neg h];rfl
theorem Al4.val (p:Int) (n:Nat) (hn:n≤3):Al4.F (p,(n:Int),())=some ((A2F p n,()),()):=by
 have z:=Ad0.val p n n (by omega) (by omega);have hw:∀ i:Nat,i<n->IntKind.i64.wrap (IntKind.i64.wrap ((i:Int)*(n:Int))+(i:Int))=((i*n+i:Nat):Int):=fun i hi=>(A1P (r:=n) (c:=n) (by omega) (by omega) hi hi).1;refine Al4.of _ _ ?_;obtain⟨s,⟨h1,h2⟩,hg⟩:=Goes.loop (R:=((MatV×Unit)×Unit)) (fun k i (s:List Int)=>Al4.l3 k (n:Int) (i:Int) 0 0 0 [] p (n:Int) (n:Int) s) n (fun i s=>s.length=n*n/\∀ a b,a<n->b<n->s.getD (a*n+b) 0=if a=b/\a<i then 1 else 0) (fun i s hi ⟨h1,h2⟩=>by
   have hb:i*n+i<n*n:=(A1P (r:=n) (c:=n) (by omega) (by omega) hi hi).2;refine⟨s.set (i*n+i) 1,⟨by simp[h1],fun a b ha hb'=>?_⟩,Goes.succ fun k=>?_⟩
   . by_cases e:i*n+i=a*n+b
     . have hab:a=i/\b=i:=by
         have h3:(i*n+i)/n=i:=by rw[Nat.mul_comm,Nat.mul_add_div (by omega),Nat.div_eq_of_lt hi];rfl
         have h4:(a*n+b)/n=a:=by rw[Nat.mul_comm,Nat.mul_add_div (by omega),Nat.div_eq_of_lt hb'];rfl
         have:a=i:=by rw[<-h4,<-e,h3]
         subst this;exact⟨rfl,by omega⟩
       rw[<-e,List.getD_eq_getElem?_getD,List.getElem?_set_self (by omega),if_pos ⟨by omega,by omega⟩];rfl
     . rw[List.getD_eq_getElem?_getD,List.getElem?_set_ne e,<-List.getD_eq_getElem?_getD,h2 a b ha hb'];have:¬ (a=i/\b=i):=fun hh=>e (by rw[hh.1,hh.2]);by_cases q:a=b/\a<i
       . rw[if_pos q,if_pos ⟨q.1,by omega⟩]
       . rw[if_neg q,if_neg (by omega)]
   . rw[Al4.l3_eq,if_pos (ltI.2 hi),hw i hi,if_pos (idxI.2 (by omega)),A0x (by omega)];rfl) 0 (List.replicate (n*n) 0) (Nat.zero_le _) ⟨by simp,fun a b ha hb=>by
     rw[if_neg (by omega),List.getD_eq_getElem?_getD];simp only[List.getElem?_replicate];split<;>rfl⟩
 refine Ev.of_eq (hg _ ((Ev.const _).succ fun k=>?_)) fun k=>?_
 . rw[Al4.l3_eq,if_neg (by simp)];have:s=A1v n n fun i j=>if i=j then 1 else 0:=A3Z h1 fun i j hi hj=>by
     rw[h2 i j hi hj];by_cases e:i=j
     . rw[if_pos ⟨e,hi⟩,if_pos e]
     . rw[if_neg (fun hh=>e hh.1),if_neg e]
   rw[this];rfl
 . rw[Al4.T,z];rfl
theorem A6l {p:Int} (hp:A0G p) {n:Nat} (hn:n≤3):MatOk (A2F p n):=by
 refine⟨hp,⟨by simp[A2F],by simp[A2F];omega⟩,⟨by simp[A2F],by simp[A2F];omega⟩,by simp[A2F,A0F],fun x hx=>?_⟩;have h2:=hp.1.1;simp only[A2F,A1v,List.mem_flatMap,List.mem_map]at hx;obtain⟨i,-,j,-,rfl⟩:=hx;show 0≤_/\_≤p-1;split<;>omega
theorem st_nat' {st:List Int} (h:A0N 0 3 st) (k:Nat):((st.getD k 0).toNat:Int)=st.getD k 0/\(st.getD k 0).toNat≤3:=by
 by_cases hk:k<st.length
 . have:=h _ (A0z 0 hk);omega
 . rw[List.getD_eq_getElem?_getD,List.getElem?_eq_none (by omega)];simp
theorem A2A {xs:List Int} (h:A1o xs):∀ i j,i<j->j<xs.length->xs.getD i 0<xs.getD j 0:=by
 intro i j hij hj;induction j with
 | zero=>omega
 | succ j ih =>
   have h1:=h (j+1) (by omega) hj;simp only[Nat.add_sub_cancel]at h1;by_cases e:i=j
   . subst e;exact h1
   . have:=ih (by omega) (by omega);omega
theorem A1c {xs:List Int} (h:A1o xs):xs.Nodup:=by
 rw[List.nodup_iff_pairwise_ne,List.pairwise_iff_getElem];intro i j hi hj hij;have:=A2A h i j hij hj;rw[A0y hi,A0y hj]at this;omega
theorem A1E:∀ {xs ys:List Int},xs.Nodup->(∀ x∈xs,x∈ys)->xs.length≤ys.length
 | [],_,_,_=>Nat.zero_le _
 | x::xs,ys,hn,h=>by
   rw[List.nodup_cons]at hn;have hx:=h x (by simp);have:=A1E (xs:=xs) (ys:=ys.erase x) hn.2 fun y hy=>(List.mem_erase_of_ne (fun e:y=x=>hn.1 (e▸hy))).2 (h y (by simp[hy]));rw[List.length_erase_of_mem hx]at this;have h2:0<ys.length:=List.length_pos_of_mem hx;simp only[List.length_cons];omega
theorem A5F {xs ys:List Int} (hx:A1o xs) (hy:A1o ys) (h:∀ x∈xs,x∈ys) (hl:ys.length≤xs.length):xs=ys:=by
 have pw:∀ {zs:List Int},A1o zs->zs.Pairwise (·<·):=fun {zs} hz=>by
   rw[List.pairwise_iff_getElem];intro i j hi hj hij;have:=A2A hz i j hij hj
   rwa [A0y hi,A0y hj]at this
 have key:∀ (xs ys:List Int),xs.Pairwise (·<·)->ys.Pairwise (·<·)->(∀ x∈xs,x∈ys)->ys.length≤xs.length->xs=ys:=by
   intro xs;induction xs with
   | nil=>intro ys _ _ _ hl;exact(List.length_eq_zero_iff.1 (by simpa using hl)).symm
   | cons x xs ih =>
     intro ys hx hy h hl;cases ys with
     | nil=>exact absurd (h x (by simp)) (by simp)
     | cons y ys =>
       rw[List.pairwise_cons]at hx hy;by_cases e:x=y
       . subst e;rw[ih ys hx.2 hy.2 (fun z hz=>by
           have:=h z (by simp[hz]);simp only[List.mem_cons]at this;rcases this with rfl|this
           . have:=hx.1 z hz;omega
           . exact this) (by simpa using hl)]
       . have hxm:x∈ys:=by
           have:=h x (by simp);simp only[List.mem_cons]at this;exact this.resolve_left e
         have hsub:∀ z∈x::xs,z∈ys:=fun z hz=>by
           have h1:=h z hz;simp only[List.mem_cons]at h1 hz;rcases h1 with rfl|h1
           . have h3:=hy.1 x hxm;rcases hz with rfl|hz
             . omega
             . have:=hx.1 z hz;omega
           . exact h1
         have hnd:(x::xs).Nodup:=by
           rw[List.nodup_iff_pairwise_ne,List.pairwise_cons];exact⟨fun z hz=>by have:=hx.1 z hz;omega,hx.2.imp fun h=>by omega⟩
         have:=A1E hnd hsub;simp only[List.length_cons]at hl this;omega
 exact key xs ys (pw hx) (pw hy) h hl
theorem A6Y {f t:List Int} (ht:t.Nodup) (hl:f.length<t.length):∃ j,j<t.length/\t.getD j 0∉f/\∀ i,i<j->t.getD i 0∈f:=by
 obtain⟨m,hm⟩:∃ m,m<t.length/\t.getD m 0∉f:=Classical.byContradiction fun hc=>by
   have:∀ x∈t,x∈f:=fun x hx=>by
     obtain⟨j,hj,rfl⟩:=List.getElem_of_mem hx;refine Classical.byContradiction fun hn=>hc ⟨j,hj,?_⟩
     rwa [A0y hj]
   have:=A1E ht this;omega
 have key:∀ m,(m<t.length/\t.getD m 0∉f)->∃ j,j<t.length/\t.getD j 0∉f/\∀ i,i<j->t.getD i 0∈f:=by
   intro m;induction m using Nat.strongRecOn with
   | ind m ih =>
     intro ⟨h1,h2⟩;by_cases h:∀ i,i<m->t.getD i 0∈f
     . exact⟨m,h1,h2,h⟩
     . obtain⟨i,hi⟩:=Classical.not_forall.1 h;obtain⟨hi,hi2⟩:=Classical.not_imp.1 hi;exact ih i hi ⟨by omega,hi2⟩
 exact key m hm
theorem A6K {f t:List Int} {j:Nat} (hj:j<t.length) (h:∀ x∈f,x∈t) (hn:t.getD j 0∉f):∀ x∈f,x∈A0w t j:=by
 intro x hx;obtain⟨i,hi,rfl⟩:=List.getElem_of_mem (h x hx);have hij:i≠j:=by
   rintro rfl;rw[A0y hi]at hn;exact hn hx
 unfold A0w;rw[List.mem_append];by_cases h2:i<j
 . left;rw[List.mem_take_iff_getElem];exact⟨i,by omega,rfl⟩
 . right;rw[List.mem_drop_iff_getElem];exact⟨i-(j+1),by omega,by congr 1;omega⟩
def StepOk (s:ShfV) (f i n:Nat) (m:MatV):Prop:=(n=0->m=A2F s.2.1 (s.2.2.1.getD f 0).toNat)/\(n=1->∃ j,j<(s.1.getD i []).length/\(s.1.getD i []).getD j 0∉s.1.getD f []/\m=mulM (A0v s i j) (A2F s.2.1 (s.2.2.1.getD f 0).toNat))
theorem A0m (s:ShfV) (h:SheafOk s) (f:Nat) (hf:f<s.1.length):∀ (n i:Nat),i<s.1.length->(s.1.getD i []).length=(s.1.getD f []).length+n->(∀ x∈s.1.getD f [],x∈s.1.getD i []) →
   ∃ m,StepOk s f i n m/\MatOk m/\m.1=s.2.1/\m.2.1=s.2.2.1.getD i 0/\m.2.2.1=s.2.2.1.getD f 0/\(∀ q,n<q->Ac1.R q (s,(f:Int),(i:Int),())=some ((m,()),()))/\∀ q,n<q->Ae6.R q (s,(f:Int),(i:Int),())=some ((m,()),()):=by
 have hn:=h.1.1;have hl:s.2.2.1.length=s.1.length:=h.2.2.1.1;have hp:=h.2.1;intro n;induction n with
 | zero =>
   intro i hi hlen hsub;have e:s.1.getD f []=s.1.getD i []:=A5F (h.1.2 f hf).1.2.2 (h.1.2 i hi).1.2.2 hsub (by omega);have e:f=i:=A1y h.1.sorted hf hi e;subst e;obtain⟨z1,z2⟩:=st_nat' h.2.2.1.2.1 f;have hu:=Ap4.val s.2.1 (s.2.2.1.getD f 0).toNat z2;have hu2:=Al4.val s.2.1 (s.2.2.1.getD f 0).toNat z2;rw[z1]at hu hu2;refine⟨A2F s.2.1 (s.2.2.1.getD f 0).toNat,⟨fun _=>rfl,fun h=>by omega⟩,A6l hp z2,rfl,z1,z1,fun q hq=>?_,fun q hq=>?_⟩
   . obtain⟨q,rfl⟩:∃ p,q=p+1:=⟨q-1,by omega⟩;have hT:Ac1.R (q+1) (s,(f:Int),(f:Int),())=Ac1.T (Ac1.R q) s.1 s.2.1 s.2.2.1 s.2.2.2 (f:Int) (f:Int):=Ac1.eq _ _ _ _ _ _ _;rw[hT,Ac1.T,if_pos (by simp),if_pos (idxI.2 (by omega)),Int.toNat_natCast,hu];rfl
   . obtain⟨q,rfl⟩:∃ p,q=p+1:=⟨q-1,by omega⟩;refine Ae6.of (Ae6.R q) s.1 s.2.1 s.2.2.1 s.2.2.2 (f:Int) (f:Int) ((Ev.const _).of_eq fun k=>?_);rw[Ae6.T,if_pos (by simp),if_pos (idxI.2 (by omega)),Int.toNat_natCast,hu2];rfl
 | succ n ih =>
   intro i hi hlen hsub;have hti:=(h.1.2 i hi).1;have htf:=(h.1.2 f hf).1;have hne:f≠i:=by rintro rfl;omega
   obtain⟨j,hj,hj1,hj2⟩:=A6Y (f:=s.1.getD f []) (t:=s.1.getD i []) (A1c hti.2.2) (by omega);have h1:1<(s.1.getD i []).length:=by have:=htf.1.1;omega
   have hfl:(fcs s.1 i).length=(s.1.getD i []).length:=by rw[A0k,if_pos h1]
   have hmem:A0w (s.1.getD i []) j∈A0V (s.1.getD i []):=mem_faces.2 ⟨h1,j,hj,rfl⟩;obtain⟨m1,m2⟩:=A0E (A1i h.1 hi hmem);obtain⟨M,hM⟩:∃ M,M=A0Q s.1 (A0w (s.1.getD i []) j):=⟨_,rfl⟩;have hfj:(fcs s.1 i).getD j 0=(M:Int):=by
     have e1:fcs s.1 i=(List.range (s.1.getD i []).length).map fun k=>((A0Q s.1 (A0w (s.1.getD i []) k):Nat):Int):=by
       unfold fcs A0V;rw[if_pos h1,List.map_map];rfl
     rw[e1,A0y (by simpa using hj),hM];simp only[List.getElem_map,List.getElem_range]
   rw[<-hM]at m1 m2;have hlenM:(s.1.getD M []).length=(s.1.getD f []).length+n:=by rw[m2,A0L hj];omega
   obtain⟨r,r0,r1,r2,r3,r4,r5,r6⟩:=ih M m1 hlenM (by rw[m2];exact A6K hj hsub hj1);obtain⟨k1,k2,k3,k4⟩:=h.2.2.2.2 i hi j (by omega);have k1:MatOk (A0v s i j):=k1;have k2:(A0v s i j).1=s.2.1:=k2;have k3:(A0v s i j).2.1=s.2.2.1.getD i 0:=k3;have k4:(A0v s i j).2.2.1=s.2.2.1.getD M 0:=by
     have:(A0v s i j).2.2.1=s.2.2.1.getD ((fcs s.1 i).getD j 0).toNat 0:=k4;rw[this,hfj,Int.toNat_natCast]
   have p1:=Ag7.val (A0v s i j) r k1 r1 (by rw[k2,r2]) (by rw[k4,r3]);have p2:=Ac5.val (A0v s i j) r k1 r1 (by rw[k2,r2]) (by rw[k4,r3]);refine⟨mulM (A0v s i j) r,⟨fun h=>by omega,fun h=>⟨j,hj,hj1,by rw[r0.1 (by omega)]⟩⟩,A5Z k1 r1,k2,k3,r4,fun q hq=>?_,fun q hq=>?_⟩
   . obtain⟨q,rfl⟩:∃ p,q=p+1:=⟨q-1,by omega⟩;have hT:Ac1.R (q+1) (s,(f:Int),(i:Int),())=Ac1.T (Ac1.R q) s.1 s.2.1 s.2.2.1 s.2.2.2 (f:Int) (i:Int):=Ac1.eq _ _ _ _ _ _ _;obtain⟨w,hw,hw'⟩:=Ae4.val (s.1.getD i []) (Ar7.cloG (s.1.getD f [],())) (fun x=>!decide (x∈s.1.getD f [])) (fun x _=>by
       show(Ar7.F (x,s.1.getD f [],())).map (·.1)=_;rw[Ar7.eq,Ar7.T,Ah9.val _ x (by have:=htf.1.2;omega)];rfl) (by have:=hti.1.2;omega)
     have hwj:w=(j:Int):=by
       rcases hw' with⟨-,hall⟩|⟨j',a1,a2,a3,a4⟩
       . have:=hall _ (A0z 0 hj);simp only[Bool.not_eq_false',decide_eq_true_eq]at this;exact absurd this hj1
       . simp only[Bool.not_eq_true',decide_eq_false_iff_not]at a3;have:j'=j:=by
           rcases Nat.lt_trichotomy j' j with h|h|h
           . exact absurd (hj2 j' h) a3
           . exact h
           . have:=a4 j h;simp only[Bool.not_eq_false',decide_eq_true_eq]at this;exact absurd this hj1
         rw[a2,this]
     subst hwj;have d1:Ab3.F ((s.1,(s.2.1,(s.2.2.1,s.2.2.2))),(i:Int),(j:Int),())=_:=Ab3.val s h i j hi (by omega);have d2:Ac1.R q ((s.1,(s.2.1,(s.2.2.1,s.2.2.2))),(f:Int),(M:Int),())=_:=r5 q (by omega);rw[hT,Ac1.T,if_neg (by simp;omega),if_pos (idxI.2 hf),if_pos (idxI.2 hi)];simp only[Int.toNat_natCast,hw,Option.bind_some,Ab0.val s.1 h.1 i hi];rw[if_pos (idxI.2 (by omega)),d1];simp only[Option.bind_some,hfj,d2,p1]
   . obtain⟨q,rfl⟩:∃ p,q=p+1:=⟨q-1,by omega⟩;have d1:Aa4.F ((s.1,(s.2.1,(s.2.2.1,s.2.2.2))),(i:Int),(j:Int),())=_:=Aa4.val s h i j hi (by omega);have d2:Ae6.R q ((s.1,(s.2.1,(s.2.2.1,s.2.2.2))),(f:Int),(M:Int),())=_:=r6 q (by omega);refine Ae6.of (Ae6.R q) s.1 s.2.1 s.2.2.1 s.2.2.2 (f:Int) (i:Int) ?_;obtain⟨x,-,hg⟩:=Goes.loop (σ:=Unit) (R:=((MatV×Unit)×Unit)) (fun k m _=>Ae6.l5 (Ae6.R q) k s.1 s.2.1 s.2.2.1 s.2.2.2 (f:Int) (i:Int) (s.1.getD i []) (m:Int) 0 0 0 []) j (fun _ _=>True) (fun m _ hm _=>⟨(),trivial,Goes.succ fun k=>by
       rw[Ae6.l5_eq,if_pos (idxI.2 hf),if_pos (idxI.2 (by omega))];simp only[Int.toNat_natCast,Al3.val _ _ (show(s.1.getD f []).length<4611686018427387904 by have:=htf.1.2;omega),Option.bind_some];rw[if_pos (decide_eq_true (hj2 m hm)),A0x (by have:=hti.1.2;omega)]⟩) 0 () (Nat.zero_le _) trivial
     refine Ev.of_eq (hg _ ((Ev.const _).succ fun k=>?_)) fun k=>?_
     . rw[Ae6.l5_eq,if_pos (idxI.2 hf),if_pos (idxI.2 hj)];simp only[Int.toNat_natCast,Al3.val _ _ (show(s.1.getD f []).length<4611686018427387904 by have:=htf.1.2;omega),Option.bind_some];rw[if_neg (fun hh=>hj1 (of_decide_eq_true hh)),Aa2.val s.1 h.1 i hi];simp only[Option.bind_some];rw[if_pos (idxI.2 (by omega)),hfj,d2];simp only[Option.bind_some,d1,p2]
     . rw[Ae6.T,if_neg (by simp;omega),if_pos (idxI.2 hi),Int.toNat_natCast];rfl
theorem A6I {w c:Nat} {r:List Int} (hc:c<w) (hl:r.length=w) (v:Int) (y:Nat->Int):dotN w (r.set c v) y=dotN w r y+(v-r.getD c 0)*y c:=by
 have h:dotN w (r.set c v) y-dotN w r y=(v-r.getD c 0)*y c:=by
   unfold dotN;rw[<-A0g,A0u hc fun k hk hne=>?_]
   . have:(r.set c v).getD c 0=v:=by simp[List.getD_eq_getElem?_getD,hl,hc]
     rw[this,Int.sub_mul]
   . have:(r.set c v).getD k 0=r.getD k 0:=by simp[List.getD_eq_getElem?_getD,List.getElem?_set,Ne.symm hne]
     rw[this,Int.sub_self]
 omega
theorem A6p {w:Nat} (y:Nat->Int):∀ (ws:List (Nat×Int)) (z:List Int),z.length=w->(∀ q∈ws,q.1<w)->(ws.map (·.1)).Nodup->(∀ q∈ws,z.getD q.1 0=0)->dotN w (wr ws z) y=dotN w z y+(ws.map fun q=>q.2*y q.1).sum
 | [],z,_,_,_,_=>by simp[wr]
 | q :: ws,z,hz,hw,hn,h0=>by
   simp only[List.map_cons,List.nodup_cons]at hn;have ih:=A6p y ws (z.set q.1 q.2) (by simp[hz]) (fun x hx=>hw x (by simp[hx])) hn.2 fun x hx=>by
     have hne:q.1≠x.1:=fun e=>hn.1 (List.mem_map.2 ⟨x,hx,e.symm⟩);have:=h0 x (by simp[hx]);rw[List.getD_eq_getElem?_getD]at this ⊢;rw[List.getElem?_set,if_neg hne];exact this
   show dotN w (wr ws (z.set q.1 q.2)) y=_;rw[ih,A6I (hw q (by simp)) hz,h0 q (by simp),Int.sub_zero,List.map_cons,List.sum_cons];omega
theorem A4K (f:Nat->Int):∀ n,((List.range n).map f).sum=sumN f n
 | 0=>rfl
 | n+1=>by rw[List.range_succ,List.map_append,List.sum_append,A4K f n,sumN];simp
theorem A3R (g:Nat->Int) (f:Nat->List (Nat×Int)) (h:Nat×Int->Int):∀ n,(∀ i,i<n->((f i).map h).sum=g i)->((((List.range n).flatMap f).map h).sum)=sumN g n
 | 0,_=>rfl
 | n+1,hf=>by
   rw[List.range_succ,List.flatMap_append,List.map_append,List.sum_append,A3R g f h n fun i hi=>hf i (by omega),sumN];simp only[List.flatMap_cons,List.flatMap_nil,List.append_nil];rw[hf n (by omega)]
theorem A2a (c m:Nat->Nat) (v:Nat->Nat->Int):∀ n,(∀ i j,i<n->j<n->i≠j->c i+m i≤c j∨c j+m j≤c i)->(((List.range n).flatMap fun i=>(List.range (m i)).map fun b=>(c i+b,v i b)).map (·.1)).Nodup
 | 0,_=>by simp
 | n+1,hd=>by
   rw[List.range_succ,List.flatMap_append,List.map_append,List.nodup_append];refine⟨A2a c m v n fun i j hi hj=>hd i j (by omega) (by omega),?_,fun x hx y hy e=>?_⟩
   . simp only[List.flatMap_cons,List.flatMap_nil,List.append_nil,List.map_map];rw[List.nodup_iff_pairwise_ne,List.pairwise_map];exact List.Pairwise.imp (fun h=>by simp only[Function.comp];omega) List.pairwise_lt_range
   . simp only[List.mem_map,List.mem_flatMap,List.mem_range,List.flatMap_cons,List.flatMap_nil,List.append_nil]at hx hy;obtain⟨_,⟨i,hi,b,hb,rfl⟩,rfl⟩:=hx;obtain⟨_,⟨b',hb',rfl⟩,rfl⟩:=hy;have:=hd i n (by omega) (by omega) (by omega);simp only[]at e;omega
theorem A5S {s:List Int} (h:A1o s) {i j:Nat} (hij:i<j) (hj:j<s.length):A0w s i≠A0w s j:=fun e=>by
 have h1:(A0w s i).getD i 0=s.getD (i+1) 0:=by
   unfold A0w;simp only[List.getD_eq_getElem?_getD];rw[List.getElem?_append_right (by simp;omega),List.getElem?_drop];simp only[List.length_take];rw[show i+1+(i-min i s.length)=i+1 by omega]
 have h2:(A0w s j).getD i 0=s.getD i 0:=by
   unfold A0w;simp only[List.getD_eq_getElem?_getD];rw[List.getElem?_append_left (by simp;omega),List.getElem?_take,if_pos hij]
 rw[e,h2]at h1;have:=A2A h i (i+1) (by omega) (by omega);omega
def A5q (s:ShfV) (h a:Nat) (y:Nat->Int) (i:Nat):Int:=sumN (fun b=>(A0v s h i).2.2.2.getD (a*(A0v s h i).2.2.1.toNat+b) 0*y ((A0T s (fc s.1 h i)).toNat+b)) (A0v s h i).2.2.1.toNat
theorem A0o {s:ShfV} (ho:SheafOk s) {h i:Nat} (hh:h<s.1.length) (hi:i<(fcs s.1 h).length):fc s.1 h i<s.1.length/\s.1.getD (fc s.1 h i) []=A0w (s.1.getD h []) i/\i<(s.1.getD h []).length/\(s.1.getD (fc s.1 h i) []).length+1=(s.1.getD h []).length/\(A0v s h i).2.2.1=s.2.2.1.getD (fc s.1 h i) 0/\(A0v s h i).2.1=s.2.2.1.getD h 0:=by
 obtain⟨f,h1,h2,h3,h4,h5⟩:=A3Y ho.1 hh hi;have e:fc s.1 h i=f:=by rw[fc,h1,Int.toNat_natCast]
 have m:=A0r ho hh hi;refine⟨by rw[e];exact h2,by rw[e];exact h3,h4,?_,?_,m.2.2.1⟩
 . rw[e,h3,A0L h4];omega
 . rw[m.2.2.2];rfl
theorem face_ne {s:ShfV} (ho:SheafOk s) {h i j:Nat} (hh:h<s.1.length) (hi:i<(fcs s.1 h).length) (hj:j<(fcs s.1 h).length) (hne:i≠j):fc s.1 h i≠fc s.1 h j:=fun e=>by
 have a:=A0o ho hh hi;have b:=A0o ho hh hj;have hr:=(ho.1.2 h hh).1.2.2;have e2:A0w (s.1.getD h []) i=A0w (s.1.getD h []) j:=by rw[<-a.2.1,<-b.2.1,e]
 rcases Nat.lt_or_gt_of_ne hne with hlt|hlt
 . exact A5S hr hlt b.2.2.1 e2
 . exact A5S hr hlt a.2.2.1 e2.symm
theorem A5r {s:ShfV} (ho:SheafOk s) {h a:Nat} (hh:h<s.1.length) (W:Nat) (hW:W=(A0C s (((s.1.getD h []).length:Int)-2)).toNat) (y:Nat->Int) :
   s.2.1 ∣ dotN W (rowC s W h a) y-sumN (fun i=>sgn s.2.1 i*A5q s h a y i) (fcs s.1 h).length:=by
 have hdis:∀ i j,i<(fcs s.1 h).length->j<(fcs s.1 h).length->i≠j->(A0T s (fc s.1 h i)).toNat+(A0v s h i).2.2.1.toNat≤(A0T s (fc s.1 h j)).toNat∨(A0T s (fc s.1 h j)).toNat+(A0v s h j).2.2.1.toNat≤(A0T s (fc s.1 h i)).toNat:=fun i j hi hj hne=>by
   have A:=A0o ho hh hi;have B:=A0o ho hh hj;have a1:=A1R ho A.1;have b1:=A1R ho B.1;have a2:=A1x ho A.1;have b2:=A1x ho B.1;rw[A.2.2.2.2.1,B.2.2.2.2.1];rcases Nat.lt_or_gt_of_ne (face_ne ho hh hi hj hne)with hlt|hlt
   . have:=A2h ho hlt B.1 (by omega);left;omega
   . have:=A2h ho hlt A.1 (by omega);right;omega
 have e:dotN W (rowC s W h a) y=sumN (fun i=>sumN (fun b=>((A0v s h i).2.2.2.getD (a*(A0v s h i).2.2.1.toNat+b) 0*sgn s.2.1 i)%s.2.1*y ((A0T s (fc s.1 h i)).toNat+b)) (A0v s h i).2.2.1.toNat) (fcs s.1 h).length:=by
   unfold rowC cobR;rw[A6p y _ _ (by simp) (fun q hq=>?_) (A2a (fun i=>(A0T s (fc s.1 h i)).toNat) (fun i=>(A0v s h i).2.2.1.toNat) _ _ hdis) fun q _=>?_]
   . have z:dotN W (List.replicate W 0) y=0:=A5R W W y;rw[z,Int.zero_add];refine A3R _ _ _ _ fun i hi=>?_;rw[List.map_map];exact A4K _ _
   . simp only[List.mem_flatMap,List.mem_map,List.mem_range]at hq;obtain⟨i,hi,b,hb,rfl⟩:=hq;have A:=A0o ho hh hi;have a1:=A1R ho A.1;have a2:=A1x ho A.1;rw[A.2.2.2.2.1]at hb;have e3:((s.1.getD (fc s.1 h i) []).length:Int)-1=((s.1.getD h []).length:Int)-2:=by omega
     rw[e3]at a1;simp only[];omega
   . simp[List.getD_eq_getElem?_getD,List.getElem?_replicate];split<;>rfl
 rw[e,<-A0g];refine A0S fun i hi=>?_;unfold A5q;rw[<-A0U,<-A0g];refine A0S fun b hb=>?_;have h1:=A1h ((A0v s h i).2.2.2.getD (a*(A0v s h i).2.2.1.toNat+b) 0*sgn s.2.1 i) s.2.1;generalize (A0v s h i).2.2.2.getD (a*(A0v s h i).2.2.1.toNat+b) 0=M at h1 ⊢;generalize y ((A0T s (fc s.1 h i)).toNat+b)=Y;have e2:M*sgn s.2.1 i%s.2.1*Y-sgn s.2.1 i*(M*Y)=(M*sgn s.2.1 i%s.2.1-M*sgn s.2.1 i)*Y:=by
   rw[Int.sub_mul,Int.mul_comm M (sgn s.2.1 i),Int.mul_assoc]
 rw[e2];exact Int.dvd_mul_of_dvd_left h1
theorem A6d {p:Int} (j:Nat) (hj:0<j):p ∣ sgn p (j-1)+sgn p j:=by
 unfold sgn;rcases Nat.mod_two_eq_zero_or_one j with h|h
 . rw[if_neg (by omega),if_pos h,show p-1+1=p by omega];exact Int.dvd_refl p
 . rw[if_pos (by omega),if_neg (by omega),show 1+(p-1)=p by omega];exact Int.dvd_refl p
theorem sq_of {s:ShfV} (hs:A1q s) {h i j:Nat} (hh:h<s.1.length) (h3:2<(s.1.getD h []).length) (hij:i<j) (hj:j<(s.1.getD h []).length):sqA s h i j=sqB s h i j:=by
 have h0:=hs.2;unfold A1f at h0;rw[List.findSome?_eq_none_iff]at h0;have h1:=h0 h (by rw[List.mem_range'];exact⟨h,by omega,by omega⟩);unfold A1e at h1;rw[if_neg (by omega),List.findSome?_eq_none_iff]at h1;have h2:=h1 i (by rw[List.mem_range'];exact⟨i,by omega,by omega⟩);unfold A3F at h2;rw[List.findSome?_eq_none_iff]at h2;have h4:=h2 j (by rw[List.mem_range'];exact⟨j-(i+1),by omega,by omega⟩);unfold A2H at h4;by_cases e:sqA s h i j=sqB s h i j
 . exact e
 . rw[if_neg e]at h4;cases h4
def twoS (s:ShfV) (h a:Nat) (y:Nat->Int) (i j:Nat):Int:=sumN (fun b=>(A0v s h i).2.2.2.getD (a*(A0v s h i).2.2.1.toNat+b) 0*A5q s (fc s.1 h i) b y j) (A0v s h i).2.2.1.toNat
def twoM (m:MatV) (c a:Nat) (y:Nat->Int):Int:=sumN (fun e=>m.2.2.2.getD (a*m.2.2.1.toNat+e) 0*y (c+e)) m.2.2.1.toNat
theorem A6A {s:ShfV} {h a i j:Nat} (y:Nat->Int) (ha:a<(A0v s h i).2.1.toNat):(A0v s h i).1 ∣ twoM (mulM (A0v s h i) (A0v s (fc s.1 h i) j)) (A0T s (fc s.1 (fc s.1 h i) j)).toNat a y-twoS s h a y i j:=by
 have e:twoS s h a y i j=sumN (fun e=>sumN (fun b=>(A0v s h i).2.2.2.getD (a*(A0v s h i).2.2.1.toNat+b) 0*(A0v s (fc s.1 h i) j).2.2.2.getD (b*(A0v s (fc s.1 h i) j).2.2.1.toNat+e) 0) (A0v s h i).2.2.1.toNat*y ((A0T s (fc s.1 (fc s.1 h i) j)).toNat+e)) (A0v s (fc s.1 h i) j).2.2.1.toNat:=by
   unfold twoS A5q;rw[show ∀ (A:Nat->Int) (B:Nat->Nat->Int) (m n:Nat),sumN (fun b=>A b*sumN (fun e=>B b e) m) n=sumN (fun b=>sumN (fun e=>A b*B b e) m) n from fun A B m n=>A0A fun b _=>(A0U _ _ _).symm,A1N];refine A0A fun e _=>?_;rw[Int.mul_comm (sumN _ _),<-A0U];refine A0A fun b _=>?_;rw[<-Int.mul_assoc,Int.mul_comm (y _)]
 rw[e];unfold twoM;have hc:(mulM (A0v s h i) (A0v s (fc s.1 h i) j)).2.2.1=(A0v s (fc s.1 h i) j).2.2.1:=rfl;rw[hc,<-A0g];refine A0S fun e he=>?_;have hg:(mulM (A0v s h i) (A0v s (fc s.1 h i) j)).2.2.2.getD (a*(A0v s (fc s.1 h i) j).2.2.1.toNat+e) 0=sumN (fun k=>(A0v s h i).2.2.2.getD (a*(A0v s h i).2.2.1.toNat+k) 0*(A0v s (fc s.1 h i) j).2.2.2.getD (k*(A0v s (fc s.1 h i) j).2.2.1.toNat+e) 0) (A0v s h i).2.2.1.toNat%(A0v s h i).1:=A1z _ _ _ ha he;rw[hg,<-Int.sub_mul];exact Int.dvd_mul_of_dvd_left (A1h _ _)
theorem A6L {s:ShfV} (ho:SheafOk s) {h i j:Nat} (hh:h<s.1.length) (h3:2<(s.1.getD h []).length) (hij:i<j) (hj:j<(s.1.getD h []).length):fc s.1 (fc s.1 h i) (j-1)=fc s.1 (fc s.1 h j) i:=by
 have hl:(fcs s.1 h).length=(s.1.getD h []).length:=by rw[A0k,if_pos (by omega)]
 have A:=A0o ho hh (i:=i) (by omega);have B:=A0o ho hh (i:=j) (by omega);have la:(fcs s.1 (fc s.1 h i)).length=(s.1.getD (fc s.1 h i) []).length:=by rw[A0k,if_pos (by omega)]
 have lb:(fcs s.1 (fc s.1 h j)).length=(s.1.getD (fc s.1 h j) []).length:=by rw[A0k,if_pos (by omega)]
 have A2:=A0o ho A.1 (i:=j-1) (by omega);have B2:=A0o ho B.1 (i:=i) (by omega);refine A1y ho.1.sorted A2.1 B2.1 ?_;rw[A2.2.1,B2.2.1,A.2.1,B.2.1];generalize s.1.getD h []=t at hj;unfold A0w;refine List.ext_getElem? fun q=>?_;simp only[List.getElem?_append,List.getElem?_take,List.getElem?_drop,List.length_append,List.length_take,List.length_drop];by_cases q1:q<i
 . simp[q1,show q<j-1 by omega,show q<j by omega,show i≤t.length by omega]
   repeat' split
   all_goals first|rfl|omega
 . by_cases q2:q<j-1
   . repeat' split
     all_goals first|omega|(congr 1;omega)|rfl
   . repeat' split
     all_goals first|omega|(congr 1;omega)|rfl
theorem A6i {s:ShfV} (hs:A1q s) {h a i j:Nat} (hh:h<s.1.length) (h3:2<(s.1.getD h []).length) (hij:i<j) (hj:j<(s.1.getD h []).length) (ha:a<(s.2.2.1.getD h 0).toNat) (y:Nat->Int) :
   s.2.1 ∣ sgn s.2.1 i*(sgn s.2.1 (j-1)*twoS s h a y i (j-1))+sgn s.2.1 j*(sgn s.2.1 i*twoS s h a y j i):=by
 have ho:=hs.1;have hl:(fcs s.1 h).length=(s.1.getD h []).length:=by rw[A0k,if_pos (by omega)]
 have A:=A0o ho hh (i:=i) (by omega);have B:=A0o ho hh (i:=j) (by omega);have pa:=(A0r ho hh (j:=i) (by omega)).2.1;have pb:=(A0r ho hh (j:=j) (by omega)).2.1;have h1:=A6A (s:=s) (h:=h) (a:=a) (i:=i) (j:=j-1) y (by rw[A.2.2.2.2.2];exact ha);have h2:=A6A (s:=s) (h:=h) (a:=a) (i:=j) (j:=i) y (by rw[B.2.2.2.2.2];exact ha);have e:mulM (A0v s h i) (A0v s (fc s.1 h i) (j-1))=mulM (A0v s h j) (A0v s (fc s.1 h j) i):=sq_of hs hh h3 hij hj;rw[e,A6L ho hh h3 hij hj,pa]at h1;rw[pb]at h2;have h5:=Int.dvd_sub h2 h1;generalize twoM _ _ _ _=X at h5;generalize twoS s h a y i (j-1)=S1 at h5 ⊢;generalize twoS s h a y j i=S2 at h5 ⊢;have h6:=A6d (p:=s.2.1) j (by omega);generalize sgn s.2.1 (j-1)=u at h6 ⊢;generalize sgn s.2.1 j=v at h6 ⊢;generalize sgn s.2.1 i=w;have h7:s.2.1 ∣ S1-S2:=by rwa [show X-S2-(X-S1)=S1-S2 by omega]at h5
 have e2:w*(u*S1)+v*(w*S2)=w*(u*(S1-S2))+w*((u+v)*S2):=by
   rw[Int.mul_sub,Int.mul_sub,Int.add_mul,Int.mul_add,Int.mul_left_comm v w S2];omega
 rw[e2];exact Int.dvd_add (Int.dvd_mul_of_dvd_right (Int.dvd_mul_of_dvd_right h7)) (Int.dvd_mul_of_dvd_right (Int.dvd_mul_of_dvd_left h6))
theorem dd_sum {s:ShfV} (hs:A1q s) {h a:Nat} (hh:h<s.1.length) (ha:a<(s.2.2.1.getD h 0).toNat) (y:Nat->Int) :
   s.2.1 ∣ sumN (fun i=>sgn s.2.1 i*sumN (fun j=>sgn s.2.1 j*twoS s h a y i j) (fcs s.1 (fc s.1 h i)).length) (fcs s.1 h).length:=by
 have ho:=hs.1;have hn4:=(ho.1.2 h hh).1.1;have hl:=A0k s.1 h;by_cases h3:2<(s.1.getD h []).length
 . rw[if_pos (by omega)]at hl;have inner:∀ i,i<(s.1.getD h []).length->(fcs s.1 (fc s.1 h i)).length=(s.1.getD h []).length-1:=fun i hi=>by
     have A:=A0o ho hh (i:=i) (by omega);rw[A0k,if_pos (by omega)];omega
   have P:=fun {i j:Nat} (hij:i<j) (hj:j<(s.1.getD h []).length)=>A6i hs hh h3 hij hj ha y;have e:sumN (fun i=>sgn s.2.1 i*sumN (fun j=>sgn s.2.1 j*twoS s h a y i j) (fcs s.1 (fc s.1 h i)).length) (fcs s.1 h).length=sumN (fun i=>sumN (fun j=>sgn s.2.1 i*(sgn s.2.1 j*twoS s h a y i j)) ((s.1.getD h []).length-1)) (s.1.getD h []).length:=by
     rw[hl];refine A0A fun i hi=>?_;rw[inner i hi,A0U]
   rw[e];generalize hN:(s.1.getD h []).length=N at hn4 h3 P;generalize ht:(fun i j=>sgn s.2.1 i*(sgn s.2.1 j*twoS s h a y i j))=t;have P':∀ i j,i<j->j<N->s.2.1 ∣ t i (j-1)+t j i:=fun i j hij hj=>by rw[<-ht];exact P hij hj
   have e2:sumN (fun i=>sumN (fun j=>sgn s.2.1 i*(sgn s.2.1 j*twoS s h a y i j)) (N-1)) N=sumN (fun i=>sumN (fun j=>t i j) (N-1)) N:=by rw[<-ht]
   rw[e2];have hN3:N=3∨N=4:=by omega
   rcases hN3 with rfl|rfl
   . have p1:=P' 0 1 (by omega) (by omega);have p2:=P' 0 2 (by omega) (by omega);have p3:=P' 1 2 (by omega) (by omega);have:=Int.dvd_add (Int.dvd_add p1 p2) p3;simp only[sumN]at *
     rwa [show t 0 (1-1)+t 1 0+(t 0 (2-1)+t 2 0)+(t 1 (2-1)+t 2 1)=0+(0+t 0 0+t 0 1)+(0+t 1 0+t 1 1)+(0+t 2 0+t 2 1)by simp only[Nat.reduceSub];omega]at this
   . have p1:=P' 0 1 (by omega) (by omega);have p2:=P' 0 2 (by omega) (by omega);have p3:=P' 0 3 (by omega) (by omega);have p4:=P' 1 2 (by omega) (by omega);have p5:=P' 1 3 (by omega) (by omega);have p6:=P' 2 3 (by omega) (by omega);have:=Int.dvd_add (Int.dvd_add (Int.dvd_add p1 p2) (Int.dvd_add p3 p4)) (Int.dvd_add p5 p6);simp only[sumN]at *
     rwa [show t 0 (1-1)+t 1 0+(t 0 (2-1)+t 2 0)+(t 0 (3-1)+t 3 0+(t 1 (2-1)+t 2 1))+(t 1 (3-1)+t 3 1+(t 2 (3-1)+t 3 2))=0+(0+t 0 0+t 0 1+t 0 2)+(0+t 1 0+t 1 1+t 1 2)+(0+t 2 0+t 2 1+t 2 2)+(0+t 3 0+t 3 1+t 3 2)by simp only[Nat.reduceSub];omega]at this
 . have e:sumN (fun i=>sgn s.2.1 i*sumN (fun j=>sgn s.2.1 j*twoS s h a y i j) (fcs s.1 (fc s.1 h i)).length) (fcs s.1 h).length=0:=A0a fun i hi=>by
     have A:=A0o ho hh hi;have e1:(fcs s.1 (fc s.1 h i)).length=0:=by rw[A0k,if_neg (by omega)]
     rw[e1];simp only[sumN,Int.mul_zero]
   rw[e];exact Int.dvd_zero _
theorem A4J {s:ShfV} (ho:SheafOk s) {d:Int} {q:Nat} (hq:q<(A0C s d).toNat):∃ h a,h<s.1.length/\((s.1.getD h []).length:Int)=d+1/\a<(s.2.2.1.getD h 0).toNat/\q=(A0T s h).toNat+a:=by
 have hsl:=ho.2.2.1.1;have hst:=ho.2.2.1.2.1;rw[A2y ho]at hq;have key:∀ n,n≤s.1.length->(q:Int)<psum s.1 s.2.2.1 d n->∃ h,h<n/\((s.1.getD h []).length:Int)=d+1/\psum s.1 s.2.2.1 d h≤q/\(q:Int)<psum s.1 s.2.2.1 d h+s.2.2.1.getD h 0:=by
   intro n;induction n with
   | zero=>intro _ h;simp only[psum]at h;omega
   | succ n ih =>
     intro hn h;by_cases h1:(q:Int)<psum s.1 s.2.2.1 d n
     . obtain⟨h',a1,a2⟩:=ih (by omega) h1;exact⟨h',by omega,a2⟩
     . simp only[psum]at h;split at h
       . rename_i hd;exact⟨n,by omega,hd,by omega,h⟩
       . omega
 have hb:=A1u (c:=s.1) (d:=d) hst s.1.length (by omega);obtain⟨h,h1,h2,h3,h4⟩:=key s.1.length (Nat.le_refl _) (by omega);have hc:A0T s h=psum s.1 s.2.2.1 d h:=by rw[A0T,show((s.1.getD h []).length:Int)-1=d by omega]
 have hb2:=A1u (c:=s.1) (d:=d) hst h (by omega);refine⟨h,q-(A0T s h).toNat,h1,h2,?_,?_⟩<;>rw[hc]<;>omega
theorem A4C {c:List (List Int)} {d:Int} {n h:Nat} (hh:h<n) (hd:((c.getD h []).length:Int)=d+1):∃ m,m<(A0B c d n).length/\(A0B c d n).getD m 0=(h:Int):=by
 have:(h:Int)∈A0B c d n:=by
   simp only[A0B,List.mem_map,List.mem_filter,List.mem_range,beq_iff_eq];exact⟨h,⟨hh,hd⟩,rfl⟩
 obtain⟨m,hm,e⟩:=List.getElem_of_mem this;exact⟨m,hm,by rw[A0y hm,e]⟩
theorem dd_zero {s:ShfV} (hs:A1q s) {k:Int} (hk:0≤k) {i j:Nat} (hi:i<(A0C s (k+1)).toNat) (hj:j<(A0C s (k-1)).toNat) :
   s.2.1 ∣ dotN (A0C s k).toNat (rowL (cobM s k).2.2.2 (A0C s k).toNat i) (fun q=>(cobM s (k-1)).2.2.2.getD (q*(A0C s (k-1)).toNat+j) 0):=by
 have ho:=hs.1;obtain⟨h,a,hh,hd,ha,rfl⟩:=A4J ho hi;obtain⟨m,hm,hm'⟩:=A4C hh hd;have hk1:0≤k-1:=by
   obtain⟨h',a',hh',hd',_⟩:=A4J ho hj;have:=(ho.1.2 h' hh').1.1;omega
 rw[A5O ho hk hm hm' ha];have hW:(A0C s k).toNat=(A0C s (((s.1.getD h []).length:Int)-2)).toNat:=by rw[show((s.1.getD h []).length:Int)-2=k by omega]
 have h1:=A5r (a:=a) ho hh (A0C s k).toNat hW (fun q=>(cobM s (k-1)).2.2.2.getD (q*(A0C s (k-1)).toNat+j) 0);refine(A0c h1).2 ?_;have hz:=dd_sum hs hh ha (dl j);refine(A0c ?_).2 hz;rw[<-A0g];refine A0S fun x hx=>?_;rw[<-Int.mul_sub];refine Int.dvd_mul_of_dvd_right ?_;have A:=A0o ho hh hx;have hsd:((s.1.getD (fc s.1 h x) []).length:Int)=k+1:=by omega
 have e:sumN (fun y=>sgn s.2.1 y*twoS s h a (dl j) x y) (fcs s.1 (fc s.1 h x)).length=sumN (fun b=>(A0v s h x).2.2.2.getD (a*(A0v s h x).2.2.1.toNat+b) 0*sumN (fun y=>sgn s.2.1 y*A5q s (fc s.1 h x) b (dl j) y) (fcs s.1 (fc s.1 h x)).length) (A0v s h x).2.2.1.toNat:=by
   unfold twoS;rw[show ∀ (A:Nat->Int) (B:Nat->Nat->Int) (m n:Nat),sumN (fun b=>A b*sumN (fun e=>B b e) m) n=sumN (fun b=>sumN (fun e=>A b*B b e) m) n from fun A B m n=>A0A fun b _=>(A0U _ _ _).symm,A1N];refine A0A fun y _=>?_;rw[<-A0U];exact A0A fun b _=>Int.mul_left_comm _ _ _
 rw[e];unfold A5q;rw[<-A0g];refine A0S fun b hb=>?_;rw[<-Int.mul_sub];refine Int.dvd_mul_of_dvd_right ?_;have hbs:b<(s.2.2.1.getD (fc s.1 h x) 0).toNat:=by rw[<-A.2.2.2.2.1];exact hb
 obtain⟨m2,hm2,hm2'⟩:=A4C (c:=s.1) (d:=k-1+1) A.1 (by omega);have hrow:=A5O ho hk1 hm2 hm2' hbs;have hW2:(A0C s (k-1)).toNat=(A0C s (((s.1.getD (fc s.1 h x) []).length:Int)-2)).toNat:=by rw[show((s.1.getD (fc s.1 h x) []).length:Int)-2=k-1 by omega]
 have h2:=A5r (a:=b) ho A.1 (A0C s (k-1)).toNat hW2 (dl j);rw[A1p _ hj,<-hrow,A0l hj]at h2;exact h2
theorem A5H:∀ (h w:Nat) (xs:List Int),xs.length=h*w->(A0n xs h w).flatten=xs:=by
 intro h w xs hl;have key:∀ i,i≤h->((List.range i).map (rowL xs w)).flatten=xs.take (i*w):=by
   intro i;induction i with
   | zero=>intro _;simp
   | succ i ih =>
     intro hi;have e:(i+1)*w=i*w+w:=by rw[Nat.add_mul,Nat.one_mul]
     rw[List.range_succ,List.map_append,List.flatten_append,ih (by omega)];simp only[List.map_cons,List.map_nil,List.flatten_cons,List.flatten_nil,List.append_nil,rowL];have h1:xs.take (i*w)=(xs.take ((i+1)*w)).take (i*w):=by rw[List.take_take];congr 1;omega
     rw[h1,List.take_append_drop]
 have:=key h (Nat.le_refl _);rw[A0n,this,<-hl,List.take_length]
theorem A3p {m:MatV} (h:MatOk m) {R C:Nat} (hr:m.2.1=(R:Int)) (hc:m.2.2.1=(C:Int)) (hl:m.2.2.2.length=R*C):RowsOk m.1 R C (A0n m.2.2.2 R C):=by
 refine⟨by simp[A0n],fun r hr'=>?_⟩;unfold A0n at hr';obtain⟨i,hi,rfl⟩:=List.mem_map.1 hr';exact⟨A0Y hl (List.mem_range.1 hi),fun x hx=>h.2.2.2.2 x (A3o hx)⟩
def A3B (m:MatV):Nat:=(gjN m.1 m.2.2.1.toNat (A0n m.2.2.2 m.2.1.toNat m.2.2.1.toNat) m.2.2.1.toNat).2.length
theorem A4I {m:MatV} (h:MatOk m):∃ R C:Nat,m.2.1=(R:Int)/\m.2.2.1=(C:Int)/\R≤32/\C≤32/\m.2.2.2.length=R*C/\(2≤m.1/\m.1≤251)/\RowsOk m.1 R C (A0n m.2.2.2 R C)/\A3B m=(gjN m.1 C (A0n m.2.2.2 R C) C).2.length:=by
 obtain⟨R,C,hr,hc,hR,hC,hl,hp,ha⟩:=h.nat;exact⟨R,C,hr,hc,hR,hC,hl,hp,A3p h hr hc hl,by rw[A3B,hr,hc];rfl⟩
theorem A4s {m:MatV} (h:MatOk m):A3B m≤32:=by
 obtain⟨R,C,hr,hc,hR,hC,hl,hp,o,hrk⟩:=A4I h;have hle:=(A5U hp.1 o C).2;omega
theorem Am7.val {m:MatV} (h:MatOk m):Am7.F (m,())=some ((((A3B m:Nat):Int),()),()):=by
 obtain⟨R,C,hr,hc,hR,hC,hl,hp,o,hrk⟩:=A4I h;obtain⟨d2,e2⟩:=Aa0.val hp (by omega) (by omega) o;rw[A5H R C _ hl]at e2;have hle:=(A5U hp.1 o C).2;obtain⟨p,r,c,xs⟩:=m;obtain rfl:r=(R:Int):=hr;obtain rfl:c=(C:Int):=hc;rw[Am7.eq,Am7.T,e2,hrk];rfl
theorem RowsOk.small {p:Int} {h w:Nat} {R:List (List Int)} (o:RowsOk p h w R) (hh:h≤4096) (hw:w≤256):SmL R:=⟨by rw[o.len];omega,fun r hr=>by have:=(o.row r hr).1;unfold Sm;omega⟩
theorem Aa6.val {p:Int} {h w:Nat} (hp:A0G p) (hh:h≤4096) (hw:w≤256) {R:List (List Int)} (o:RowsOk p h w R):Aa6.F (p,(w:Int),R,())=some (((p,(w:Int),A0Z p w R),()),()):=by
 obtain⟨det,he⟩:=Ac0.val hp.1 hh hw o;obtain⟨r,hn⟩:=A0O hp o w (Nat.le_refl _);have hl:=r.len;have ho:=r.ok.len;have hsm:SmL (A0Z p w R):=⟨by rw[A1X hp o];unfold rk;omega,fun x hx=>by
   have:=(r.ok.row x (List.mem_of_mem_take hx)).1;unfold Sm;omega⟩
 rw[Aa6.eq,Aa6.T,Ad3.val R (o.small hh hw)];simp only[Option.bind_some,he];rw[if_pos (by omega)];have e:cutL (gjN p w R w).1 0 (((gjN p w R w).2.length:Nat):Int)=A0Z p w R:=by
   unfold cutL A0Z rk;simp
 rw[e,Ad3.val _ hsm];rfl
theorem Ah8.val {p n:Int} (hp:2≤p/\p≤251):Ah8.F (n,p,())=some ((n%p,()),()):=by
 rw[Ah8.eq,Ah8.T,if_neg (by omega),if_neg (by omega),A5Y hp]
structure KRow (p:Int) (w:Nat) (E:List (List Int)) (P:List Int) (c:Nat) (x:List Int):Prop where
 len:x.length=w
 inn:A0N 0 (p-1) x
 one:x.getD c 0=1
 piv:∀ k,k<P.length->x.getD (pv P k) 0=(0-en E k c)%p
 zer:∀ q,q<w->q≠c->(q:Int)∉P->x.getD q 0=0
theorem A2M (n:Nat) (P:List Int):A0q (n+1) P=A0q n P++(if (n:Int)∈P then[]else[n]):=by
 unfold A0q;rw[List.range_succ,List.filter_append];by_cases h:(n:Int)∈P<;>simp[h]
theorem A6R {p:Int} {h w:Nat} {E:List (List Int)} {P:List Int} (hp:2≤p) (r:Rref p h w w E P) {K:List (List Int)} (hl:K.length=(A0q w P).length) (hk:∀ l,l<K.length->KRow p w E P ((A0q w P).getD l 0) (K.getD l [])):KerOk p w E P K:=by
 refine⟨⟨hl,fun x hx=>?_⟩,fun i hi q hq=>?_⟩
 . obtain⟨l,hl2,rfl⟩:=List.getElem_of_mem hx;rw[<-A0y (d:=[]) hl2];exact⟨(hk l hl2).len,(hk l hl2).inn⟩
 . have k:=hk i (by omega);obtain⟨f1,f2⟩:=A4T hi;by_cases hqp:(q:Int)∈P
   . obtain⟨l,hl2,rfl⟩:=(A0h r q).1 hqp;rw[A4i r f1 f2 hl2];show p ∣ (K.getD i []).getD (pv P l) 0-_;rw[k.piv l hl2,show-en E l ((A0q w P).getD i 0)=0-en E l ((A0q w P).getD i 0)by omega];exact A1h _ _
   . rw[A0p r _ hqp];show p ∣ (K.getD i []).getD q 0-_;by_cases e:q=(A0q w P).getD i 0
     . rw[e,k.one,dl,if_pos rfl];exact Int.dvd_zero p
     . rw[k.zer q hq e hqp,dl,if_neg e];exact Int.dvd_zero p
theorem Ag6.val {m:MatV} (h:MatOk m) {R C:Nat} (hr:m.2.1=(R:Int)) (hc:m.2.2.1=(C:Int)) :
   ∃ K,Ag6.F (m,())=some ((K,()),())/\KerOk m.1 C (gjN m.1 C (A0n m.2.2.2 R C) C).1 (gjN m.1 C (A0n m.2.2.2 R C) C).2 K:=by
 obtain⟨R',C',hr',hc',hR,hC,hl,hp,ha⟩:=h.nat;obtain rfl:R'=R:=by omega
 obtain rfl:C'=C:=by omega
 have hpr:=h.1;have o:=A3p h hr hc hl;obtain⟨det,he⟩:=Ac0.val hp (by omega) (by omega) o;have e0:=Ag8.val m.1 R' C' m.2.2.2 (by omega) (by omega) hl;obtain⟨r,hn⟩:=A0O hpr o C' (Nat.le_refl _);have hlP:=r.len;generalize (gjN m.1 C' (A0n m.2.2.2 R' C') C').1=E at *;generalize (gjN m.1 C' (A0n m.2.2.2 R' C') C').2=P at *;obtain⟨p,mr,mc,xs⟩:=m;obtain rfl:mr=(R':Int):=hr;obtain rfl:mc=(C':Int):=hc;simp only at he e0 hp hpr r;have hfl:∀ i,(A0q i P).length≤i:=fun i=>by
   unfold A0q;exact Nat.le_trans (List.length_filter_le _ _) (by simp)
 obtain⟨K,⟨hK1,hK2⟩,hg⟩:=Goes.loop (R:=(List (List Int)×Unit)×Unit) (fun k i (s:List (List Int))=>Ag6.l5 k (C':Int) (i:Int) p (R':Int) (C':Int) xs E P s) C' (fun i s=>s.length=(A0q i P).length/\∀ l,l<s.length->KRow p C' E P ((A0q i P).getD l 0) (s.getD l [])) (fun i s hi ⟨h1,h2⟩=>by
   by_cases hip:(i:Int)∈P
   . refine⟨s,by rw[A2M,if_pos hip,List.append_nil];exact⟨h1,h2⟩,Goes.succ fun k=>?_⟩;rw[Ag6.l5_eq,if_pos (ltI.2 hi),Ah9.val P _ (by omega)];simp only[Option.bind_some];rw[if_pos (by simpa using hip),A0x (by omega)]
   . have hz:∀ q,(List.replicate C' (0:Int)).getD q 0=0:=fun q=>by
       simp only[List.getD_eq_getElem?_getD,List.getElem?_replicate];split<;>rfl
     have gs:∀ (l:List Int) (q:Nat) (v:Int) (s:Nat),q<l.length->(l.set q v).getD s 0=if s=q then v else l.getD s 0:=fun l q v s hq=>by
       simp only[List.getD_eq_getElem?_getD,List.getElem?_set];by_cases hqs:q=s
       . subst hqs;simp[hq]
       . simp[hqs,Ne.symm hqs]
     have hne:∀ k,k<P.length->pv P k≠i:=fun k hk e=>hip ((A0h r i).2 ⟨k,hk,e⟩);obtain⟨x,⟨x1,x2,x3,x4,x5⟩,hg2⟩:=Goes.loop (R:=(List (List Int)×Unit)×Unit) (fun k j (x:List Int)=>Ag6.l11 k (i:Int) (C':Int) (i:Int) (P.length:Int) (j:Int) p (R':Int) (C':Int) xs E P s x) P.length (fun j x=>x.length=C'/\A0N 0 (p-1) x/\x.getD i 0=1/\(∀ k,k<j->x.getD (pv P k) 0=(0-en E k i)%p)/\∀ q,q<C'->q≠i->(q:Int)∉P->x.getD q 0=0) (fun j x hj ⟨y1,y2,y3,y4,y5⟩=>by
       have hjr:=r.inr j hj;have hjw:=r.pw hj;have hjE:j<E.length:=by rw[r.ok.len];omega
       have hrow:=(r.ok.at (i:=j) (by omega)).1;have hcell:=r.ok.cell (i:=j) (by omega) i hi;have hpvj:(P.getD j 0).toNat=pv P j:=rfl;refine⟨x.set (pv P j) ((0-en E j i)%p),⟨by simp[y1],fun z hz2=>(List.mem_or_eq_of_mem_set hz2).elim (y2 z) fun e=>e▸(A2d hp.1),?_,fun k hk=>?_,fun q hq hqi hqp=>?_⟩,Goes.succ fun k=>?_⟩
       . rw[gs _ _ _ _ (by omega),if_neg (Ne.symm (hne j hj))];exact y3
       . rw[gs _ _ _ _ (by omega)];by_cases e:pv P k=pv P j
         . rw[if_pos e,r.inj (show k<P.length by omega) hj e]
         . rw[if_neg e];have:k≠j:=fun e2=>e (by rw[e2]);exact y4 k (by omega)
       . rw[gs _ _ _ _ (by omega),if_neg (fun e=>hqp ((A0h r q).2 ⟨j,hj,e.symm⟩))];exact y5 q hq hqi hqp
       . rw[Ag6.l11_eq,if_pos (ltI.2 hj),if_pos (idxI.2 hj),if_pos (idxI.2 hjE)];simp only[Int.toNat_natCast];have hcell:0≤(E.getD j []).getD i 0/\(E.getD j []).getD i 0≤p-1:=hcell;rw[if_pos (by rw[hrow];omega),A0j (x:=0-(E.getD j []).getD i 0) (by omega) (by omega),Ah8.val hp];simp only[Option.bind_some];rw[if_pos (by rw[y1];omega),A0x (by omega),hpvj]) 0 ((List.replicate C' (0:Int)).set i 1) (Nat.zero_le _) ⟨by simp,fun z hz2=>(List.mem_or_eq_of_mem_set hz2).elim (fun hz3=>by rw[List.eq_of_mem_replicate hz3];omega) fun e=>by rw[e];omega,by rw[gs _ _ _ _ (by simpa using hi),if_pos rfl],fun k hk=>by omega,fun q hq hqi _=>by rw[gs _ _ _ _ (by simpa using hi),if_neg hqi,hz]⟩
     refine⟨s++[x],⟨by rw[A2M,if_neg hip];simp[h1],fun l hl2=>?_⟩,(Goes.succ fun k=>?_).trans (hg2.trans (Goes.succ fun k=>?_))⟩
     . rw[A2M,if_neg hip];by_cases hls:l<s.length
       . have a1:(s++[x]).getD l []=s.getD l []:=by simp[List.getD_eq_getElem?_getD,List.getElem?_append_left hls]
         have a2:(A0q i P++[i]).getD l 0=(A0q i P).getD l 0:=by simp[List.getD_eq_getElem?_getD,List.getElem?_append_left (show l<(A0q i P).length by omega)]
         rw[a1,a2];exact h2 l hls
       . have hle:l=s.length:=by simp at hl2;omega
         have a1:(s++[x]).getD l []=x:=by rw[hle];simp[List.getD_eq_getElem?_getD]
         have a2:(A0q i P++[i]).getD l 0=i:=by rw[hle,h1];simp[List.getD_eq_getElem?_getD]
         rw[a1,a2];exact⟨x1,x2,x3,x4,x5⟩
     . rw[Ag6.l5_eq,if_pos (ltI.2 hi),Ah9.val P _ (by omega)];simp only[Option.bind_some];rw[if_neg (by simpa using hip),if_pos (by simp only[bigN];omega),if_pos (by simp;omega)];simp only[Int.toNat_natCast];rfl
     . have:=hfl i;rw[Ag6.l11_eq,if_neg (by simp),if_pos (by simp only[List.length_cons,List.length_nil,bigA];omega),A0x (by omega)]) 0 [] (Nat.zero_le _) ⟨by simp[A0q],by simp⟩
 refine⟨K,Ag6.of _ _ _ _ (Ev.of_eq (hg _ ((Ev.const _).succ fun k=>?_)) fun k=>?_),A6R hp.1 r hK1 hK2⟩
 . rw[Ag6.l5_eq,if_neg (by simp)]
 . rw[Ag6.T,e0];simp only[Option.bind_some,he];rfl
theorem Ap0.val (xs:List Int) (h:xs.length≤1048576):∃ v,Ap0.F (xs,())=some ((v,()),())/\(v=true↔∀ x∈xs,x=0):=by
 have hcf:=Ac9.val xs (Ar5.cloG (())) (fun a=>decide (a≠0)) (fun a _=>by
   show(Ar5.F (a,())).map (·.1)=_;rw[Ar5.eq,Ar5.T];by_cases h:a=0<;>simp[h]) (by omega)
 refine⟨!(xs.any fun a=>decide (a≠0)),?_,?_⟩
 . rw[Ap0.eq,Ap0.T,hcf];rfl
 . simp
theorem A5K {R:Type} (a:Option R):Go.Vm.both a a=a:=by unfold Go.Vm.both;rw[if_pos rfl]
theorem rk_w {p:Int} {h w:Nat} {R:List (List Int)} (hp:A0G p) (o:RowsOk p h w R):rk p w R≤w:=by
 obtain⟨r,_⟩:=A0O hp o w (Nat.le_refl _);have:=A4v r;unfold rk;omega
theorem A5N {p:Int} {h w:Nat} {R:List (List Int)} (hp:A0G p) (o:RowsOk p h w R) {k:Nat} (hk:k<rk p w R):(A0Z p w R).getD k []=(gjN p w R w).1.getD k []:=by
 unfold A0Z;simp[List.getD_eq_getElem?_getD,hk]
theorem A4O {p:Int} {h w:Nat} {R:List (List Int)} (hp:A0G p) (o:RowsOk p h w R):RowsOk p (rk p w R) w (A0Z p w R):=by
 obtain⟨r,_⟩:=A0O hp o w (Nat.le_refl _);exact⟨A1X hp o,fun x hx=>r.ok.row x (List.mem_of_mem_take hx)⟩
theorem Am2.val {p:Int} {h w:Nat} (hp:A0G p) (hw:w≤256) {R:List (List Int)} (o:RowsOk p h w R) (u v:Int):Am2.F ((u,(v,A0Z p w R)),())=some (((gjN p w R w).2,()),()):=by
 obtain⟨r,_⟩:=A0O hp o w (Nat.le_refl _);have hl:=A1X hp o;have hrw:=rk_w hp o;have hP:(gjN p w R w).2.length=rk p w R:=rfl;refine Am2.of _ _ _ ?_;obtain⟨s,hs,hg⟩:=Goes.loop (R:=((List Int×Unit)×Unit)) (fun k i (s:List Int)=>Am2.l3 k (A0Z p w R) ((A0Z p w R).length:Int) (i:Int) s) (A0Z p w R).length (fun i s=>s=(gjN p w R w).2.take i) (fun i s hi h2=>⟨_,rfl,Goes.succ fun k=>by
   rw[hl]at hi;have hb:=A5N hp o hi;have hrow:=(r.ok.at (i:=i) (by have:=r.len;omega));obtain⟨q,hq,hq'⟩:=Ae4.val ((A0Z p w R).getD i []) (Ar6.cloG (())) (fun a=>decide (a≠0)) (fun a _=>by
     show(Ar6.F (a,())).map (·.1)=_;rw[Ar6.eq,Ar6.T];by_cases h:a=0<;>simp[h]) (by rw[hb];omega)
   have h1:((gjN p w R w).1.getD i []).getD (pv (gjN p w R w).2 i) 0=1:=r.one i (by omega);have hpl:=r.pw (k:=i) (by omega);have hin:=r.inr i (by omega);have e:q=(gjN p w R w).2.getD i 0:=by
     rw[hb]at hq';rcases hq' with⟨_,h3⟩|⟨j,h3,rfl,h4,h5⟩
     . have:=h3 _ (A0z 0 (show pv (gjN p w R w).2 i<((gjN p w R w).1.getD i []).length by omega));rw[h1]at this;simp at this
     . rcases Nat.lt_trichotomy j (pv (gjN p w R w).2 i)with h6|h6|h6
       . have:((gjN p w R w).1.getD i []).getD j 0=0:=r.led i (by omega) j h6;rw[this]at h4;simp at h4
       . exact(congrArg (fun n:Nat=>(n:Int)) h6).trans (Int.toNat_of_nonneg hin.1)
       . have:=h5 _ h6;rw[h1]at this;simp at this
   rw[Am2.l3_eq,if_pos (by rw[hl];exact ltI.2 hi),if_pos (idxI.2 (by omega)),Int.toNat_natCast,hq];simp only[Option.bind_some];rw[if_pos (by rw[h2];simp only[List.length_take,List.length_cons,List.length_nil,bigA];omega),A0x (by omega),h2,e,List.take_add_one,List.getElem?_eq_getElem (by omega),Option.toList_some,A0y (by omega)]⟩) 0 [] (Nat.zero_le _) (by simp)
 refine Ev.of_eq (hg _ ((Ev.const _).succ fun k=>?_)) fun k=>rfl;rw[Am2.l3_eq,if_neg (by simp),hs,hl,<-hP,List.take_length]
def A0f (p:Int) (x:List Int) (E:List (List Int)) (P:List Int):Nat->List Int
 | 0=>x
 | i+1=>addL p ((p-x.getD (pv P i) 0)%p) (A0f p x E P i) (E.getD i [])
theorem A3C {p:Int} (hp:2≤p) {x:List Int} {w:Nat} (hx:x.length=w/\A0N 0 (p-1) x) (E:List (List Int)) (P:List Int):∀ i,(A0f p x E P i).length=w/\A0N 0 (p-1) (A0f p x E P i)
 | 0=>hx
 | i+1=>⟨by rw[A0f,A1O];exact(A3C hp hx E P i).1,A3S hp _ _⟩
theorem A4t {p:Int} (hp:2≤p) {x:List Int} {w:Nat} (hx:x.length=w/\A0N 0 (p-1) x) (E:List (List Int)) (P:List Int) (z:Nat->Int):∀ i,p ∣ dotN w (A0f p x E P i) z-(dotN w x z-sumN (fun j=>x.getD (pv P j) 0*dotN w (E.getD j []) z) i)
 | 0=>by
   have e:dotN w (A0f p x E P 0) z-(dotN w x z-sumN (fun j=>x.getD (pv P j) 0*dotN w (E.getD j []) z) 0)=0:=by rw[A0f];simp only[sumN];omega
   rw[e];exact Int.dvd_zero p
 | i + 1=>by
   have h1:=A4t hp hx E P z i;have h2:=A3U (p:=p) (c:=(p-x.getD (pv P i) 0)%p) (y:=E.getD i []) (A3C hp hx E P i).1 z;have h3:=A1h (p-x.getD (pv P i) 0) p;rw[A0f];generalize dotN w (addL p ((p-x.getD (pv P i) 0)%p) (A0f p x E P i) (E.getD i [])) z=A at h2 ⊢;generalize dotN w (A0f p x E P i) z=B at h1 h2;have e4:sumN (fun j=>x.getD (pv P j) 0*dotN w (E.getD j []) z) (i+1)=sumN (fun j=>x.getD (pv P j) 0*dotN w (E.getD j []) z) i+x.getD (pv P i) 0*dotN w (E.getD i []) z:=rfl;rw[e4];generalize sumN (fun j=>x.getD (pv P j) 0*dotN w (E.getD j []) z) i=S at h1;generalize dotN w (E.getD i []) z=D at h2 ⊢;generalize (p-x.getD (pv P i) 0)%p=c at h2 h3;generalize x.getD (pv P i) 0=y at h3 ⊢;generalize dotN w x z=X at h1 ⊢;have h5:p ∣ (c-(p-y))*D:=Int.dvd_mul_of_dvd_left h3;have h6:p ∣ p*D:=Int.dvd_mul_right p D;have e:A-(X-(S+y*D))=(A-(B+c*D))+(B-(X-S))+((c-(p-y))*D+p*D):=by
     have a1:(c-(p-y))*D=c*D-p*D+y*D:=by rw[Int.sub_mul,Int.sub_mul];omega
     rw[a1];omega
   rw[e];exact Int.dvd_add (Int.dvd_add h2 h1) (Int.dvd_add h5 h6)
def A4e (p:Int) (w:Nat) (R:List (List Int)) (x:List Int):Prop:=∀ y,Null p w R y->p ∣ dotN w x y
theorem A5p {p:Int} {h w:Nat} {R:List (List Int)} (hp:A0G p) (o:RowsOk p h w R) {x:List Int} (hx:x.length=w/\A0N 0 (p-1) x):(∀ a∈A0f p x (gjN p w R w).1 (gjN p w R w).2 (rk p w R),a=0)↔A4e p w R x:=by
 obtain⟨r,hn⟩:=A0O hp o w (Nat.le_refl _);have hp2:=hp.1.1;obtain⟨l1,l2⟩:=A3C hp2 hx (gjN p w R w).1 (gjN p w R w).2 (rk p w R);have hP:(gjN p w R w).2.length=rk p w R:=rfl;have hdot:=fun z=>A4t hp2 hx (gjN p w R w).1 (gjN p w R w).2 z (rk p w R);have hnull:∀ y,Null p w R y->p ∣ sumN (fun j=>x.getD (pv (gjN p w R w).2 j) 0*dotN w ((gjN p w R w).1.getD j []) y) (rk p w R):=fun y hy=>A0S fun j hj=>Int.dvd_mul_of_dvd_right (((hn y).2 hy) j (by rw[r.ok.len];have:=r.len;omega));constructor
 . intro hz y hy;have h1:=hdot y;have e:dotN w (A0f p x (gjN p w R w).1 (gjN p w R w).2 (rk p w R)) y=0:=A0a fun q hq=>by
     rw[hz _ (A0z 0 (by omega)),Int.zero_mul]
   rw[e]at h1;have h2:=hnull y hy;have:=Int.dvd_sub h2 h1
   rwa [show ∀ a b:Int,a-(0-(b-a))=b by intros;omega]at this
 . intro hs;have key:∀ q,q<w->p ∣ (A0f p x (gjN p w R w).1 (gjN p w R w).2 (rk p w R)).getD q 0:=by
     have piv:∀ l,l<rk p w R->p ∣ (A0f p x (gjN p w R w).1 (gjN p w R w).2 (rk p w R)).getD (pv (gjN p w R w).2 l) 0:=fun l hl=>by
       have h1:=hdot (dl (pv (gjN p w R w).2 l));have hlw:=r.pw (k:=l) (by omega);rw[A1p _ hlw,A1p _ hlw,A0u hl fun k hk hne=>by
         rw[A1p _ hlw];have:=r.en0 (k:=k) (l:=l) (by omega) (by omega) hne;unfold en at this;rw[this,Int.mul_zero],A1p _ hlw]at h1
       have h3:=r.one l (by omega);unfold en at h3;rw[h3,Int.mul_one,Int.sub_self,Int.sub_zero]at h1;exact h1
     intro q hq;by_cases hqp:(q:Int)∈(gjN p w R w).2
     . obtain⟨l,hl,rfl⟩:=(A0h r q).1 hqp;exact piv l hl
     . have hy:Null p w R (fixV w (gjN p w R w).1 (gjN p w R w).2 (dl q)):=(hn _).1 (A1T r (dl q));have h1:=hdot (fixV w (gjN p w R w).1 (gjN p w R w).2 (dl q));have h2:=hnull _ hy;have h3:=hs _ hy;have h4:=Int.dvd_add h1 (Int.dvd_sub h3 h2);rw[show ∀ a b c:Int,a-(b-c)+(b-c)=a by intros;omega]at h4;have h5:p ∣ dotN w (A0f p x (gjN p w R w).1 (gjN p w R w).2 (rk p w R)) (fixV w (gjN p w R w).1 (gjN p w R w).2 (dl q))-(A0f p x (gjN p w R w).1 (gjN p w R w).2 (rk p w R)).getD q 0*fixV w (gjN p w R w).1 (gjN p w R w).2 (dl q) q:=A1d hq fun t ht hne=>by
         by_cases htp:(t:Int)∈(gjN p w R w).2
         . obtain⟨l,hl,rfl⟩:=(A0h r t).1 htp;exact Int.dvd_mul_of_dvd_left (piv l hl)
         . rw[A0p r _ htp,dl,if_neg hne,Int.mul_zero];exact Int.dvd_zero p
       rw[A0p r _ hqp,dl,if_pos rfl,Int.mul_one]at h5;exact(A0c h5).1 h4
   intro a ha;obtain⟨q,hq,rfl⟩:=List.getElem_of_mem ha;have h1:=key q (by omega);have h2:=l2 _ ha;rw[A0y hq]at h1;exact A6r h2 (by omega) (by simpa using h1)
theorem Ao7.val {p:Int} {h w:Nat} (hp:A0G p) (hw:w≤256) {R:List (List Int)} (o:RowsOk p h w R) {x:List Int} (hx:x.length=w/\A0N 0 (p-1) x) (v:Int):∃ b,Ao7.F ((p,(v,A0Z p w R)),x,())=some ((b,()),())/\(b=true↔A4e p w R x):=by
 obtain⟨r,hn⟩:=A0O hp o w (Nat.le_refl _);have hp2:=hp.1.1;have hp3:=hp.1.2;have hl:=A1X hp o;have hrw:=rk_w hp o;have hP:(gjN p w R w).2.length=rk p w R:=rfl;obtain⟨s,hs,hg⟩:=Goes.loop (R:=((List Int×Bool×Unit)×Unit)) (fun k i (s:List Int×List Int)=>An1.l4 k x s.1 ((gjN p w R w).2.length:Int) (i:Int) p v (A0Z p w R) s.2 (gjN p w R w).2) (gjN p w R w).2.length (fun i s=>s.1=A0f p x (gjN p w R w).1 (gjN p w R w).2 i/\s.2.length=i) (fun i s hi h2=>by
   obtain⟨q1,q2⟩:=h2;have hin:=r.inr i hi;have hpw:((gjN p w R w).2.getD i 0).toNat<w:=r.pw hi;obtain⟨l1,l2⟩:=A3C hp2 hx (gjN p w R w).1 (gjN p w R w).2 i;have hxi:=hx.2 _ (A0z 0 (show((gjN p w R w).2.getD i 0).toNat<x.length by omega));have hb:=A5N hp o (k:=i) (by omega);have hrow:=r.ok.at (i:=i) (by have:=r.len;omega);have hm:=Int.emod_nonneg (p-x.getD ((gjN p w R w).2.getD i 0).toNat 0) (show p≠0 by omega);have hm2:=Int.emod_lt_of_pos (p-x.getD ((gjN p w R w).2.getD i 0).toNat 0) (show 0<p by omega);have ea:Ae9.F (s.1,(A0Z p w R).getD i [],(p-x.getD ((gjN p w R w).2.getD i 0).toNat 0)%p,p,())=some ((A0f p x (gjN p w R w).1 (gjN p w R w).2 (i+1),()),()):=by
     rw[q1,hb,Ae9.val _ _ _ _ hp.1 ⟨hm,by omega⟩ l2 hrow.2 (by omega) (by omega)];rfl
   refine⟨(A0f p x (gjN p w R w).1 (gjN p w R w).2 (i+1),s.2++[x.getD ((gjN p w R w).2.getD i 0).toNat 0]),⟨rfl,by simp[q2]⟩,Goes.succ fun k=>?_⟩;rw[An1.l4_eq,if_pos (ltI.2 hi),if_pos (idxI.2 hi),Int.toNat_natCast,if_pos (by omega),if_pos (by rw[q2];simp only[List.length_cons,List.length_nil,bigA];omega),if_pos (idxI.2 (by omega)),if_pos (by omega),if_neg (by omega)];rw[A0j (by omega) (by omega),Int.tmod_eq_emod_of_nonneg (by omega),ea];simp only[Option.bind_some];rw[A0x (by omega)]) 0 (x,[]) (Nat.zero_le _) ⟨rfl,rfl⟩
 obtain⟨q1,q2⟩:=hs;obtain⟨l1,l2⟩:=A3C hp2 hx (gjN p w R w).1 (gjN p w R w).2 (gjN p w R w).2.length;obtain⟨b,e1,e2⟩:=Ap0.val s.1 (by rw[q1];omega);refine⟨b,?_,by rw[e2,q1];exact A5p hp o hx⟩;have hc:An1.F ((p,(v,A0Z p w R)),x,())=some ((s.2,(b,())),()):=by
   refine An1.of _ _ _ _ (Ev.of_eq (hg _ ((Ev.const _).succ fun k=>?_)) fun k=>?_)
   . rw[An1.l4_eq,if_neg (by simp),e1];rfl
   . rw[An1.T,Am2.val hp hw o];rfl
 rw[Ao7.eq,Ao7.T,hc];rfl
theorem A0t {p:Int} {h h' w:Nat} {R T:List (List Int)} (o:RowsOk p h w R) (o':RowsOk p h' w T):RowsOk p (h+h') w (R++T) :=
 ⟨by rw[List.length_append,o.len,o'.len],fun r hr=>(List.mem_append.1 hr).elim (o.row r) (o'.row r)⟩
theorem null_app {p:Int} {w:Nat} {R T:List (List Int)} {x:Nat->Int}:Null p w (R++T) x↔Null p w R x/\Null p w T x:=by
 have key:∀ {S:List (List Int)},Null p w S x↔∀ r∈S,p ∣ dotN w r x:=fun {S}=>⟨fun h r hr=>A4r h hr,fun h i hi=>h _ (A0z [] hi)⟩;rw[key,key,key];exact⟨fun h=>⟨fun r hr=>h r (List.mem_append_left _ hr),fun r hr=>h r (List.mem_append_right _ hr)⟩,fun h r hr=>(List.mem_append.1 hr).elim (h.1 r) (h.2 r)⟩
theorem null_single {p:Int} {w:Nat} {r:List Int} {x:Nat->Int}:Null p w [r] x↔p ∣ dotN w r x:=by
 constructor
 . intro h;exact A4r h (by simp)
 . intro h i hi;simp at hi;subst hi;exact h
theorem A2B {p:Int} {w:Nat} {x:List Int} (hx:x.length=w/\A0N 0 (p-1) x):RowsOk p 1 w [x]:=⟨rfl,fun r hr=>by rw[List.mem_singleton.1 hr];exact hx⟩
theorem rk_snoc {p:Int} {h w:Nat} {S:List (List Int)} (hp:A0G p) (o:RowsOk p h w S) {x:List Int} (hx:x.length=w/\A0N 0 (p-1) x) (hs:¬ A4e p w S x):rk p w (S++[x])=rk p w S+1:=by
 have o1:=A0t o (A2B hx);have o2:=A0t (A4O hp o) (A2B hx);have e:rk p w (A0Z p w S++[x])=rk p w (S++[x]):=A6a hp o2 o1 fun y=>by rw[null_app,null_app,A1g hp o]
 have h1:=rk_le hp o2;obtain⟨r,hn⟩:=A0O hp o w (Nat.le_refl _);obtain⟨r',hn'⟩:=A0O hp o1 w (Nat.le_refl _);have hsub:∀ y,Null p w (gjN p w (S++[x]) w).1 y->Null p w (gjN p w S w).1 y:=fun y hy=>(hn y).2 (null_app.1 ((hn' y).1 hy)).1;have h2:=(A1r r.asc r'.asc (A3h hp.1.1 r' r hsub)).1;have h3:(gjN p w S w).2.length=rk p w S:=rfl;have h4:(gjN p w (S++[x]) w).2.length=rk p w (S++[x]):=rfl;have hne:rk p w (S++[x])≠rk p w S:=fun he=>hs fun y hy=>by
   have:=A5b r' r hp.1.1 hsub (by rw[h3,h4,he]) y ((hn y).2 hy);exact null_single.1 (null_app.1 ((hn' y).1 this)).2
 omega
theorem Ak5.val {p:Int} {h n w:Nat} (hp:A0G p) (hw:w≤256) (hn:n≤1024) {R L:List (List Int)} (o:RowsOk p h w R) (oL:RowsOk p n w L):∃ t,Ak5.F ((p,((w:Int),A0Z p w R)),L,())=some ((t,()),())/\t.length+rk p w R=rk p w (R++L)/\t.length≤n:=by
 obtain⟨s,hs,hg⟩:=Goes.loop (R:=((List (List Int)×Unit)×Unit)) (fun k i (s:List (List Int)×List (List Int))=>Ak5.l3 k L (L.length:Int) (i:Int) p (w:Int) s.1 s.2) L.length
   (fun i s=>∃ q,RowsOk p q w s.2/\q≤i/\s.1=A0Z p w (R++s.2)/\s.2.length+rk p w R=rk p w (R++s.2)/\∀ y,Null p w (R++s.2) y↔Null p w (R++L.take i) y) (fun i s hi h2=>by
     obtain⟨B,t⟩:=s;dsimp only at h2;obtain⟨q,ot,hqi,hB,hrk,hnull⟩:=h2;subst hB;have hi':i<n:=by rw[<-oL.len];exact hi
     have hx:=oL.at hi';have oS:=A0t o ot;have hlt:=ot.len;have hlt:t.length=q:=hlt;have hrS:=rk_w hp oS;have hbl:=A1X hp oS;have htake:L.take (i+1)=L.take i++[L.getD i []]:=by rw[List.take_add_one,List.getElem?_eq_getElem hi,Option.toList_some,A0y hi]
     obtain⟨b,e1,e2⟩:=Ao7.val hp hw oS hx (w:Int);cases b with
     | true =>
       refine⟨(A0Z p w (R++t),t),⟨q,ot,by omega,rfl,hrk,fun y=>?_⟩,Goes.succ fun k=>?_⟩
       . have hin:=e2.1 rfl;rw[htake];constructor
         . intro hy;have h3:=null_app.1 ((hnull y).1 hy);exact null_app.2 ⟨h3.1,null_app.2 ⟨h3.2,null_single.2 (hin y hy)⟩⟩
         . intro hy;have h3:=null_app.1 hy;exact(hnull y).2 (null_app.2 ⟨h3.1,(null_app.1 h3.2).1⟩)
       . rw[Ak5.l3_eq,if_pos (ltI.2 hi),if_pos (idxI.2 hi),Int.toNat_natCast,e1];simp only[Option.bind_some];rw[if_neg (by simp),A0x (by omega)]
     | false =>
       have hns:¬ A4e p w (R++t) (L.getD i []):=fun hh=>absurd (e2.2 hh) (by simp);have hsn:=rk_snoc hp oS hx hns;have oS':=A0t oS (A2B hx);have oB':=A0t (A4O hp oS) (A2B hx);have eB:A0Z p w (A0Z p w (R++t)++[L.getD i []])=A0Z p w (R++(t++[L.getD i []])):=by
         rw[<-List.append_assoc];exact(A6G hp oB' oS').2 fun y=>by rw[null_app,null_app,A1g hp oS]
       refine⟨(A0Z p w (R++(t++[L.getD i []])),t++[L.getD i []]),⟨q+1,A0t ot (A2B hx),by omega,rfl,?_,fun y=>?_⟩,Goes.succ fun k=>?_⟩
       . simp only[List.length_append,List.length_cons,List.length_nil];rw[<-List.append_assoc,hsn];omega
       . rw[htake,<-List.append_assoc,<-List.append_assoc,null_app,null_app (R:=R++L.take i),hnull y]
       . have hsm:SmL (A0Z p w (R++t)):=(A4O hp oS).small (by omega) hw;have hsp:=Aa6.val hp (h:=rk p w (R++t)+1) (by omega) hw oB';rw[Ak5.l3_eq,if_pos (ltI.2 hi),if_pos (idxI.2 hi),Int.toNat_natCast,e1];simp only[Option.bind_some];rw[if_pos (by simp),if_pos (by simp only[List.length_cons,List.length_nil,bigA];omega),Ad3.val _ hsm];simp only[Option.bind_some];have hbig:(A0Z p w (R++t)).length+[L.getD i []].length≤bigA:=by simp only[List.length_cons,List.length_nil,bigA];omega
         simp only[if_pos hbig,hsp,Option.bind_some,A5K,eB,A0x (show i<4611686018427387904 by omega)]) 0 (A0Z p w R,[]) (Nat.zero_le _) ⟨0,⟨rfl,by simp⟩,Nat.le_refl _,by simp,by simp,fun y=>by simp⟩
 obtain⟨q,ot,hqi,hB,hrk,hnull⟩:=hs;have ht:s.2.length=q:=ot.len;refine⟨s.2,Ak5.of _ _ _ _ (Ev.of_eq (hg _ ((Ev.const _).succ fun k=>?_)) fun k=>rfl),?_,by rw[ht,<-oL.len];exact hqi⟩
 . rw[Ak5.l3_eq,if_neg (by simp)]
 . rw[hrk];refine A6a hp (A0t o ot) (A0t o oL) fun y=>?_;rw[hnull y,List.take_length]
theorem Ab5.val (s:ShfV) (ho:SheafOk s) (k:Int) (hk:-1≤k/\k≤10):Ab5.F (s,k,())=some ((cobM s k,()),()):=by
 have hcl:=ho.1.1;have hp:=ho.2.1.1;obtain⟨c1,c2⟩:=A0P ho k;obtain⟨d1,d2⟩:=A0P ho (k+1);obtain⟨W,hW⟩:∃ W,(A0C s k).toNat=W:=⟨_,rfl⟩;obtain⟨H,hH⟩:∃ H,(A0C s (k+1)).toNat=H:=⟨_,rfl⟩;have eW:A0C s k=(W:Int):=by omega
 have eH:A0C s (k+1)=(H:Int):=by omega
 obtain⟨hs,ehs⟩:∃ hs,A0B s.1 (k+1) s.1.length=hs:=⟨_,rfl⟩;have hsl:hs.length≤48:=by rw[<-ehs];have:=A0M s.1 (k+1) s.1.length;omega
 have hsat:∀ m,m<hs.length->∃ j:Nat,hs.getD m 0=(j:Int)/\j<s.1.length/\((s.1.getD j []).length:Int)=k+2:=fun m hm=>by
   rw[<-ehs]at hm ⊢;obtain⟨j,a,b,c⟩:=A3d hm;exact⟨j,a,b,by omega⟩
 have hT:∀ r,Ev (fun n=>Ab5.T n s.1 s.2.1 s.2.2.1 s.2.2.2 k) r->Ab5.F (s,k,())=some r:=fun r hr=>Ab5.of _ _ _ _ _ hr;have w1:IntKind.i64.wrap (k+1)=k+1:=A0j (by omega) (by omega);have g1:=Ad4.val' s ho (k+1) (by omega);have g2:=Ad4.val' s ho k (by omega);have g3:=Ae5.val s.1 (k+1) (by omega) (by omega);rw[ehs]at g3;have hM:cobM s k=(s.2.1,(H:Int),(W:Int),wr (cobW s k) (List.replicate (H*W) 0)):=by rw[cobM,eH,eW];simp only[Int.toNat_natCast]
 rw[hM];refine hT _ (Ev.of_eq (N:=fun n=>Ab5.l4 n s.1 s.2.1 s.2.2.1 s.2.2.2 k ((0:Nat):Int) 0 0 0 [] s.2.1 (H:Int) (W:Int) (List.replicate (H*W) 0) hs) ?_ fun n=>?_)
 . by_cases hneg:k<0
   . have:cobW s k=[]:=by rw[cobW,if_pos hneg]
     rw[this];refine(Ev.const _).succ fun n=>?_;rw[Ab5.l4_eq];by_cases h0:0<hs.length
     . rw[if_pos (ltI.2 h0),if_neg (by simp only[decide_eq_true_eq];omega)];rfl
     . rw[if_neg (by simp only[decide_eq_true_eq];omega)];rfl
   . have:cobW s k=(List.range hs.length).flatMap fun n=>A3T s W (hs.getD n 0).toNat:=by rw[cobW,if_neg hneg,ehs,hW]
     rw[this];have main:=Goes.writes (R:=((MatV×Unit)×Unit)) (fun n m x=>Ab5.l4 n s.1 s.2.1 s.2.2.1 s.2.2.2 k (m:Int) 0 0 0 [] s.2.1 (H:Int) (W:Int) x hs) hs.length (H*W) (fun n=>A3T s W (hs.getD n 0).toNat) (fun m x hm hx=>by
       obtain⟨h,e1,e2,e3⟩:=hsat m hm;have f4:(fcs s.1 h).length≤4:=by have:=A1S ho.1 e2;simp only[fcs,List.length_map];exact this
       have q2 : Ag2.F ((s.1,(s.2.1,(s.2.2.1,s.2.2.2))),(h:Int),())=_:=Ag2.val s ho h e2;have E3:=fun n=>Ab5.l4_eq n s.1 s.2.1 s.2.2.1 s.2.2.2 k (m:Int) 0 0 0 [] s.2.1 (H:Int) (W:Int) x hs;simp only[if_pos (ltI.2 hm),if_pos (idxI.2 hm),if_pos (show decide (k≥0)=true by simp only[decide_eq_true_eq];omega),Int.toNat_natCast,e1,Aa2.val s.1 ho.1 h e2,q2,Option.bind_some]at E3;refine(Goes.succ E3).trans ?_;rw[e1,Int.toNat_natCast];refine(Goes.writes (R:=((MatV×Unit)×Unit)) (fun n i x=>Ab5.l9 n s.1 s.2.1 s.2.2.1 s.2.2.2 k (m:Int) (A0T s h) (i:Int) 0 0 0 [] s.2.1 (H:Int) (W:Int) x hs (fcs s.1 h)) (fcs s.1 h).length (H*W) (A3G s W h) (fun i x hi hx=>by
         obtain⟨f,R,C,T,L,B⟩:=blk ho e2 e3 hi;rw[hW,hH]at B;have q1:Aa4.F ((s.1,(s.2.1,(s.2.2.1,s.2.2.2))),(h:Int),(i:Int),())=_:=Aa4.val s ho h i e2 hi;have q3:Ag2.F ((s.1,(s.2.1,(s.2.2.1,s.2.2.2))),(f:Int),())=_:=Ag2.val s ho f B.flt;rw[B.left]at q3;have E7:=fun n=>Ab5.l9_eq n s.1 s.2.1 s.2.2.1 s.2.2.2 k (m:Int) (A0T s h) (i:Int) 0 0 0 [] s.2.1 (H:Int) (W:Int) x hs (fcs s.1 h);simp only[if_pos (ltI.2 hi),if_pos (idxI.2 hi),if_pos (idxI.2 hm),Int.toNat_natCast,e1,B.at_,q1,q3,Aq4.val i s.2.1 hp,Option.bind_some,B.rows,B.cols,B.prime,B.top]at E7;rw[B.top];refine(Goes.succ E7).trans ?_;have ew:A3G s W h i=(List.range R).flatMap (A2K s W h i):=by rw[A3G,B.rows,Int.toNat_natCast]
         rw[ew];refine(Goes.writes (R:=((MatV×Unit)×Unit)) (fun n a x=>Ab5.l15 n s.1 s.2.1 s.2.2.1 s.2.2.2 k (m:Int) (T:Int) (i:Int) s.2.1 (R:Int) (C:Int) (A0v s h i).2.2.2 (L:Int) (sgn s.2.1 i) (a:Int) 0 0 0 [] s.2.1 (H:Int) (W:Int) x hs (fcs s.1 h)) R (H*W) (A2K s W h i) (fun a x ha hx=>by
           refine(Goes.succ fun n=>by rw[Ab5.l15_eq,if_pos (ltI.2 ha)]).trans ?_;have ew3:A2K s W h i a=(List.range C).flatMap fun b=>[((T+a)*W+L+b,((A0v s h i).2.2.2.getD (a*C+b) 0*sgn s.2.1 i)%s.2.1)]:=by
             rw[A2K,B.cols,B.top,B.fc_,B.left];simp only[Int.toNat_natCast];exact A2c _ _
           rw[ew3];refine(Goes.writes (R:=((MatV×Unit)×Unit)) (fun n b x=>Ab5.l18 n s.1 s.2.1 s.2.2.1 s.2.2.2 k (m:Int) (T:Int) (i:Int) s.2.1 (R:Int) (C:Int) (A0v s h i).2.2.2 (L:Int) (sgn s.2.1 i) (a:Int) (b:Int) 0 0 0 [] s.2.1 (H:Int) (W:Int) x hs (fcs s.1 h)) C (H*W) (fun b=>[((T+a)*W+L+b,((A0v s h i).2.2.2.getD (a*C+b) 0*sgn s.2.1 i)%s.2.1)]) (fun b x hb hx=>Goes.succ fun n=>by
             obtain⟨p1,p2⟩:=A6n B.bT B.bL B.bH B.bW ha hb;have bT:=B.bT;have bL:=B.bL;have bH:=B.bH;have bW:=B.bW;obtain⟨e5,e6⟩:=A1P (show R≤32 by omega) (show C≤32 by omega) ha hb;have hce:=B.cells;have hel:=A2X hp (A0D B.el (show a*C+b<(A0v s h i).2.2.2.length by omega)) (A7z hp i);rw[Ab5.l18_eq,if_pos (ltI.2 hb),e5,if_pos (by omega),if_neg (by omega),p1,if_pos (by omega),A0x (by omega)];simp only[Int.toNat_natCast];rw[A0j (x:=(A0v s h i).2.2.2.getD (a*C+b) 0*sgn s.2.1 i) (by omega) (by omega),A2U (by omega)];rfl) x hx).trans (Goes.succ fun n=>by
               have bT:=B.bT;have bH:=B.bH;rw[Ab5.l18_eq,if_neg (by simp),A0x (by omega)])) x hx).trans (Goes.succ fun n=>by rw[Ab5.l15_eq,if_neg (by simp),A0x (by omega)])) x hx).trans (Goes.succ fun n=>by rw[Ab5.l9_eq,if_neg (by simp),A0x (by omega)];rfl)) (List.replicate (H*W) 0) (by simp)
     refine main _ ((Ev.const _).succ fun n=>?_);rw[Ab5.l4_eq,if_neg (by simp)]
 . rw[Ab5.T,w1,g1,g2,eH,eW];simp only[Option.bind_some];rw[Ad0.val s.2.1 H W (by omega) (by omega),g3];rfl
theorem Am8.val (c:List (List Int)) (h:CplxOk c):Am8.F (c,3,())=some ((c,()),()):=by
 have hn:=h.small.1;refine Am8.of _ _ ?_;obtain⟨s,hs,hg⟩:=Goes.loop (R:=((List (List Int)×Unit)×Unit)) (fun k i (x:List (List Int))=>Am8.l3 k c 3 (i:Int) [] x) c.length (fun i x=>x=c.take i) (fun i x hi h2=>⟨_,rfl,Goes.succ fun k=>by
   have h4:=(h.2 i hi).1.1.2;rw[Am8.l3_eq,if_pos (ltI.2 hi),if_pos (idxI.2 hi),A0j (x:=(3:Int)+1) (by omega) (by omega)];simp only[Int.toNat_natCast,Ab2.val _ (h.small.2 _ (A0z [] hi)),Option.bind_some];rw[if_pos (by simp only[decide_eq_true_eq];omega),if_pos (idxI.2 hi),if_pos (by rw[h2];simp only[List.length_take,List.length_cons,List.length_nil,bigA];omega),A0x (by omega),h2,List.take_add_one,List.getElem?_eq_getElem hi,Option.toList_some,A0y hi]⟩) 0 [] (Nat.zero_le _) rfl
 rw[List.take_of_length_le (Nat.le_refl _)]at hs;refine Ev.of_eq (hg _ ((Ev.const _).succ fun k=>?_)) fun k=>rfl;rw[Am8.l3_eq,if_neg (by simp),hs]
theorem SheafOk.mats {s:ShfV} (h:SheafOk s):∀ m∈s.2.2.2,MatOk m:=by
 intro m hm;obtain⟨q,hq,rfl⟩:=List.getElem_of_mem hm;obtain⟨i,hi,j,hj,rfl⟩:=A4D (show q<off s.1 s.1.length by have:=h.2.2.2.1;omega);have:=(h.2.2.2.2 i hi j hj).1
 rwa [A0y hq]at this
def A4P (s:ShfV) (i:Nat):Int:=A0C s (i:Int)-(A3B (cobM s (i:Int)):Int)-(A3B (cobM s ((i:Int)-1)):Int)
theorem A1V {s:ShfV} (h:SheafOk s):SmSh s:=by
 refine⟨h.1.small,?_,?_,fun m hm=>(h.mats m hm).small⟩
 . have:=h.2.2.1.1;have:=h.1.1;unfold Sm;omega
 . have:=h.2.2.2.1;have:=A1G h.1 (Nat.le_refl s.1.length);have:=h.1.1;omega
noncomputable def cohV (s:ShfV):List Int×Int:=@ite _ (A1q s) (Classical.propDecidable _) ((List.range 4).map (A4P s),0) ([],1)
theorem Ad8.val (s:ShfV) (hs:SmSh s):Ad8.F (s,())=some (((cohV s).1,(cohV s).2,()),()):=by
 obtain⟨v,a1,a1'⟩:=Ad1.val s hs;have a1:Ad1.F ((s.1,(s.2.1,(s.2.2.1,s.2.2.2))),())=_:=a1;have hT:∀ r,Ev (fun n=>Ad8.T n s.1 s.2.1 s.2.2.1 s.2.2.2) r->Ad8.F (s,())=some r:=fun r hr=>Ad8.of _ _ _ _ hr;refine hT _ ?_;cases v with
 | false =>
   refine(Ev.const _).of_eq fun k=>?_;rw[Ad8.T,a1,cohV,if_neg fun hh=>absurd (a1'.2 hh) (by simp)];rfl
 | true =>
   have h:=a1'.1 rfl;have hdim:∀ i:Nat,i<4->As0.F ((s.1,(s.2.1,(s.2.2.1,s.2.2.2))),(i:Int),())=some ((A4P s i,()),()):=fun i hi=>by
     have r1:=Am7.val (A2J h.1 ((i:Int)-1));have r2:=Am7.val (A2J h.1 (i:Int));have q1:=A4s (A2J h.1 ((i:Int)-1));have q2:=A4s (A2J h.1 (i:Int));have b:=A0P h.1 (i:Int);have e2:Ab5.F ((s.1,(s.2.1,(s.2.2.1,s.2.2.2))),(i:Int)-1,())=_:=Ab5.val s h.1 ((i:Int)-1) (by omega);have e3:Ab5.F ((s.1,(s.2.1,(s.2.2.1,s.2.2.2))),(i:Int),())=_:=Ab5.val s h.1 (i:Int) (by omega);rw[As0.eq,As0.T,A0j (x:=(i:Int)-1) (by omega) (by omega),e3];simp only[Option.bind_some,e2,r1,r2];have ec:(cobM s (i:Int)).2.2.1=A0C s (i:Int):=rfl;rw[ec,A0j (x:=A0C s (i:Int)-(A3B (cobM s (i:Int)):Int)) (by omega) (by omega),A0j (by omega) (by omega),A4P]
   have g:=Goes.push (R:=(List Int×Int×Unit)×Unit) (fun k i x=>Ad8.l5 k (i:Int) s.1 s.2.1 s.2.2.1 s.2.2.2 x) 4 (A4P s) fun i x hi hx=>Goes.succ fun k=>by
     rw[Ad8.l5_eq,if_pos (by simp only[decide_eq_true_eq];omega),hdim i hi];simp only[Option.bind_some];rw[if_pos (A2z hx (by omega)),A0x (by omega)]
   refine Ev.of_eq (g _ ((Ev.const _).succ fun k=>?_)) fun k=>?_
   . rw[Ad8.l5_eq,if_neg (by decide),cohV,if_pos h]
   . rw[Ad8.T,a1];simp only[Option.bind_some];rw[if_neg (by simp)];rfl
theorem cols_ok {m:MatV} (hm:MatOk m) {R C:Nat} (hr:m.2.1=(R:Int)) (hc:m.2.2.1=(C:Int)):∃ T,Ag5.F (m,())=some ((T,()),())/\RowsOk m.1 C R T/\∀ i j,i<R->j<C->en T j i=en (A0n m.2.2.2 R C) i j:=by
 obtain⟨p,r,c,xs⟩:=m;obtain rfl:r=(R:Int):=hr;obtain rfl:c=(C:Int):=hc;obtain⟨R',C',h1,h2,h3,h4,h5,h6,h7⟩:=hm.nat;obtain rfl:R=R':=by have h1:(R:Int)=R':=h1;omega
 obtain rfl:C=C':=by have h2:(C:Int)=C':=h2;omega
 have h5:xs.length=R*C:=h5;have hT:(A1n (p,(R:Int),(C:Int),xs)).2.2.2.length=C*R:=by simp only[A1n,A0F,Int.toNat_natCast]
 refine⟨_,Ag5.val p R C xs hm,⟨by simp[A0n],fun r hr=>?_⟩,fun i j hi hj=>?_⟩
 . unfold A0n at hr;obtain⟨j,hj,rfl⟩:=List.mem_map.1 hr;have hj:=List.mem_range.1 hj;refine⟨A0Y hT hj,allIn_iff.2 fun q hq=>?_⟩;rw[A0Y hT hj]at hq;rw[A0l hq,A3E p R C xs hj hq];have hlt:q*C+j<R*C:=by
     have:=Nat.mul_le_mul_right C (show q+1≤R by omega);rw[Nat.add_mul,Nat.one_mul]at this;omega
   exact A0D h7 (by show _<xs.length;rw[h5];exact hlt)
 . unfold en;rw[A1K _ hj,A1K _ hi,A0l hi,A0l hj,A3E p R C xs hj hi]
theorem Ak2.val {s:ShfV} (hs:A1q s) {k:Nat} (hk:k≤3):∃ t,Ak2.F (s,(k:Int),())=some ((t,()),())/\(t.length:Int)=A4P s k:=by
 have ho:=hs.1;have hp:=ho.2.1;have m1:=A2J ho (k:Int);have m0:=A2J ho ((k:Int)-1);have b0:=A0P ho (k:Int);have b1:=A0P ho ((k:Int)+1);have b2:=A0P ho ((k:Int)-1);obtain⟨w,hw⟩:=Int.eq_ofNat_of_zero_le b0.1;obtain⟨H,hH⟩:=Int.eq_ofNat_of_zero_le b1.1;obtain⟨C,hC⟩:=Int.eq_ofNat_of_zero_le b2.1;have e1:(cobM s (k:Int)).2.1=(H:Int):=hH;have e2:(cobM s (k:Int)).2.2.1=(w:Int):=hw;have f1:(cobM s ((k:Int)-1)).2.1=(w:Int):=by
   show A0C s ((k:Int)-1+1)=_;rw[show(k:Int)-1+1=k by omega];exact hw
 have f2:(cobM s ((k:Int)-1)).2.2.1=(C:Int):=hC;have pm:(cobM s (k:Int)).1=s.2.1:=rfl;have pn:(cobM s ((k:Int)-1)).1=s.2.1:=rfl;have l1:(cobM s (k:Int)).2.2.2.length=H*w:=by
   have:=m1.2.2.2.1;rw[e1,e2]at this;have e:(H:Int)*(w:Int)=((H*w:Nat):Int):=by simp
   omega
 have l0:(cobM s ((k:Int)-1)).2.2.2.length=w*C:=by
   have:=m0.2.2.2.1;rw[f1,f2]at this;have e:(w:Int)*(C:Int)=((w*C:Nat):Int):=by simp
   omega
 obtain⟨T,eT,oT,ht⟩:=cols_ok m0 f1 f2;obtain⟨K,eK,hK⟩:=Ag6.val m1 e1 e2;have oR:=A3p m0 f1 f2 l0;have oE:=A3p m1 e1 e2 l1;rw[pm]at hK oE;rw[pn]at oT oR;obtain⟨r,hn⟩:=A0O hp oE w (Nat.le_refl _);have hfl:=A4v r;have hkr:=ker_rk hp r hK;obtain⟨t,et,ht1,ht2⟩:=Ak5.val hp (w:=w) (by omega) (by omega) oT hK.ok;have hnull:∀ y,Null s.2.1 w (T++K) y↔Null s.2.1 w K y:=fun y=>by
   rw[null_app];refine⟨fun h=>h.2,fun h=>⟨fun j hj=>?_,h⟩⟩;have hj:j<C:=by rw[oT.len]at hj;exact hj
   have hv:Null s.2.1 w (gjN s.2.1 w (A0n (cobM s (k:Int)).2.2.2 H w) w).1 (fun q=>(T.getD j []).getD q 0):=(hn _).2 fun i hi=>by
     have hi:i<H:=by rw[A2b]at hi;exact hi
     have hz:=dd_zero hs (k:=(k:Int)) (by omega) (i:=i) (j:=j) (by omega) (by omega);rw[hw,hC,Int.toNat_natCast,Int.toNat_natCast]at hz;rw[A1K _ hi];have ec:dotN w (rowL (cobM s (k:Int)).2.2.2 w i) (fun q=>(T.getD j []).getD q 0)=dotN w (rowL (cobM s (k:Int)).2.2.2 w i) (fun q=>(cobM s ((k:Int)-1)).2.2.2.getD (q*C+j) 0):=A0A fun q hq=>by
       have:=ht q j hq hj;unfold en at this;rw[A1K _ hq,A0l hj]at this;exact congrArg (fun z=>(rowL (cobM s (k:Int)).2.2.2 w i).getD q 0*z) this
     rw[ec];exact hz
   exact ker_ann r hK h hv
 have hrk:rk s.2.1 w (T++K)=rk s.2.1 w K:=A6a hp (A0t oT hK.ok) hK.ok hnull;have t1:=A4d hp oR oT ht;have t2:=A4d hp oT oR fun i j hi hj=>(ht j i hj hi).symm;have hr1:A3B (cobM s (k:Int))=(gjN s.2.1 w (A0n (cobM s (k:Int)).2.2.2 H w) w).2.length:=by rw[A3B,e1,e2];rfl
 have hr0:A3B (cobM s ((k:Int)-1))=rk s.2.1 C (A0n (cobM s ((k:Int)-1)).2.2.2 w C):=by rw[A3B,f1,f2];rfl
 refine⟨t,?_,by rw[A4P,hw,hr1,hr0];omega⟩;have c0:Aa5.F ((s.1,(s.2.1,(s.2.2.1,s.2.2.2))),(k:Int)-1,())=some ((cobM s ((k:Int)-1),()),()):=Aa5.val s ho ((k:Int)-1) (by omega);have c1:Aa5.F ((s.1,(s.2.1,(s.2.2.1,s.2.2.2))),(k:Int),())=some ((cobM s (k:Int),()),()):=Aa5.val s ho (k:Int) (by omega);have cb:Ar3.F ((s.1,(s.2.1,(s.2.2.1,s.2.2.2))),(k:Int),())=some (((s.2.1,((w:Int),A0Z s.2.1 w T)),()),()):=by
   rw[Ar3.eq,Ar3.T,A0j (x:=(k:Int)-1) (by omega) (by omega),c0];simp only[Option.bind_some];have eT':Ag5.F (((cobM s ((k:Int)-1)).1,((cobM s ((k:Int)-1)).2.1,((cobM s ((k:Int)-1)).2.2.1,(cobM s ((k:Int)-1)).2.2.2))),())=some ((T,()),()):=eT
   first
     | rw[eT']
     | rw[eT]
   simp only[Option.bind_some];rw[f1,Aa6.val hp (by omega) (by omega) oT];rfl
 have hT:Ak2.F (s,(k:Int),())=Ak2.T s.1 s.2.1 s.2.2.1 s.2.2.2 (k:Int):=Ak2.eq _ _ _ _ _;rw[hT,Ak2.T,cb];simp only[Option.bind_some];rw[c1];simp only[Option.bind_some];rw[eK];simp only[Option.bind_some];rw[et];rfl
theorem Ag3.val (s:ShfV) (hs:SmSh s):Ag3.F (s,())=some (((cohV s).1,(cohV s).2,()),()):=by
 obtain⟨v,a1,a1'⟩:=Af6.val s hs;have a1:Af6.F ((s.1,(s.2.1,(s.2.2.1,s.2.2.2))),())=_:=a1;have hT:∀ r,Ev (fun n=>Ag3.T n s.1 s.2.1 s.2.2.1 s.2.2.2) r->Ag3.F (s,())=some r:=fun r hr=>Ag3.of _ _ _ _ hr;refine hT _ ?_;cases v with
 | false =>
   refine(Ev.const _).of_eq fun k=>?_;rw[Ag3.T,a1,cohV,if_neg fun hh=>absurd (a1'.2 hh) (by simp)];rfl
 | true =>
   have h:=a1'.1 rfl;have g:=Goes.push (R:=(List Int×Int×Unit)×Unit) (fun k i x=>Ag3.l5 k (i:Int) s.1 s.2.1 s.2.2.1 s.2.2.2 x) 4 (A4P s) fun i x hi hx=>Goes.succ fun k=>by
     obtain⟨t,h1,h2⟩:=Ak2.val h (k:=i) (by omega);have h1:Ak2.F ((s.1,(s.2.1,(s.2.2.1,s.2.2.2))),(i:Int),())=_:=h1;rw[Ag3.l5_eq,if_pos (by simp only[decide_eq_true_eq];omega),h1];simp only[Option.bind_some];rw[Ak7.eq,Ak7.T,h2];simp only[Option.bind_some];rw[if_pos (A2z hx (by omega)),A0x (by omega)]
   refine Ev.of_eq (g _ ((Ev.const _).succ fun k=>?_)) fun k=>?_
   . rw[Ag3.l5_eq,if_neg (by decide),cohV,if_pos h]
   . rw[Ag3.T,a1];simp only[Option.bind_some];rw[if_neg (by simp)];rfl
open Go.Lib (compact compactUpTo compactUpTo_succ keeps)
theorem A4N:∀ {xs ys:List Int},xs.Pairwise (·<·)->ys.Pairwise (·<·)->(∀ s,s∈xs↔s∈ys)->xs=ys
 | [],ys,_,_,h=>by
   cases ys with
   | nil=>rfl
   | cons y ys=>exact absurd ((h y).2 (by simp)) (by simp)
 | x::xs,[],_,_,h=>absurd ((h x).1 (by simp)) (by simp)
 | x :: xs,y::ys,hx,hy,h=>by
   rw[List.pairwise_cons]at hx hy;have e:x=y:=by
     have h1:=(h x).1 (by simp);have h2:=(h y).2 (by simp);simp only[List.mem_cons]at h1 h2;rcases h1 with rfl|h1
     . rfl
     . rcases h2 with rfl|h2
       . rfl
       . have:=hx.1 y h2;have:=hy.1 x h1;omega
   subst e;rw[A4N hx.2 hy.2 fun s=>?_];constructor
   . intro hs;have:=(h s).1 (by simp[hs]);simp only[List.mem_cons]at this;rcases this with rfl|this
     . have:=hx.1 s hs;omega
     . exact this
   . intro hs;have:=(h s).2 (by simp[hs]);simp only[List.mem_cons]at this;rcases this with rfl|this
     . have:=hy.1 s hs;omega
     . exact this
theorem A3z (d:Array Int) (hs:∀ i j,i<j->j<d.size->d[i]! ≤ d[j]!):∀ m,m≤d.size->(compactUpTo d m).Pairwise (·<·)/\(∀ x,x∈compactUpTo d m↔∃ j,j<m/\d[j]! = x)/\∀ x∈compactUpTo d m,x≤d[m-1]!
 | 0,_=>⟨by simp[compactUpTo],fun x=>by simp[compactUpTo],fun x hx=>by simp[compactUpTo]at hx⟩
 | m + 1,h=>by
   obtain⟨h1,h2,h3⟩:=A3z d hs m (by omega);have hm:∀ x∈compactUpTo d m,x≤d[m]! := fun x hx=>by
     obtain⟨j,hj,rfl⟩:=(h2 x).1 hx;exact hs j m hj (by omega)
   rw[compactUpTo_succ];by_cases hk:keeps d m=true
   . rw[if_pos hk];have hlt:∀ x∈compactUpTo d m,x<d[m]! := fun x hx=>by
       have hm0:m≠0:=by
         rintro rfl;simp[compactUpTo]at hx
       simp only[keeps,hm0,false_or,decide_eq_true_eq,ne_eq]at hk;have:=h3 x hx;have:=hs (m-1) m (by omega) (by omega);omega
     refine⟨?_,fun x=>?_,fun x hx=>?_⟩
     . rw[List.pairwise_append];exact⟨h1,by simp,fun a ha b hb=>by simp only[List.mem_singleton]at hb;rw[hb];exact hlt a ha⟩
     . rw[List.mem_append,h2,List.mem_singleton];constructor
       . rintro(⟨j,hj,rfl⟩|rfl)
         . exact⟨j,by omega,rfl⟩
         . exact⟨m,by omega,rfl⟩
       . rintro⟨j,hj,rfl⟩;by_cases e:j=m
         . subst e;exact .inr rfl
         . exact .inl ⟨j,by omega,rfl⟩
     . simp only[Nat.add_sub_cancel];rw[List.mem_append,List.mem_singleton]at hx;rcases hx with hx|rfl
       . exact hm x hx
       . exact Int.le_refl _
   . rw[if_neg hk,List.append_nil];have hm0:m≠0/\d[m]! = d[m-1]! := by
       simp only[keeps,decide_eq_true_eq,ne_eq,not_or,Classical.not_not]at hk;exact hk
     refine⟨h1,fun x=>?_,fun x hx=>by simpa using hm x hx⟩;rw[h2];constructor
     . rintro⟨j,hj,rfl⟩;exact⟨j,by omega,rfl⟩
     . rintro⟨j,hj,rfl⟩;by_cases e:j=m
       . subst e;exact⟨j-1,by omega,hm0.2.symm⟩
       . exact⟨j,by omega,rfl⟩
def setI (xs:List Int):List Int:=compact (xs.mergeSort fun x y=>decide (x≤y))
theorem A2C (xs:List Int):(setI xs).Pairwise (·<·)/\∀ x,x∈setI xs↔x∈xs:=by
 obtain⟨ys,hys⟩:∃ ys,ys=xs.mergeSort fun x y=>decide (x≤y):=⟨_,rfl⟩;have hp:ys.Perm xs:=by rw[hys];exact List.mergeSort_perm _ _
 have hs:ys.Pairwise (fun a b=>decide (a≤b)=true):=by
   rw[hys];refine List.pairwise_mergeSort ?_ ?_ _
   . intro a b c h1 h2;simp only[decide_eq_true_eq]at *;omega
   . intro a b;simp only[Bool.or_eq_true,decide_eq_true_eq];omega
 have hget:∀ j (hj:j<ys.length),ys.toArray[j]! = ys[j]:=fun j hj=>by rw[getElem!_pos ys.toArray j (by simpa using hj)];simp
 obtain⟨h1,h2,-⟩:=A3z ys.toArray (fun i j hij hj=>by
   have hj':j<ys.length:=by simpa using hj
   have:=List.pairwise_iff_getElem.1 hs i j (by omega) hj' hij;rw[hget i (by omega),hget j hj'];simpa using this) ys.length (by simp)
 unfold setI;rw[<-hys];refine⟨h1,fun x=>?_⟩;show x∈compactUpTo ys.toArray ys.length↔_;rw[h2,<-hp.mem_iff];constructor
 . rintro⟨j,hj,rfl⟩;rw[hget j hj];exact List.getElem_mem hj
 . intro hx;obtain⟨j,hj,rfl⟩:=List.getElem_of_mem hx;exact⟨j,hj,hget j hj⟩
theorem Aq9.val (xs:List Int) (h:xs.length≤1048576):Aq9.F (xs,())=some ((),(xs.mergeSort fun x y=>decide (x≤y),())):=by
 unfold Aq9.F b5F;rw[if_pos (show xs.length<_ by omega)]
theorem Aq7.val (xs:List Int) (h:xs.length≤1048576):Aq7.F (xs,())=some ((compact xs,()),()):=by
 unfold Aq7.F b5y;rw[if_pos (show xs.length<_ by omega)]
def putL:List Int->Int->Bool->List Int
 | [],n,b=>if b=true then[]else[n]
 | x::l,n,b=>if b=true then x::putL l n true else if n≤x then(if n<x then n::x::putL l n true else x::putL l n true)else x::putL l n false
theorem A1b (n:Int):∀ l,putL l n true=l
 | []=>rfl
 | x::l=>by simp[putL,A1b n l]
theorem A4G (n:Int):∀ {l:List Int},l.Pairwise (·<·)->(putL l n false).Pairwise (·<·)/\∀ x,x∈putL l n false↔x=n∨x∈l
 | [],_=>⟨by simp[putL],fun x=>by simp[putL]⟩
 | y :: l,h=>by
   rw[List.pairwise_cons]at h;obtain⟨h1,h2⟩:=A4G n h.2;simp only[putL,Bool.false_eq_true,if_false,A1b];by_cases c1:n≤y
   . rw[if_pos c1];by_cases c2:n<y
     . rw[if_pos c2];refine⟨?_,fun x=>by simp⟩;rw[List.pairwise_cons,List.pairwise_cons];refine⟨fun a ha=>?_,h.1,h.2⟩;simp only[List.mem_cons]at ha;rcases ha with rfl|ha
       . exact c2
       . have:=h.1 a ha;omega
     . rw[if_neg c2];have:n=y:=by omega
       subst this;exact⟨List.pairwise_cons.2 h,fun x=>by simp⟩
   . rw[if_neg c1];refine⟨List.pairwise_cons.2 ⟨fun a ha=>?_,h1⟩,fun x=>?_⟩
     . rcases(h2 a).1 ha with rfl|ha
       . omega
       . exact h.1 a ha
     . rw[List.mem_cons,h2,List.mem_cons];constructor
       . rintro(h|h|h)
         . exact .inr (.inl h)
         . exact .inl h
         . exact .inr (.inr h)
       . rintro(h|h|h)
         . exact .inr (.inl h)
         . exact .inl h
         . exact .inr (.inr h)
theorem A6Z (n:Int) (l:List Int) (b:Bool):(putL l n b).length≤l.length+1:=by
 induction l generalizing b with
 | nil=>simp only[putL];split<;>simp
 | cons x l ih =>
   have h1:=A1b n l;simp only[putL];split
   . rw[h1];simp
   . split
     . split<;>rw[h1]<;>simp
     . have:=ih false;simp only[List.length_cons];omega
theorem Am5.val (xs:List Int) (n:Int) (h:xs.length≤1000):Am5.F (xs,n,())=some ((putL xs n false,()),()):=by
 refine Am5.of _ _ ?_;have key:∀ (m i:Nat) (b:Bool) (out:List Int),i+m=xs.length->out.length≤i+b.toNat->Ev (fun k=>Am5.l4 k xs n b (i:Int) out) ((out++putL (xs.drop i) n b,()),()):=by
   intro m;induction m with
   | zero =>
     intro i b out hi ho;have ho1:out.length≤i+1:=by have:=Bool.toNat_le b;omega
     have hi:i=xs.length:=by omega
     subst hi;refine(Ev.const _).succ fun k=>?_;rw[Am5.l4_eq,if_neg (by simp),List.drop_length];cases b with
     | false=>rw[if_pos (by simp),if_pos (by simp only[List.length_cons,List.length_nil,bigA];omega)];simp[putL]
     | true=>rw[if_neg (by simp)];simp[putL]
   | succ m ih =>
     intro i b out hi ho;have ho1:out.length≤i+1:=by have:=Bool.toNat_le b;omega
     have hlt:i<xs.length:=by omega
     have hd:xs.drop i=xs.getD i 0::xs.drop (i+1):=by rw[List.drop_eq_getElem_cons hlt,A0y hlt]
     have hb1:out.length+([xs.getD i 0]:List Int).length≤bigA:=by simp only[List.length_cons,List.length_nil,bigA];omega
     have hb2:out.length+([n]:List Int).length≤bigA:=by simp only[List.length_cons,List.length_nil,bigA];omega
     have hb3:∀ z:Int,(out++[n]).length+([z]:List Int).length≤bigA:=fun z=>by simp only[List.length_append,List.length_cons,List.length_nil,bigA];omega
     have E:=fun k=>Am5.l4_eq k xs n b (i:Int) out;simp only[if_pos (ltI.2 hlt),if_pos (idxI.2 hlt),Int.toNat_natCast,A0x (show i<4611686018427387904 by omega),if_pos hb1]at E;obtain⟨y,hy⟩:∃ y,y=xs.getD i 0:=⟨_,rfl⟩;rw[<-hy]at hd hb1;simp only[←hy]at E;rw[hd];cases b with
     | true =>
       have:=ih (i+1) true (out++[y]) (by omega) (by simp only[List.length_append,List.length_cons,List.length_nil,Bool.toNat_true,Bool.toNat_false]at *;omega);rw[List.append_assoc]at this;refine Ev.succ this fun k=>?_;rw[E,if_neg (by simp)]
     | false =>
       simp only[Bool.not_false,if_true]at E;by_cases c1:n≤y
       . by_cases c2:n<y
         . have:=ih (i+1) true (out++[n]++[y]) (by omega) (by simp only[List.length_append,List.length_cons,List.length_nil,Bool.toNat_true,Bool.toNat_false]at *;omega);have e:out++[n]++[y]++putL (xs.drop (i+1)) n true=out++putL (y::xs.drop (i+1)) n false:=by simp[putL,c1,c2,A1b]
           rw[e]at this;refine Ev.succ this fun k=>?_;rw[E,if_pos (by simpa using c1),if_pos (by simpa using c2),if_pos hb2,if_pos (hb3 _)]
         . have:=ih (i+1) true (out++[y]) (by omega) (by simp only[List.length_append,List.length_cons,List.length_nil,Bool.toNat_true,Bool.toNat_false]at *;omega);have e:out++[y]++putL (xs.drop (i+1)) n true=out++putL (y::xs.drop (i+1)) n false:=by simp[putL,c1,c2,A1b]
           rw[e]at this;refine Ev.succ this fun k=>?_;rw[E,if_pos (by simpa using c1),if_neg (by simpa using c2)]
       . have:=ih (i+1) false (out++[y]) (by omega) (by simp only[List.length_append,List.length_cons,List.length_nil,Bool.toNat_true,Bool.toNat_false]at *;omega);have e:out++[y]++putL (xs.drop (i+1)) n false=out++putL (y::xs.drop (i+1)) n false:=by simp[putL,c1]
         rw[e]at this;refine Ev.succ this fun k=>?_;rw[E,if_neg (by simpa using c1)]
 exact(key xs.length 0 false [] (by omega) (by simp)).of_eq fun k=>rfl
theorem A4H:∀ (l acc:List Int),acc.Pairwise (·<·)->(l.foldl (fun a n=>putL a n false) acc).Pairwise (·<·)/\∀ x,x∈l.foldl (fun a n=>putL a n false) acc↔x∈acc∨x∈l
 | [],acc,h=>⟨h,fun x=>by simp⟩
 | n :: l,acc,h=>by
   obtain⟨h1,h2⟩:=A4G n h;obtain⟨h3,h4⟩:=A4H l _ h1;refine⟨h3,fun x=>?_⟩;rw[List.foldl_cons,h4,h2,List.mem_cons];constructor
   . rintro((h|h)|h)
     . exact .inr (.inl h)
     . exact .inl h
     . exact .inr (.inr h)
   . rintro(h|h|h)
     . exact .inl (.inr h)
     . exact .inl (.inl h)
     . exact .inr h
theorem A5o (l:List Int):l.foldl (fun a n=>putL a n false) []=setI l:=by
 obtain⟨h1,h2⟩:=A4H l [] (by simp);obtain⟨h3,h4⟩:=A2C l;exact A4N h1 h3 fun s=>by rw[h2,h4];simp
def vts (c:List (List Int)):List Int:=(c.filter fun s=>s.length==1).map fun s=>s.getD 0 0
theorem A5z (c:List (List Int)) {i:Nat} (hi:i<c.length):vts (c.take (i+1))=vts (c.take i)++(if (c.getD i []).length=1 then[(c.getD i []).getD 0 0]else[]):=by
 unfold vts;rw[List.take_add_one,List.getElem?_eq_getElem hi,Option.toList_some,List.filter_append,List.map_append,A0y hi];congr 1;by_cases h:c[i].length=1<;>simp[h]
theorem A6B (c:List (List Int)) (i:Nat):(vts (c.take i)).length≤i:=by
 unfold vts;rw[List.length_map];exact Nat.le_trans (List.length_filter_le _ _) (by simp;omega)
theorem Ag9.val (c:List (List Int)) (hn:c.length≤1048576):Ag9.F (c,())=some ((vts c,()),()):=by
 refine Ag9.of _ ?_;obtain⟨s,hs,hg⟩:=Goes.loop (R:=((List Int×Unit)×Unit)) (fun k i (x:List Int)=>Ag9.l3 k c (c.length:Int) (i:Int) x) c.length (fun i x=>x=vts (c.take i)) (fun i x hi h2=>⟨_,rfl,Goes.succ fun k=>by
   have hl:=A6B c i;rw[Ag9.l3_eq,if_pos (ltI.2 hi),if_pos (idxI.2 hi)];simp only[Int.toNat_natCast];rw[A5z c hi,A0x (by omega),<-h2];by_cases h1:(c.getD i []).length=1
   . rw[if_pos (by simp only[beq_iff_eq];omega),if_pos (by omega),if_pos (by rw[h2];simp only[List.length_cons,List.length_nil,bigA];omega),if_pos h1];rfl
   . rw[if_neg (by simp only[beq_iff_eq];omega),if_neg h1,List.append_nil]⟩) 0 [] (Nat.zero_le _) rfl
 rw[List.take_of_length_le (Nat.le_refl _)]at hs;refine Ev.of_eq (hg _ ((Ev.const _).succ fun k=>?_)) fun k=>rfl;rw[Ag9.l3_eq,if_neg (by simp),hs]
theorem A3u {c:List (List Int)} (h:CplxOk c):∀ (n:Nat) (s:List Int),s∈c->s.length≤n->∀ v∈s,[v]∈c:=by
 intro n;induction n with
 | zero=>intro s hs hl v hv;have:s=[]:=List.length_eq_zero_iff.1 (by omega);subst this;simp at hv
 | succ n ih =>
   intro s hs hl v hv;by_cases h1:1<s.length
   . obtain⟨i,hi,hic⟩:∃ i,i<c.length/\c.getD i []=s:=by
       obtain⟨i,hi,rfl⟩:=List.getElem_of_mem hs;exact⟨i,hi,A0y hi⟩
     obtain⟨j,hj,hjv⟩:=List.getElem_of_mem hv;obtain⟨k,hk,hkj⟩:∃ k,k<s.length/\k≠j:=by
       by_cases e:j=0
       . exact⟨1,h1,by omega⟩
       . exact⟨0,by omega,by omega⟩
     have hmem:A0w s k∈c:=A1i h hi (by rw[hic];exact mem_faces.2 ⟨h1,k,hk,rfl⟩);refine ih (A0w s k) hmem (by rw[A0L hk];omega) v ?_;unfold A0w;rw[List.mem_append];by_cases h2:j<k
     . left;rw[List.mem_take_iff_getElem];exact⟨j,by omega,hjv⟩
     . right;rw[List.mem_drop_iff_getElem];refine⟨j-(k+1),by omega,?_⟩;rw[<-hjv];congr 1;omega
   . cases s with
     | nil=>simp at hv
     | cons a t =>
       have:t=[]:=List.length_eq_zero_iff.1 (by simp only[List.length_cons]at h1;omega);subst this;simp only[List.mem_singleton]at hv;subst hv;exact hs
theorem A3M:∀ {c:List (List Int)},(∀ s∈c,1≤s.length)->c.Pairwise (fun x y=>x.length≤y.length)->∃ B,c=(c.filter fun s=>s.length==1)++B/\∀ s∈B,s.length≠1
 | [],_,_=>⟨[],rfl,by simp⟩
 | x :: c,h1,h2=>by
   rw[List.pairwise_cons]at h2;obtain⟨B,hB,hB'⟩:=A3M (fun s hs=>h1 s (by simp[hs])) h2.2;by_cases hx:x.length=1
   . exact⟨B,by rw[List.filter_cons,if_pos (by simpa using hx),List.cons_append,<-hB],hB'⟩
   . have hall:∀ s∈x::c,s.length≠1:=fun s hs=>by
       have hx1:=h1 x (by simp);simp only[List.mem_cons]at hs;rcases hs with rfl|hs
       . exact hx
       . have:=h2.1 s hs;omega
     have hf:(x::c).filter (fun s=>s.length==1)=[]:=by
       rw[List.filter_eq_nil_iff];intro s hs;simpa using hall s hs
     exact⟨x::c,by rw[hf];rfl,hall⟩
def idxV (xs:List Int) (v:Int):Nat:=xs.findIdx fun x=>decide (x=v)
theorem A3c {xs:List Int} {v:Int} (h:v∈xs):idxV xs v<xs.length:=List.findIdx_lt_length_of_exists ⟨v,h,by simp⟩
theorem A2Y (v:Int):∀ {A:List (List Int)} (B:List (List Int)),(∀ s∈A,s.length=1)->[v]∈A->A0Q (A++B) [v]=idxV (A.map fun s=>s.getD 0 0) v
 | [],_,_,h=>by simp at h
 | s :: A,B,h1,h2=>by
   have hs:=h1 s (by simp);obtain⟨a,rfl⟩:∃ a,s=[a]:=by
     cases s with
     | nil=>simp at hs
     | cons a t=>exact⟨a,by rw[List.length_eq_zero_iff.1 (show t.length=0 by simpa using hs)]⟩
   unfold A0Q idxV;rw[List.cons_append,List.map_cons,List.findIdx_cons,List.findIdx_cons];by_cases e:a=v
   . subst e;simp
   . have h3:[v]∈A:=by
       simp only[List.mem_cons,List.cons.injEq,and_true]at h2;exact h2.resolve_left fun hh=>e hh.symm
     have ih:=A2Y v B (fun s hs=>h1 s (by simp[hs])) h3;unfold A0Q idxV at ih;have d1:decide ([a]=[v])=false:=by simp[e]
     have d2:decide (([a]:List Int).getD 0 0=v)=false:=by simp[e]
     rw[d1,d2,cond_false,cond_false,ih]
theorem A4U {c:List (List Int)} (h:CplxOk c) {v:Int} (hv:[v]∈c):A0Q c [v]=idxV (vts c) v/\v∈vts c:=by
 have hpw:c.Pairwise (fun x y=>x.length≤y.length):=by
   rw[List.pairwise_iff_getElem];intro i j hi hj hij;have:=h.sorted i j hij hj;rw[A0y hi,A0y hj]at this;refine Classical.byContradiction fun hc=>?_;have h2:=A3H (a:=c[j]) (b:=c[i]) (by omega);have h3:=A1A _ _ _ this h2;have h4:=(A0e c[i] c[i]).2 rfl;omega
 obtain⟨B,hB,hB'⟩:=A3M (fun s hs=>by
   obtain⟨i,hi,rfl⟩:=List.getElem_of_mem hs;have:=(h.2 i hi).1.1.1
   rwa [A0y hi]at this) hpw
 have hA:[v]∈c.filter fun s=>s.length==1:=List.mem_filter.2 ⟨hv,rfl⟩;refine⟨?_,?_⟩
 . unfold vts
   conv=>lhs;rw[hB]
   exact A2Y v B (fun s hs=>by simpa using(List.mem_filter.1 hs).2) hA
 . unfold vts;rw[List.mem_map];exact⟨[v],hA,rfl⟩
theorem Af4.val (xs:List Int) (v:Int) (hn:xs.length≤1048576) (hv:v∈xs):Af4.F (xs,v,())=some ((((idxV xs v:Nat):Int),()),()):=by
 refine Af4.of _ _ ?_;have hlt:=A3c hv;obtain⟨x,-,hg⟩:=Goes.loop (σ:=Unit) (R:=((Int×Unit)×Unit)) (fun k i _=>Af4.l2 k xs v (xs.length:Int) (i:Int)) (idxV xs v) (fun _ _=>True) (fun i _ hi _=>⟨(),trivial,Goes.succ fun k=>by
   have hne:xs[i]'(by omega)≠v:=by simpa using List.not_of_lt_findIdx hi
   rw[Af4.l2_eq,if_pos (ltI.2 (by omega)),if_pos (idxI.2 (by omega))];simp only[Int.toNat_natCast];rw[if_neg (by
     rw[A0y (by omega)];simp only[beq_iff_eq];exact fun e=>hne e.symm),A0x (by omega)]⟩) 0 () (Nat.zero_le _) trivial
 refine Ev.of_eq (hg _ ((Ev.const _).succ fun k=>?_)) fun k=>rfl;have heq:xs[idxV xs v]=v:=of_decide_eq_true (List.findIdx_getElem (xs:=xs) (p:=fun x=>decide (x=v)) (w:=hlt));rw[Af4.l2_eq,if_pos (ltI.2 hlt),if_pos (idxI.2 hlt)];simp only[Int.toNat_natCast];rw[if_pos (by
   rw[A0y hlt];simp only[beq_iff_eq];exact heq.symm)]
def imgL (c:List (List Int)) (im s:List Int):List Int:=s.map fun v=>im.getD (idxV (vts c) v) 0
def imgS (c:List (List Int)) (im s:List Int):List Int:=setI (imgL c im s)
theorem Ak4.val (c:List (List Int)) (im s:List Int) (h:CplxOk c) (hs:s∈c) (hs4:s.length≤4) (hl:im.length=(vts c).length):Ak4.F (c,im,s,())=some ((imgS c im s,()),()):=by
 have hn:=h.1;have hvl:=A6B c c.length;rw[List.take_of_length_le (Nat.le_refl _)]at hvl;refine Ak4.of _ _ _ ?_;obtain⟨x,hx,hg⟩:=Goes.loop (R:=((List Int×Unit)×Unit)) (fun k i (x:List Int)=>Ak4.l4 k im s (s.length:Int) (i:Int) (vts c) x) s.length (fun i x=>x=imgL c im (s.take i)) (fun i x hi h2=>⟨_,rfl,Goes.succ fun k=>by
   obtain⟨-,hm⟩:=A4U h (A3u h 4 s hs hs4 _ (A0z 0 hi));have hlt:=A3c hm;rw[Ak4.l4_eq,if_pos (ltI.2 hi),if_pos (idxI.2 hi)];simp only[Int.toNat_natCast,Af4.val _ _ (show(vts c).length≤1048576 by omega) hm,Option.bind_some];rw[if_pos (idxI.2 (by omega)),if_pos (by rw[h2];simp only[imgL,List.length_map,List.length_take,List.length_cons,List.length_nil,bigA];omega),A0x (by omega),h2,imgL,imgL,List.take_add_one,List.getElem?_eq_getElem hi,Option.toList_some,List.map_append,A0y hi];rfl⟩) 0 [] (Nat.zero_le _) rfl
 rw[List.take_of_length_le (Nat.le_refl _)]at hx;have hxl:x.length=s.length:=by rw[hx];simp[imgL]
 refine Ev.of_eq (hg _ ((Ev.const _).succ fun k=>?_)) fun k=>?_
 . rw[Ak4.l4_eq,if_neg (by simp),Aq9.val _ (by omega)];simp only[Option.bind_some];rw[Aq7.val _ (by rw[List.length_mergeSort];omega),hx];rfl
 . rw[Ak4.T,Ag9.val c (by omega)];rfl
theorem cut_one (s:List Int) {i:Nat} (hi:i<s.length):cutL s (i:Int) ((i+1:Nat):Int)=[s.getD i 0]:=by
 unfold cutL;simp only[Int.toNat_natCast];rw[A0y hi];apply List.ext_getElem
 . simp;omega
 . intro j h1 h2;have:j=0:=by simpa using h2
   subst this;simp
theorem Am9.val (c:List (List Int)) (im s:List Int) (h:CplxOk c) (hs:s∈c) (hs4:s.length≤4) (hl:im.length=(vts c).length):Am9.F (c,im,s,())=some ((imgS c im s,()),()):=by
 have hn:=h.1;refine Am9.of _ _ _ ?_;obtain⟨x,⟨hx,hxl⟩,hg⟩:=Goes.loop (R:=((List Int×Unit)×Unit)) (fun k i (x:List Int)=>Am9.l3 k c im s (i:Int) x) s.length (fun i x=>x=(imgL c im (s.take i)).foldl (fun a n=>putL a n false) []/\x.length≤i) (fun i x hi ⟨h2,h3⟩=>by
   have hv:=A3u h 4 s hs hs4 _ (A0z 0 hi);obtain⟨hidx,hm⟩:=A4U h hv;have hlt:=A3c hm;refine⟨putL x (im.getD (idxV (vts c) (s.getD i 0)) 0) false,⟨?_,by have:=A6Z (im.getD (idxV (vts c) (s.getD i 0)) 0) x false;omega⟩,Goes.succ fun k=>?_⟩
   . rw[imgL,List.take_add_one,List.getElem?_eq_getElem hi,Option.toList_some,List.map_append,List.foldl_append,<-imgL,<-h2,A0y hi];rfl
   . rw[Am9.l3_eq,if_pos (ltI.2 hi),A0x (by omega),if_pos (by omega),cut_one s hi];simp only[A3a h hv,Option.bind_some,hidx];rw[if_pos (idxI.2 (by omega))];simp only[Int.toNat_natCast,Am5.val x _ (by omega),Option.bind_some]) 0 [] (Nat.zero_le _) ⟨rfl,by simp⟩
 rw[List.take_of_length_le (Nat.le_refl _)]at hx;refine Ev.of_eq (hg _ ((Ev.const _).succ fun k=>?_)) fun k=>rfl;rw[Am9.l3_eq,if_neg (by simp),hx,A5o];rfl
def A5x (c b:List (List Int)) (im:List Int):Prop:=im.length=(vts c).length/\∀ s∈c,imgS c im s∈b
theorem cplx4 {c:List (List Int)} (h:CplxOk c) {s:List Int} (hs:s∈c):s.length≤4:=by
 obtain⟨i,hi,rfl⟩:=List.getElem_of_mem hs;have:=(h.2 i hi).1.1.2
 rwa [A0y hi]at this
theorem A5i:∀ a b:List Int,ordL a b=lexc a b
 | [],[]=>rfl
 | [],_::_=>rfl
 | _::_,[]=>rfl
 | a::x,b::y=>by
   simp only[ordL,lexc,A5i x y];rcases A0H a b with⟨h,e⟩|⟨h,e⟩|⟨h,e⟩<;>rw[e]
   . rw[if_pos h];rfl
   . rw[if_neg (by omega),if_neg (by omega)];rfl
   . rw[if_neg (by omega),if_pos h];rfl
theorem A3q (a b:List Int):ordS a b=cmpS a b:=by
 unfold ordS cmpS;rw[A5i];rcases A0H a.length b.length with⟨h,e⟩|⟨h,e⟩|⟨h,e⟩<;>rw[e]
 . rw[if_pos (by omega)];rfl
 . rw[if_neg (by omega),if_neg (by omega)];rfl
 . rw[if_neg (by omega),if_pos (by omega)];rfl
abbrev LtS (x y:List Int):Prop:=ordS x y<0
theorem LtS.irrefl (x:List Int):¬ LtS x x:=fun h=>by have:=a5t x x;simp only[LtS]at h;omega
theorem LtS.of_le {x y:List Int} (h:¬ LtS y x) (hne:x≠y):LtS x y:=by
 have h1:=a5t x y;have h2:=a9M y x;simp only[LtS]at *;rcases Int.lt_trichotomy (ordS y x) 0 with h3|h3|h3
 . exact absurd h3 h
 . exact absurd (h2 h3).symm hne
 . exact h1.2 h3
theorem sortedS_pw {xs:List (List Int)}:A0W xs↔xs.Pairwise LtS:=by
 rw[List.pairwise_iff_getElem];constructor
 . intro h i j hi hj hij;have:=h i j hij hj;rw[A0y hi,A0y hj,<-A3q]at this;exact this
 . intro h i j hij hj;have:=h i j (by omega) hj hij;rw[A0y (by omega),A0y hj,<-A3q];exact this
theorem A2T:∀ {xs ys:List (List Int)},xs.Pairwise LtS->ys.Pairwise LtS->(∀ s,s∈xs↔s∈ys)->xs=ys
 | [],ys,_,_,h=>by
   cases ys with
   | nil=>rfl
   | cons y ys=>exact absurd ((h y).2 (by simp)) (by simp)
 | x::xs,[],_,_,h=>absurd ((h x).1 (by simp)) (by simp)
 | x :: xs,y::ys,hx,hy,h=>by
   rw[List.pairwise_cons]at hx hy;have e:x=y:=by
     have h1:=(h x).1 (by simp);have h2:=(h y).2 (by simp);simp only[List.mem_cons]at h1 h2;rcases h1 with rfl|h1
     . rfl
     . rcases h2 with rfl|h2
       . rfl
       . exact absurd (a7c x y x (hx.1 y h2) (hy.1 x h1)) (LtS.irrefl x)
   subst e;rw[A2T hx.2 hy.2 fun s=>?_];constructor
   . intro hs;have:=(h s).1 (by simp[hs]);simp only[List.mem_cons]at this;rcases this with rfl|this
     . exact absurd (hx.1 s hs) (LtS.irrefl s)
     . exact this
   . intro hs;have:=(h s).2 (by simp[hs]);simp only[List.mem_cons]at this;rcases this with rfl|this
     . exact absurd (hy.1 s hs) (LtS.irrefl s)
     . exact this
theorem A1Y (s:List Int):∀ (l:List (List Int)) (p:List Int),s∈p::a2O p l↔s∈p::l
 | [],p=>by simp[a2O]
 | x::l,p=>by
   have h1:=A1Y s l p;have h2:=A1Y s l x;simp only[List.mem_cons]at *;simp only[a2O];split
   . rename_i e;subst e;rw[h1];simp
   . rw[List.mem_cons,h2]
theorem A5P (s:List Int) (l:List (List Int)):s∈a8A l↔s∈l:=by
 cases l with
 | nil=>simp[a8A]
 | cons x l=>exact A1Y s l x
theorem A1s:∀ (l:List (List Int)) (p:List Int),(p::l).Pairwise (fun a b=>¬ LtS b a)->(p::a2O p l).Pairwise LtS
 | [],p,_=>by simp[a2O]
 | x :: l,p,h=>by
   rw[List.pairwise_cons,List.pairwise_cons]at h;simp only[a2O];split
   . rename_i e;subst e;exact A1s l x (List.pairwise_cons.2 ⟨h.2.1,h.2.2⟩)
   . rename_i hne;have ih:=A1s l x (List.pairwise_cons.2 ⟨h.2.1,h.2.2⟩);have hpx:LtS p x:=LtS.of_le (h.1 x (by simp)) (Ne.symm hne);refine List.pairwise_cons.2 ⟨fun y hy=>?_,ih⟩;simp only[List.mem_cons]at hy;rcases hy with rfl|hy
     . exact hpx
     . exact a7c p x y hpx ((List.pairwise_cons.1 ih).1 y hy)
theorem A6H {l:List (List Int)} (h:l.Pairwise (fun a b=>¬ LtS b a)):(a8A l).Pairwise LtS:=by
 cases l with
 | nil=>simp[a8A]
 | cons x l=>exact A1s l x h
def A3y (xs:List (List Int)):List (List Int):=a8A (b4f ordS xs)
theorem A2S (xs:List (List Int)):(b4f ordS xs).Perm xs:=List.mergeSort_perm _ _
theorem A1D (s:List Int) (xs:List (List Int)):s∈A3y xs↔s∈xs:=by rw[A3y,A5P,(A2S xs).mem_iff]
theorem A4o (xs:List (List Int)):(A3y xs).Pairwise LtS:=by
 refine A6H ?_;have h:=List.pairwise_mergeSort (le:=fun x y=>!Go.Proofs.ltOf ordS y x) (fun x y z h1 h2=>?_) (fun x y=>?_) xs
 . refine List.Pairwise.imp ?_ h;intro a b hab;simpa[Go.Proofs.ltOf]using hab
 . simp only[Go.Proofs.ltOf,Bool.not_eq_true',decide_eq_false_iff_not]at *;intro h3;rcases Int.lt_trichotomy (ordS y x) 0 with h|h|h
   . exact h1 h
   . have:=a9M y x h;subst this;exact h2 h3
   . exact h2 (a7c z x y h3 ((a5t x y).2 h))
 . simp only[Go.Proofs.ltOf,Bool.or_eq_true,Bool.not_eq_true',decide_eq_false_iff_not];have:=a5t x y;omega
theorem A4j {xs:List (List Int)} (h:A0W xs):A3y xs=xs:=A2T (A4o xs) (sortedS_pw.1 h) fun s=>A1D s xs
theorem Aq8.val (xs:List (List Int)) (h:SmL xs):Aq8.F (xs,Ac3.cloG (()),())=some ((),(b4f ordS xs,())):=by
 unfold Aq8.F sortF;rw[if_pos];refine⟨fun x hx y hy=>?_,by have:=h.1;show xs.length<_;omega⟩;show(Ac3.F (x,y,())).map (·.1)=_;rw[Ac3.val x y (h.2 x hx) (h.2 y hy),A3q];rfl
theorem Aq6.val (xs:List (List Int)) (h:SmL xs):Aq6.F (xs,Ab7.cloG (()),())=some ((a8A xs,()),()):=by
 unfold Aq6.F compF;rw[if_pos];refine⟨fun x hx y _=>?_,by have:=h.1;show xs.length<_;omega⟩;have hxs:Sm x:=by
   simp only[List.mem_cons]at hx;rcases hx with rfl|hx
   . simp[Sm]
   . exact h.2 x hx
 obtain⟨b,hb,hb'⟩:=Ab7.same x y hxs;show(Ab7.F (x,y,())).map (·.1)=_;rw[hb];have:b=decide (x=y):=Bool.eq_iff_iff.2 (hb'.trans (by simp));rw[this];rfl
theorem SmL.perm {xs ys:List (List Int)} (h:SmL xs) (hp:ys.Perm xs):SmL ys:=⟨by rw[hp.length_eq];exact h.1,fun x hx=>h.2 x (hp.mem_iff.1 hx)⟩
theorem Ad5.val (xs:List (List Int)) (h:SmL xs):Ad5.F (xs,())=some ((A3y xs,()),()):=by
 rw[Ad5.eq,Ad5.T,Ad3.val xs h];simp only[Option.bind_some,Aq8.val xs h,Aq6.val _ (h.perm (A2S xs))];rfl
theorem Ad5.same (xs:List (List Int)) (h:SmL xs) (hs:A0W xs):Ad5.F (xs,())=some ((xs,()),()):=by rw[Ad5.val xs h,A4j hs]
theorem Al9.val (m:MatV) (h:m.2.2.2.length≤1048576):Al9.F (m,())=some ((m,()),()):=by
 have hT:Al9.F (m,())=Al9.T m.1 m.2.1 m.2.2.1 m.2.2.2:=Al9.eq _ _ _ _;rw[hT,Al9.T,Ac8.val _ h];rfl
def A2Z (c:List (List Int)) (g:A2I->MatV):List MatV:=(arr c c.length).map g
theorem A2w (c:List (List Int)) (g:A2I->MatV):(A2Z c g).length=off c c.length:=by simp[A2Z,A0I]
theorem A1w (c:List (List Int)) (g:A2I->MatV):A2Z c g=(List.range (arr c c.length).length).map fun q=>g ((arr c c.length).getD q (0,0,0)):=by
 rw[A2Z];apply List.ext_getElem
 . simp
 . intro i h1 h2;simp only[List.length_map]at h1;simp[h1]
theorem Aj8.val (c:List (List Int)) (p:Int) (st:List Int) (f:A2I×Unit->Option (MatV×Unit)) (g:A2I->MatV) (h:CplxOk c) (hst:st.length≤1048576)
   (hf:∀ e∈arr c c.length,f (e,())=some (g e,())/\(g e).2.2.2.length≤1048576):Aj8.F (c,p,st,f,())=some (((c,p,st,A2Z c g),()),()):=by
 have ho:=A1G h (Nat.le_refl c.length);have hn:=h.1;refine Aj8.of _ _ _ _ ?_;have hp:=Goes.push (R:=((ShfV×Unit)×Unit)) (fun k i (s:List MatV)=>Aj8.l3 k f ((arr c c.length).length:Int) (i:Int) [] 0 [] [] c p st s (arr c c.length)) (arr c c.length).length (fun q=>g ((arr c c.length).getD q (0,0,0))) (fun i s hi hs=>Goes.succ fun k=>by
   obtain⟨h1,h2⟩:=hf _ (A0z (0,0,0) hi);rw[A0I]at hi;rw[Aj8.l3_eq,if_pos (by rw[A0I];exact ltI.2 hi),if_pos (by rw[A0I];omega)];simp only[Int.toNat_natCast,h1,Option.bind_some,Al9.val _ h2];rw[if_pos (A2z hs (by omega)),A0x (by omega)])
 refine Ev.of_eq (hp _ ((Ev.const _).succ fun k=>?_)) fun k=>?_
 . rw[Aj8.l3_eq,if_neg (by simp),<-A1w]
 . rw[Aj8.T,Ad5.same c h.small h.sorted,Ac8.val _ hst,Ad9.val c h];rfl
def newM (p:Int) (st:List Int) (e:A2I):MatV:=(p,st.getD e.1.toNat 0,st.getD e.2.2.toNat 0,List.replicate ((st.getD e.1.toNat 0).toNat*(st.getD e.2.2.toNat 0).toNat) 0)
theorem A6j {st:List Int} (h:A0N 0 3 st) (k:Nat):((st.getD k 0).toNat:Int)=st.getD k 0/\(st.getD k 0).toNat≤3:=by
 by_cases hk:k<st.length
 . have:=h _ (A0z 0 hk);omega
 . rw[List.getD_eq_getElem?_getD,List.getElem?_eq_none (by omega)];simp
theorem Ag1.val (c:List (List Int)) (p:Int) (st:List Int) (h:CplxOk c) (hl:st.length=c.length) (hst:A0N 0 3 st):Ag1.F (c,p,st,())=some (((c,p,st,A2Z c (newM p st)),()),()):=by
 have hn:=h.1;refine Ag1.of _ _ _ ?_;obtain⟨x,hx,hg⟩:=Goes.loop (R:=((ShfV×Unit)×Unit)) (fun k i (x:List MatV)=>Ag1.l3 k c p st (i:Int) [] 0 [] [] c p st x) c.length (fun i x=>x=(arr c i).map (newM p st)) (fun i x hi h2=>by
   have hoff:=A1G h (show i≤c.length by omega);have h5:=A1S h hi;have e5:(fcs c i).length=(A0V (c.getD i [])).length:=by simp[fcs]
   refine⟨_,rfl,(Goes.succ fun k=>by rw[Ag1.l3_eq,if_pos (ltI.2 hi),Aa2.val c h i hi]).trans ?_⟩;obtain⟨y,hy,hg2⟩:=Goes.loop (R:=((ShfV×Unit)×Unit)) (fun k j (y:List MatV)=>Ag1.l7 k c p st (i:Int) (j:Int) [] 0 [] [] c p st y (fcs c i)) (fcs c i).length (fun j y=>y=(arr c i).map (newM p st)++(List.range j).map fun(j:Nat)=>newM p st ((i:Int),(j:Int),(fcs c i).getD j 0)) (fun j y hj h3=>⟨_,rfl,Goes.succ fun k=>by
     obtain⟨q,hq,hq'⟩:=A4S h hi (A0z 0 hj);obtain⟨z1,z1'⟩:=A6j hst i;obtain⟨z2,z2'⟩:=A6j hst q;have z:=Ad0.val p (st.getD i 0).toNat (st.getD q 0).toNat (by omega) (by omega);rw[z1,z2]at z;rw[Ag1.l7_eq,if_pos (ltI.2 hj),if_pos (idxI.2 (by omega)),if_pos (idxI.2 hj)];simp only[Int.toNat_natCast];rw[hq,if_pos (idxI.2 (by omega))];simp only[Int.toNat_natCast,z,Option.bind_some];rw[if_pos (by rw[h3];simp only[List.length_append,List.length_map,List.length_range,List.length_cons,List.length_nil,A0I,bigA];omega),A0x (by omega),h3,List.range_succ,List.map_append,List.append_assoc];simp only[List.map_cons,List.map_nil,newM,hq,Int.toNat_natCast]⟩) 0 x (Nat.zero_le _) (by simp[h2])
   refine hg2.trans (Goes.succ fun k=>?_);rw[Ag1.l7_eq,if_neg (by simp),A0x (by omega),hy,A2g,List.map_append,A5v,List.map_map];rfl) 0 [] (Nat.zero_le _) rfl
 refine Ev.of_eq (hg _ ((Ev.const _).succ fun k=>?_)) fun k=>?_
 . rw[Ag1.l3_eq,if_neg (by simp),hx];rfl
 . rw[Ag1.T,Am8.val c h,Ab2.val _ (by omega)];rfl
noncomputable def A0i (s:ShfV) (f i:Nat):MatV:=match Ac1.F (s,(f:Int),(i:Int),())with
 | some r=>r.1.1
 | none=>(0,0,0,[])
theorem A5E {s:ShfV} (h:SheafOk s) {f i:Nat} (hf:f<s.1.length) (hi:i<s.1.length) (hsub:∀ x∈s.1.getD f [],x∈s.1.getD i []) :
   MatOk (A0i s f i)/\Ac1.F (s,(f:Int),(i:Int),())=some ((A0i s f i,()),())/\Ae6.F (s,(f:Int),(i:Int),())=some ((A0i s f i,()),()):=by
 have htf:=(h.1.2 f hf).1;have hle:=A1E (A1c htf.2.2) hsub;obtain⟨m,m0,m1,m2,m3,m4,m5,m6⟩:=A0m s h f hf ((s.1.getD i []).length-(s.1.getD f []).length) i hi (by omega) hsub;have c1:Ac1.F (s,(f:Int),(i:Int),())=some ((m,()),()):=Ac1.ofR ⟨_,fun q hq=>m5 q (Nat.lt_of_succ_le hq)⟩;have c2:Ae6.F (s,(f:Int),(i:Int),())=some ((m,()),()):=Ae6.ofR ⟨_,fun q hq=>m6 q (Nat.lt_of_succ_le hq)⟩;have e:A0i s f i=m:=by unfold A0i;rw[c1]
 rw[e];exact⟨m1,c1,c2⟩
theorem A3J {t:List Int} {j:Nat}:∀ x∈A0w t j,x∈t:=by
 intro x hx;unfold A0w at hx;rw[List.mem_append]at hx;exact hx.elim List.mem_of_mem_take List.mem_of_mem_drop
theorem A6Q (c:List (List Int)) (im:List Int) {s t:List Int} (h:∀ x∈s,x∈t):∀ x∈imgS c im s,x∈imgS c im t:=by
 intro x hx;have h1:=(A2C (imgL c im s)).2 x;have h2:=(A2C (imgL c im t)).2 x;rw[imgS,h2];rw[imgS,h1]at hx;unfold imgL at *;obtain⟨v,hv,rfl⟩:=List.mem_map.1 hx;exact List.mem_map.2 ⟨v,h v hv,rfl⟩
def plAt (s:ShfV) (c:List (List Int)) (im:List Int) (k:Nat):Nat:=A0Q s.1 (imgS c im (c.getD k []))
def A0d (s:ShfV) (c:List (List Int)) (im:List Int):List Int:=(List.range c.length).map fun k=>((plAt s c im k:Nat):Int)
def A0J (s:ShfV) (c:List (List Int)) (im:List Int):List Int:=(List.range c.length).map fun k=>s.2.2.1.getD (plAt s c im k) 0
noncomputable def A1J (s:ShfV) (c:List (List Int)) (im:List Int):List MatV:=A2Z c fun e=>A0i s (plAt s c im e.2.2.toNat) (plAt s c im e.1.toNat)
noncomputable def pulS (s:ShfV) (c:List (List Int)) (im:List Int):ShfV:=(c,s.2.1,A0J s c im,A1J s c im)
theorem A1I {s:ShfV} {c:List (List Int)} {im:List Int} (hm:A5x c s.1 im) {k:Nat} (hk:k<c.length):plAt s c im k<s.1.length/\s.1.getD (plAt s c im k) []=imgS c im (c.getD k []):=A0E (hm.2 _ (A0z [] hk))
theorem A3k {s:ShfV} (h:SheafOk s) (c:List (List Int)) (im:List Int):A0N 0 3 (A0J s c im):=fun x hx=>by
 unfold A0J at hx;obtain⟨k,-,rfl⟩:=List.mem_map.1 hx;obtain⟨h1,h2⟩:=A6j h.2.2.1.2.1 (plAt s c im k);omega
theorem A3X {c:List (List Int)} (hc:CplxOk c) {k j:Nat} (hk:k<c.length) (hj:j<(fcs c k).length):∃ f:Nat,(fcs c k).getD j 0=(f:Int)/\f<c.length/\∀ x∈c.getD f [],x∈c.getD k []:=by
 have hfl:=A0k c k;have h1:1<(c.getD k []).length:=by
   by_cases h:1<(c.getD k []).length
   . exact h
   . rw[if_neg h]at hfl;omega
 rw[if_pos h1]at hfl;have hj':j<(c.getD k []).length:=by omega
 have hmem:A0w (c.getD k []) j∈A0V (c.getD k []):=mem_faces.2 ⟨h1,j,hj',rfl⟩;obtain⟨m1,m2⟩:=A0E (A1i hc hk hmem);refine⟨A0Q c (A0w (c.getD k []) j),?_,m1,fun x hx=>?_⟩
 . have e1:fcs c k=(List.range (c.getD k []).length).map fun q=>((A0Q c (A0w (c.getD k []) q):Nat):Int):=by
     unfold fcs A0V;rw[if_pos h1,List.map_map];rfl
   rw[e1,A0y (by simpa using hj')];simp only[List.getElem_map,List.getElem_range]
 . rw[m2]at hx;exact A3J x hx
theorem A5m {s:ShfV} {c:List (List Int)} {im:List Int} (h:SheafOk s) (hc:CplxOk c) (hm:A5x c s.1 im) {k j f:Nat} (hk:k<c.length) (hj:j<(fcs c k).length) (hf:(fcs c k).getD j 0=(f:Int)) :
   f < c.length/\MatOk (A0i s (plAt s c im f) (plAt s c im k))/\Ac1.F (s,((plAt s c im f:Nat):Int),((plAt s c im k:Nat):Int),())=some ((A0i s (plAt s c im f) (plAt s c im k),()),()) ∧
     Ae6.F (s,((plAt s c im f:Nat):Int),((plAt s c im k:Nat):Int),())=some ((A0i s (plAt s c im f) (plAt s c im k),()),()):=by
 obtain⟨f',e1,e2,e3⟩:=A3X hc hk hj;have:f=f':=by rw[hf]at e1;omega
 subst this;obtain⟨p1,p2⟩:=A1I hm e2;obtain⟨q1,q2⟩:=A1I hm hk;exact⟨e2,A5E h p1 q1 (by rw[p2,q2];exact A6Q c im e3)⟩
theorem A3m (s:ShfV) (c:List (List Int)) (im:List Int) {k:Nat} (hk:k<c.length):(A0d s c im).getD k 0=((plAt s c im k:Nat):Int):=A0K _ 0 hk
theorem A0s (s:ShfV) (c:List (List Int)) (im:List Int):(A1J s c im).length=off c c.length:=A2w _ _
theorem Aj7.val {s:ShfV} {c:List (List Int)} {im:List Int} (h:SheafOk s) (hc:CplxOk c) (hm:A5x c s.1 im) (e:A2I) (he:e∈arr c c.length) :
   Aj7.cloG (s,A0d s c im,()) (e,())=some (A0i s (plAt s c im e.2.2.toNat) (plAt s c im e.1.toNat),())/\(A0i s (plAt s c im e.2.2.toNat) (plAt s c im e.1.toNat)).2.2.2.length≤1048576:=by
 simp only[arr,List.mem_flatMap,List.mem_range,A5v,List.mem_map]at he;obtain⟨k,hk,j,hj,rfl⟩:=he;obtain⟨f,hf,hf',-⟩:=A3X hc hk hj;obtain⟨-,r1,r2,-⟩:=A5m h hc hm hk hj hf;have r2:Ac1.F ((s.1,(s.2.1,(s.2.2.1,s.2.2.2))),((plAt s c im f:Nat):Int),((plAt s c im k:Nat):Int),())=_:=r2;have hpl:(A0d s c im).length=c.length:=by simp[A0d]
 simp only[Int.toNat_natCast,hf];refine⟨?_,by have h2:=A6U r1.2.1 r1.2.2.1;have:=r1.2.2.2.1;omega⟩;show(Aj7.F (((k:Int),(j:Int),(f:Int)),s,A0d s c im,())).map (·.1)=_;have hT:Aj7.F (((k:Int),(j:Int),(f:Int)),s,A0d s c im,())=Aj7.T (k:Int) (j:Int) (f:Int) s.1 s.2.1 s.2.2.1 s.2.2.2 (A0d s c im):=Aj7.eq _ _ _ _ _ _ _ _;rw[hT,Aj7.T,if_pos (idxI.2 (by omega)),if_pos (idxI.2 (by omega))];simp only[Int.toNat_natCast,A3m s c im hf',A3m s c im hk,r2];rfl
theorem Ak6.val {s:ShfV} {c:List (List Int)} {im:List Int} (h:SheafOk s) (hc:CplxOk c) (hm:A5x c s.1 im):Ak6.F (s,c,im,())=some ((pulS s c im,()),()):=by
 have hn:=hc.1;have hl:=h.2.2.1.1;refine Ak6.of s.1 s.2.1 s.2.2.1 s.2.2.2 c im ?_;obtain⟨y,hy,hg⟩:=Goes.loop (R:=((ShfV×Unit)×Unit)) (fun k i (y:List Int×List Int)=>Ak6.l3 k im c (c.length:Int) (i:Int) s.1 s.2.1 s.2.2.1 s.2.2.2 c [] 0 [] [] y.1 y.2) c.length (fun i y=>y=((List.range i).map (fun k=>((plAt s c im k:Nat):Int)),(List.range i).map fun k=>s.2.2.1.getD (plAt s c im k) 0)) (fun i y hi h2=>⟨_,rfl,Goes.succ fun k=>by
   have hmem:=A0z ([]:List Int) hi;have himg:=Ak4.val c im _ hc hmem (cplx4 hc hmem) hm.1;obtain⟨p1,p2⟩:=A1I hm hi;have hs:=A3P h.1 (hm.2 _ hmem);rw[h2,Ak6.l3_eq,if_pos (ltI.2 hi),if_pos (idxI.2 hi)];simp only[Int.toNat_natCast,himg,Option.bind_some,hs];rw[if_pos (by simp only[List.length_map,List.length_range,List.length_cons,List.length_nil,bigA];omega),if_pos (idxI.2 (by unfold plAt at p1;omega)),if_pos (by simp only[List.length_map,List.length_range,List.length_cons,List.length_nil,bigA];omega),A0x (by omega),List.range_succ,List.map_append,List.map_append];rfl⟩) 0 ([],[]) (Nat.zero_le _) rfl
 have hso:=Aj8.val c s.2.1 (A0J s c im) (Aj7.cloG (s,A0d s c im,())) (fun e=>A0i s (plAt s c im e.2.2.toNat) (plAt s c im e.1.toNat)) hc (by simp[A0J];omega) (fun e he=>Aj7.val h hc hm e he);refine Ev.of_eq (hg _ ((Ev.const _).succ fun k=>?_)) fun k=>rfl;rw[hy,Ak6.l3_eq,if_neg (by simp)];have hso:Aj8.F (c,s.2.1,(List.range c.length).map (fun k=>s.2.2.1.getD (plAt s c im k) 0),Aj7.cloG ((s.1,(s.2.1,(s.2.2.1,s.2.2.2))),(List.range c.length).map (fun k=>((plAt s c im k:Nat):Int)),()),())=_:=hso;rw[hso];rfl
theorem Af8.val {s:ShfV} {c:List (List Int)} {im:List Int} (h:SheafOk s) (hc:CplxOk c) (hm:A5x c s.1 im):Af8.F (s,c,im,())=some ((pulS s c im,()),()):=by
 have hn:=hc.1;have hl:=h.2.2.1.1;have ho:=A1G hc (Nat.le_refl c.length);refine Af8.of s.1 s.2.1 s.2.2.1 s.2.2.2 c im ?_;obtain⟨y,hy,hg⟩:=Goes.loop (R:=((ShfV×Unit)×Unit)) (fun k i (y:List Int×List Int)=>Af8.l4 k s.1 s.2.1 s.2.2.1 s.2.2.2 c im (i:Int) [] 0 [] [] y.1 y.2) c.length (fun i y=>y=((List.range i).map (fun k=>((plAt s c im k:Nat):Int)),(List.range i).map fun k=>s.2.2.1.getD (plAt s c im k) 0)) (fun i y hi h2=>⟨_,rfl,Goes.succ fun k=>by
   have hmem:=A0z ([]:List Int) hi;have himg:=Am9.val c im _ hc hmem (cplx4 hc hmem) hm.1;obtain⟨p1,p2⟩:=A1I hm hi;have hs:=A3a h.1 (hm.2 _ hmem);rw[h2,Af8.l4_eq,if_pos (ltI.2 hi),if_pos (idxI.2 hi)];simp only[Int.toNat_natCast,himg,Option.bind_some,hs];rw[if_pos (by simp only[List.length_map,List.length_range,List.length_cons,List.length_nil,bigA];omega),if_pos (idxI.2 (by unfold plAt at p1;omega)),if_pos (by simp only[List.length_map,List.length_range,List.length_cons,List.length_nil,bigA];omega),A0x (by omega),List.range_succ,List.map_append,List.map_append];rfl⟩) 0 ([],[]) (Nat.zero_le _) rfl
 have hnew:Ag1.F (c,s.2.1,A0J s c im,())=_:=Ag1.val c s.2.1 (A0J s c im) hc (by simp[A0J]) (A3k h c im);have hpl:(A0d s c im).length=c.length:=by simp[A0d]
 obtain⟨x,⟨hx1,hx2⟩,hg3⟩:=Goes.loop (R:=((ShfV×Unit)×Unit)) (fun k i (x:List MatV)=>Af8.l11 k s.1 s.2.1 s.2.2.1 s.2.2.2 c (i:Int) [] 0 [] [] (A0d s c im) c s.2.1 (A0J s c im) x) c.length (fun i x=>x.length=off c c.length/\x.take (off c i)=(A1J s c im).take (off c i)) (fun i x hi ⟨q1,q2⟩=>by
   have e5:(fcs c i).length=(A0V (c.getD i [])).length:=by simp[fcs]
   have e6 := A1S hc hi;obtain⟨z,⟨hz1,hz2⟩,hg2⟩:=Goes.loop (R:=((ShfV×Unit)×Unit)) (fun k j (z:List MatV)=>Af8.l15 k s.1 s.2.1 s.2.2.1 s.2.2.2 c (i:Int) (j:Int) [] 0 [] [] (A0d s c im) c s.2.1 (A0J s c im) z (fcs c i)) (fcs c i).length (fun j z=>z.length=off c c.length/\z.take (off c i+j)=(A1J s c im).take (off c i+j)) (fun j z hj ⟨r1,r2⟩=>by
     obtain⟨f,hf,hf',-⟩:=A3X hc hi hj;obtain⟨-,k1,-,k3⟩:=A5m h hc hm hi hj hf;have k3:Ae6.F ((s.1,(s.2.1,(s.2.2.1,s.2.2.2))),((plAt s c im f:Nat):Int),((plAt s c im i:Nat):Int),())=_:=k3;have hlt:=A3j hi hj;have hplace:=Ab8.val c hc i (by omega) j (by omega);refine⟨z.set (off c i+j) (A0i s (plAt s c im f) (plAt s c im i)),⟨by simp[r1],?_⟩,Goes.succ fun k=>?_⟩
     . rw[show off c i+(j+1)=off c i+j+1 by omega,List.take_add_one,List.take_add_one,List.take_set_of_le (Nat.le_refl _),r2];have e1:(A1J s c im)[off c i+j]? = some (A0i s (plAt s c im f) (plAt s c im i)):=by
         have e2:(A1J s c im).getD (off c i+j) (0,0,0,[])=A0i s (plAt s c im f) (plAt s c im i):=by
           rw[A1J,A1w,A0K _ _ (by rw[A0I];exact hlt),A2x c hi hj,hf];simp only[Int.toNat_natCast]
         rw[A0y (by rw[A0s];omega)]at e2;rw[<-e2,List.getElem?_eq_getElem (by rw[A0s];omega)]
       rw[e1,List.getElem?_set_self (by omega)]
     . rw[Af8.l15_eq,if_pos (ltI.2 hj),hplace];simp only[Option.bind_some];rw[if_pos (idxI.2 hj),Int.toNat_natCast j,hf,if_pos (idxI.2 (by omega)),if_pos (idxI.2 (by omega))];simp only[Int.toNat_natCast,A3m s c im hf',A3m s c im hi,k3,Option.bind_some];rw[if_pos (idxI.2 (by omega)),A0x (by omega)]) 0 x (Nat.zero_le _) ⟨q1,by simpa using q2⟩
   refine⟨z,⟨hz1,by rw[off];exact hz2⟩,(Goes.succ fun k=>?_).trans (hg2.trans (Goes.succ fun k=>?_))⟩
   . rw[Af8.l11_eq,if_pos (ltI.2 hi),Aa2.val c hc i hi];rfl
   . rw[Af8.l15_eq,if_neg (by simp),A0x (by omega)]) 0 (A2Z c (newM s.2.1 (A0J s c im))) (Nat.zero_le _) ⟨A2w _ _,by simp[off]⟩
 have hxe:x=A1J s c im:=by
   rw[List.take_of_length_le (by omega),List.take_of_length_le (by rw[A0s];exact Nat.le_refl _)]at hx2;exact hx2
 refine Ev.of_eq (hg _ (Ev.succ (hg3 _ ((Ev.const _).succ fun k=>?_)) fun k=>?_)) fun k=>rfl
 . rw[Af8.l11_eq,if_neg (by simp),hxe];rfl
 . rw[hy,Af8.l4_eq,if_neg (by simp)];have hnew:Ag1.F (c,s.2.1,(List.range c.length).map (fun k=>s.2.2.1.getD (plAt s c im k) 0),())=_:=hnew;rw[hnew];rfl
def IsIn (p c:List (List Int)):Prop:=∀ s∈p,s∈c
theorem An0.val (p c:List (List Int)) (hp:p.length≤1048576) (h:SmL c):∃ v,An0.F (p,c,())=some ((v,()),())/\(v=true↔IsIn p c):=by
 obtain⟨v,hv,hv'⟩:=Ev.allP (L:=fun k i=>An0.l2 k p c (i:Int)) (a:=()) (b:=()) (n:=p.length) (fun i=>p.getD i []∈c) true (fun i hi=>by
   have E:=fun k=>An0.l2_eq k p c (i:Int);obtain⟨r,hr,hr'⟩:=Aa1.val c (p.getD i []) h;simp only[if_pos (ltI.2 hi),if_pos (idxI.2 hi),Int.toNat_natCast,hr,Option.bind_some,A0x (show i<4611686018427387904 by omega)]at E;by_cases hm:p.getD i []∈c
   . exact .inl ⟨hm,fun k=>by rw[E,if_neg (by simp only[decide_eq_true_eq,hr'];exact fun hh=>hh hm)]⟩
   . exact .inr ⟨hm,fun k=>by rw[E,if_pos (by simp only[decide_eq_true_eq,hr'];exact hm)]⟩) ((Ev.const _).succ fun k=>by rw[An0.l2_eq,if_neg (by simp)]) 0 (Nat.zero_le _)
 refine⟨v,An0.of _ _ (hv.of_eq fun k=>rfl),hv'.trans ⟨fun⟨_,h⟩ s hs=>?_,fun h=>⟨rfl,fun j _ hj=>h _ (A0z _ hj)⟩⟩⟩;obtain⟨j,hj,rfl⟩:=List.getElem_of_mem hs;have:=h j (Nat.zero_le _) hj
 rwa [A0y hj]at this
theorem Ad7.val (xs:List Int) (h:xs.length≤1099511627776):Ad7.F (xs,())=some ((xs,()),()):=by
 refine Ad7.of xs ?_;have:=Goes.fill (L:=fun k i ys=>Ad7.l3 k xs (i:Int) ys) xs 0 (fun k i ys hi hy=>by
   rw[Ad7.l3_eq,if_pos (ltI.2 hi),if_pos (idxI.2 hi),if_pos (by omega),A0x (by omega)];simp only[Int.toNat_natCast]) (List.replicate xs.length 0) (by simp)
 refine Ev.of_eq (this _ ((Ev.const _).succ fun k=>?_)) fun k=>?_
 . rw[Ad7.l3_eq,if_neg (by simp)]
 . rw[Ad7.T,if_pos (by simp only[bigN];omega)];rfl
theorem Ac7.val (xs ys:List Int) (hn:xs.length<4611686018427387904):∃ b,Ac7.F (xs,ys,())=some ((b,()),())/\(b=true↔xs=ys):=by
 by_cases hl:xs.length=ys.length
 . obtain⟨b,hb,hb'⟩:=Ev.all (L:=fun k i=>Ac7.l4 k xs ys (i:Int)) (a:=()) (b:=()) (n:=xs.length) (fun i=>xs.getD i 0==ys.getD i 0) (fun k i hi=>by
     rw[Ac7.l4_eq,if_pos (ltI.2 hi),if_pos (idxI.2 hi),if_pos (by omega),A0x (by omega)];simp only[Int.toNat_natCast];exact ite_nb _ _ _) (fun k=>by rw[Ac7.l4_eq,if_neg (by simp)]) 0 (Nat.zero_le _)
   refine⟨b,Ac7.of _ _ (hb.of_eq fun k=>?_),by rw[hb',all_eq hl (fun x y=>x==y) (by simp)]⟩;rw[Ac7.T,if_neg (by simp[hl])];rfl
 . refine⟨false,Ac7.of _ _ ((Ev.const _).of_eq fun k=>?_),by simp;intro e;exact hl (by rw[e])⟩;rw[Ac7.T,if_pos (by simp;omega)]
theorem Af3.val (xs:List Int) (l:Int) (h0:0≤l) (h1:l≤1048576) (hx:xs.length≤maxLen):∃ r,Af3.F (xs,l,())=some ((r,()),())/\(r=-1∨0≤r/\r≤l/\Sm xs):=by
 have:xs.length≤9223372036854775807:=hx;rw[Af3.eq,Af3.T,A0j (by omega) (by omega)];by_cases h:l<xs.length
 . exact⟨-1,by rw[if_pos (by simp;omega)],.inl rfl⟩
 . exact⟨_,by rw[if_neg (by simp;omega)],.inr ⟨by omega,by omega,by unfold Sm;omega⟩⟩
theorem Ai9.val (xs:List (List Int)) (l:Int) (h0:0≤l) (h1:l≤1048576) (hx:xs.length≤maxLen) (hr:∀ x∈xs,x.length≤maxLen):∃ r,Ai9.F (xs,l,())=some ((r,()),())/\(r=-1∨0≤r/\r≤l/\SmL xs):=by
 have:xs.length≤9223372036854775807:=hx;by_cases h:l<xs.length
 . exact⟨-1,Ai9.of _ _ ((Ev.const _).of_eq fun k=>by rw[Ai9.T,A0j (by omega) (by omega),if_pos (by simp;omega)]),.inl rfl⟩
 obtain⟨r,hv,h2⟩:=A6k (fun k i s=>Ai9.l5 k xs s (i:Int)) xs [] Sm (fun i s hi s0 s1=>by
   have E:=fun k=>Ai9.l5_eq k xs s (i:Int);obtain⟨r,hr1,hr2⟩:=Af3.val (xs.getD i []) s s0 s1 (hr _ (A0z _ hi));simp only[if_pos (ltI.2 hi),if_pos (idxI.2 hi),Int.toNat_natCast,hr1,Option.bind_some,A0x (show i<4611686018427387904 by omega)]at E;rcases hr2 with rfl|⟨a,b,c⟩
   . exact .inr fun k=>by rw[E,if_pos (by simp)]
   . exact .inl ⟨r,a,b,c,fun k=>by rw[E,if_neg (by simp;omega)]⟩) (fun k l=>by rw[Ai9.l5_eq,if_neg (by simp)]) (l-xs.length) (by omega) (by omega)
 refine⟨r,Ai9.of _ _ (hv.of_eq fun k=>by rw[Ai9.T,A0j (by omega) (by omega),if_neg (by simp;omega)];rfl),?_⟩;rcases h2 with h2|⟨a,b,c⟩
 . exact .inl h2
 . exact .inr ⟨a,by omega,by omega,c⟩
theorem Ah2.val (xs:List (List Int)) (l:Int) (h0:0≤l) (h1:l≤1048576) (hx:xs.length≤maxLen) (hr:∀ x∈xs,x.length≤maxLen):∃ r,Ah2.F (xs,l,())=some ((r,()),())/\(r=-1∨0≤r/\r≤l/\SmL xs):=by
 obtain⟨r,h2,h3⟩:=Ai9.val xs l h0 h1 hx hr;rw[Ah2.eq,Ah2.T,h2];simp only[Option.bind_some];rcases h3 with rfl|⟨a,b,c⟩
 . exact⟨-1,by rw[if_pos (by simp)],.inl rfl⟩
 . exact⟨r,by rw[if_neg (by simp;omega)],.inr ⟨a,b,c⟩⟩
theorem Ak8.val (xs:List (List Int)) (h:SmL xs):Ak8.F (xs,())=some ((xs,()),()):=by
 have hl:=h.1;refine Ak8.of xs ?_;have:=Goes.fill (L:=fun k i ys=>Ak8.l3 k xs (i:Int) ys) xs [] (fun k i ys hi hy=>by
   have hs:(xs.getD i []).length≤1048576:=h.2 _ (A0z _ hi);rw[Ak8.l3_eq,if_pos (ltI.2 hi),if_pos (idxI.2 hi)];simp only[Int.toNat_natCast,Ad7.val (xs.getD i []) (by omega),Option.bind_some];rw[if_pos (by omega),A0x (by omega)]) (List.replicate xs.length []) (by simp)
 refine Ev.of_eq (this _ ((Ev.const _).succ fun k=>?_)) fun k=>?_
 . rw[Ak8.l3_eq,if_neg (by simp)]
 . rw[Ak8.T,if_pos (by simp only[bigN];omega)];rfl
theorem Ad6.val (xs:List (List Int)) (h:SmL xs):Ad6.F (xs,())=some ((xs,()),()):=by
 rw[Ad6.eq,Ad6.T,Ak8.val xs h];rfl
theorem Ae2.same (xs ys:List (List Int)) (h:SmL xs):∃ b,Ae2.F (xs,ys,())=some ((b,()),())/\(b=true↔xs=ys):=by
 have hn:=h.1;by_cases hl:xs.length=ys.length
 . obtain⟨b,hb,hb'⟩:=A1L (fun k i=>Ae2.l4 k xs ys (i:Int)) xs ys [] hl (fun i hi=>by
     have hs:(xs.getD i []).length≤1048576:=h.2 _ (A0z _ hi);obtain⟨c,hc,hc'⟩:=Ac7.val (xs.getD i []) (ys.getD i []) (by omega);exact⟨c,hc',fun k=>by rw[Ae2.l4_eq,if_pos (ltI.2 hi),if_pos (idxI.2 hi),if_pos (idx2 (hl▸hi))];simp only[Int.toNat_natCast,hc,Option.bind_some];rw[A0x (by omega)]⟩) (fun k=>by rw[Ae2.l4_eq,if_neg (by simp)])
   exact⟨b,Ae2.of _ _ (hb.of_eq fun k=>by rw[Ae2.T,if_neg (by simp[hl])];rfl),hb'⟩
 . exact⟨false,Ae2.of _ _ ((Ev.const _).of_eq fun k=>by rw[Ae2.T,if_pos (by simp;omega)]),by simp;intro e;exact hl (by rw[e])⟩
theorem Ah0.same (xs ys:List (List Int)) (h:SmL xs):∃ b,Ah0.F (xs,ys,())=some ((b,()),())/\(b=true↔xs=ys):=by
 obtain⟨b,hb,hb'⟩:=Ae2.same xs ys h;rw[Ah0.eq,Ah0.T,hb];exact⟨b,by cases b<;>rfl,hb'⟩
theorem A6O {xs:List Int} {v:Int} (h:v∈xs):xs.getD (idxV xs v) 0=v:=by
 have h1:=A3c h;rw[A0y h1];have:=List.findIdx_getElem (w:=h1) (p:=fun x=>decide (x=v)) (xs:=xs);simp only[decide_eq_true_eq]at this;exact this
theorem A2l {c:List (List Int)} (h:CplxOk c) {s:List Int} (hs:s∈c):imgS c (vts c) s=s:=by
 have e:imgL c (vts c) s=s:=by
   unfold imgL
   conv=>rhs;rw[<-List.map_id s]
   exact List.map_congr_left fun v hv=>A6O (A4U h (A3u h s.length s hs (Nat.le_refl _) v hv)).2
 obtain⟨h1,h2⟩:=A2C s;rw[imgS,e];refine A4N h1 ?_ h2;obtain⟨i1,i2⟩:=A0E hs;have hr:A1o s:=by have:=(h.2 _ i1).1.2.2;rwa [i2]at this
 rw[List.pairwise_iff_getElem];intro i j hi hj hij;have:=A2A hr i j hij hj
 rwa [A0y hi,A0y hj]at this
theorem A3f {p b:List (List Int)} (h:CplxOk p) (hi:IsIn p b):A5x p b (vts p):=⟨rfl,fun s hs=>by rw[A2l h hs];exact hi s hs⟩
theorem A6C (c:List (List Int)):(A0B c 0 c.length).map (fun i=>(c.getD i.toNat []).getD 0 0)=vts c:=by
 have key:∀ i,i≤c.length->(A0B c 0 i).map (fun i=>(c.getD i.toNat []).getD 0 0)=vts (c.take i):=by
   intro i;induction i with
   | zero=>intro _;rfl
   | succ i ih =>
     intro hi;rw[A1F,A5z c (by omega)];by_cases h1:(c.getD i []).length=1
     . rw[if_pos (by simp only[beq_iff_eq];omega),if_pos h1,List.map_append,ih (by omega)];simp
     . rw[if_neg (by simp only[beq_iff_eq];omega),if_neg h1,List.append_nil,ih (by omega)]
 have:=key c.length (Nat.le_refl _)
 rwa [List.take_of_length_le (Nat.le_refl _)]at this
theorem Al5.val {c:List (List Int)} (h:CplxOk c):Al5.F (c,())=some ((vts c,()),()):=by
 have hn:=h.1;have e0:=Ae5.val c 0 (by omega) (by omega);have hl:=A0M c 0 c.length;rw[<-A6C c];have hd:∀ x∈A0B c 0 c.length,∃ j:Nat,x=j/\j<c.length/\(c.getD j []).length=1:=fun x hx=>by
   unfold A0B at hx;obtain⟨j,hj,rfl⟩:=List.mem_map.1 hx;obtain⟨h1,h2⟩:=List.mem_filter.1 hj;simp only[beq_iff_eq]at h2;exact⟨j,rfl,List.mem_range.1 h1,by omega⟩
 generalize A0B c 0 c.length=L at e0 hl hd;refine Al5.of _ ?_;have g:=Goes.push (R:=(List Int×Unit)×Unit) (fun k i s=>Al5.l4 k c (i:Int) s L) L.length (fun i=>(c.getD (L.getD i 0).toNat []).getD 0 0) fun i s hi hs=>Goes.succ fun k=>by
   obtain⟨j,j1,j2,j3⟩:=hd _ (A0z 0 hi);rw[Al5.l4_eq,if_pos (ltI.2 hi),if_pos (idxI.2 hi)];simp only[Int.toNat_natCast];rw[j1,if_pos (idxI.2 j2)];simp only[Int.toNat_natCast];rw[if_pos (by omega),if_pos (A2z hs (by omega)),A0x (by omega)];rfl
 have em:(List.range L.length).map (fun i=>(c.getD (L.getD i 0).toNat []).getD 0 0)=L.map fun i=>(c.getD i.toNat []).getD 0 0:=by
   refine List.ext_getElem (by simp) fun i h1 h2=>?_;simp only[List.getElem_map,List.getElem_range];rw[A0y (xs:=L) (by simpa using h1)]
 rw[em]at g;refine Ev.of_eq (g _ ((Ev.const _).succ fun k=>?_)) fun k=>?_
 . rw[Al5.l4_eq,if_neg (by simp)]
 . rw[Al5.T,e0];rfl
theorem A2R {s:ShfV} {p:List (List Int)} (h:SheafOk s) (hc:CplxOk p) (hi:IsIn p s.1):Ai7.F (s,p,())=some ((pulS s p (vts p),()),()):=by
 have T:Ai7.F (s,p,())=Ai7.T s.1 s.2.1 s.2.2.1 s.2.2.2 p:=Ai7.eq _ _ _ _ _;have hn:=hc.1;rw[T,Ai7.T,Ag9.val p (by omega)];have hp:Ak6.F ((s.1,(s.2.1,(s.2.2.1,s.2.2.2))),p,vts p,())=_:=Ak6.val h hc (A3f hc hi);simp only[Option.bind_some,hp]
open Classical in
noncomputable def A2e (s:ShfV) (p:List (List Int)):Int:=if A1q s/\CplxOk p then(if IsIn p s.1 then 0 else 6)else 1
noncomputable def rstV (s:ShfV) (p:List (List Int)):ShfV:=@ite _ (A2e s p=0) (Classical.propDecidable _) (pulS s p (vts p)) ([],0,[],[])
theorem partC_zero {s:ShfV} {p:List (List Int)}:A2e s p=0↔(A1q s/\CplxOk p)/\IsIn p s.1:=by
 unfold A2e;split
 . split<;>simp[*]
 . simp[*]
theorem Al2.val (s:ShfV) (p:List (List Int)) (hs:SmSh s) (hp:SmL p):Al2.F (s,p,())=some ((rstV s p,A2e s p,()),()):=by
 obtain⟨v1,a1,a1'⟩:=Ad1.val s hs;obtain⟨v2,a2,a2'⟩:=Aa3.val p hp;have a1:Ad1.F ((s.1,(s.2.1,(s.2.2.1,s.2.2.2))),())=_:=a1;have T:Al2.F (s,p,())=Al2.T s.1 s.2.1 s.2.2.1 s.2.2.2 p:=Al2.eq _ _ _ _ _;rw[T,Al2.T,a1,a2];simp only[Option.bind_some];cases v1 with
 | false =>
   have e:A2e s p=1:=by rw[A2e,if_neg fun hh=>absurd (a1'.2 hh.1) (by simp)]
   rw[if_pos (by simp),rstV,e,if_neg (by simp)]
 | true=>cases v2 with
   | false =>
     have e:A2e s p=1:=by rw[A2e,if_neg fun hh=>absurd (a2'.2 hh.2) (by simp)]
     rw[if_neg (by simp),if_pos (by simp),rstV,e,if_neg (by simp)]
   | true =>
     have h:=(a1'.1 rfl).1;have hc:=a2'.1 rfl;obtain⟨v3,a3,a3'⟩:=An0.val p s.1 hp.1 h.1.small;rw[if_neg (by simp),if_neg (by simp),a3];simp only[Option.bind_some];cases v3 with
     | false =>
       have e:A2e s p=6:=by rw[A2e,if_pos ⟨a1'.1 rfl,hc⟩,if_neg fun hh=>absurd (a3'.2 hh) (by simp)]
       rw[if_pos (by simp),rstV,e,if_neg (by simp)]
     | true =>
       have hi:=a3'.1 rfl;have e:A2e s p=0:=by rw[A2e,if_pos ⟨a1'.1 rfl,hc⟩,if_pos hi]
       have hq:Af8.F ((s.1,(s.2.1,(s.2.2.1,s.2.2.2))),p,vts p,())=_:=Af8.val h hc (A3f hc hi);rw[if_neg (by simp),rstV,e,if_pos rfl,Al5.val hc];simp only[Option.bind_some,hq]
theorem A6P {c p:List (List Int)} (hc:CplxOk c) (hp:CplxOk p) (hi:IsIn p c) {i j:Nat} (hij:i<j) (hj:j<p.length):A0Q c (p.getD i [])<A0Q c (p.getD j []):=by
 obtain⟨a1,a2⟩:=A0E (hi _ (A0z [] (show i<p.length by omega)));obtain⟨b1,b2⟩:=A0E (hi _ (A0z [] hj));have l:=hp.sorted i j hij hj;refine Nat.lt_of_not_le fun hle=>?_;rcases Nat.lt_or_eq_of_le hle with h|h
 . have g:=hc.sorted _ _ h a1;rw[b2,a2,<-A3q]at g;rw[<-A3q]at l;have:=(a5t _ _).1 g;omega
 . have e:p.getD i []=p.getD j []:=by rw[<-a2,<-b2,h]
   have:=A1y hp.sorted (by omega) hj e;omega
def stIn (c p:List (List Int)) (st:List Int):List Int:=(List.range p.length).map fun k=>st.getD (A0Q c (p.getD k [])) 0
theorem psum_le {c p:List (List Int)} (hc:CplxOk c) (hp:CplxOk p) (hi:IsIn p c) {st:List Int} (ha:A0N 0 3 st) (hl:st.length=c.length) (d:Int):∀ k,k≤p.length->∀ n,(∀ j,j<k->A0Q c (p.getD j [])<n)->n≤c.length->psum p (stIn c p st) d k≤psum c st d n:=by
 intro k;induction k with
 | zero=>intro _ n _ hn;exact(A1u ha n (by omega)).1
 | succ k ih =>
   intro hk n hj hn;have hm:=hj k (by omega);have h1:=ih (by omega) (A0Q c (p.getD k [])) (fun j hjk=>A6P hc hp hi hjk (by omega)) (by omega);obtain⟨a1,a2⟩:=A0E (hi _ (A0z [] (show k<p.length by omega)));have e:psum p (stIn c p st) d (k+1)≤psum c st d (A0Q c (p.getD k [])+1):=by
     have es:(stIn c p st).getD k 0=st.getD (A0Q c (p.getD k [])) 0:=by rw[stIn,A0K _ 0 (by omega)]
     simp only[psum];rw[a2,es];split<;>omega
   exact Int.le_trans e (A3A ha (by omega) (by omega))
theorem A3i (s:ShfV) {p:List (List Int)} (hc:CplxOk p) {k:Nat} (hk:k<p.length):plAt s p (vts p) k=A0Q s.1 (p.getD k []):=by rw[plAt,A2l hc (A0z [] hk)]
theorem A4E (s:ShfV) {p:List (List Int)} (hc:CplxOk p):A0J s p (vts p)=stIn s.1 p s.2.2.1:=List.map_congr_left fun k hk=>by rw[A3i s hc (List.mem_range.1 hk)]
theorem A5C {s:ShfV} (h:SheafOk s) {f i:Nat} (hf:f<s.1.length) (hi:i<s.1.length) (hsub:∀ x∈s.1.getD f [],x∈s.1.getD i []) :
   MatOk (A0i s f i)/\(A0i s f i).1=s.2.1/\(A0i s f i).2.1=s.2.2.1.getD i 0/\(A0i s f i).2.2.1=s.2.2.1.getD f 0:=by
 have htf:=(h.1.2 f hf).1;have hle:=A1E (A1c htf.2.2) hsub;obtain⟨m,m0,m1,m2,m3,m4,m5,m6⟩:=A0m s h f hf ((s.1.getD i []).length-(s.1.getD f []).length) i hi (by omega) hsub;have c1:Ac1.F (s,(f:Int),(i:Int),())=some ((m,()),()):=Ac1.ofR ⟨_,fun q hq=>m5 q (Nat.lt_of_succ_le hq)⟩;have e:A0i s f i=m:=by unfold A0i;rw[c1]
 rw[e];exact⟨m1,m2,m3,m4⟩
noncomputable def rstS (s:ShfV) (p:List (List Int)):ShfV:=pulS s p (vts p)
theorem A4u {s:ShfV} {p:List (List Int)} (h:SheafOk s) (hc:CplxOk p) (hi:IsIn p s.1):SheafOk (rstS s p):=by
 have hl:s.2.2.1.length=s.1.length:=h.2.2.1.1;have hn:=hc.1;have hn':=h.1.1;have hall:=A3k h p (vts p);have hlen:(A0J s p (vts p)).length=p.length:=by simp[A0J]
 refine⟨hc,h.2.1,⟨hlen,hall,fun k hk=>?_⟩,A0s s p (vts p),fun i hip j hj=>?_⟩
 . show sumL (A0J s p (vts p)) (A0B p k p.length)≤32;have h2:=h.2.2.1.2.2 k hk;rw[A2D h.2.2.1.2.1 _ (by omega) (by omega)]at h2;rw[A2D hall _ (by omega) (by omega),A4E s hc];exact Int.le_trans (psum_le h.1 hc hi h.2.2.1.2.1 hl k p.length (Nat.le_refl _) s.1.length (fun j hj=>(A0E (hi _ (A0z [] hj))).1) (Nat.le_refl _)) h2
 . have hip:i<p.length:=hip;have hj:j<(fcs p i).length:=hj;obtain⟨f,hf,hfl,hsub⟩:=A3X hc hip hj;have e1:(A1J s p (vts p)).getD (off p i+j) (0,0,0,[])=A0i s (plAt s p (vts p) f) (plAt s p (vts p) i):=by
     rw[A1J,A1w,A0K _ _ (by rw[A0I];exact A3j hip hj),A2x p hip hj];simp only[hf,Int.toNat_natCast]
   obtain⟨a1,a2⟩:=A1I (A3f hc hi) hfl;obtain⟨b1,b2⟩:=A1I (A3f hc hi) hip;rw[A2l hc (A0z [] hfl)]at a2;rw[A2l hc (A0z [] hip)]at b2;have d:=A5C h a1 b1 (by rw[a2,b2];exact hsub);show A4z p s.2.1 (A0J s p (vts p)) ((A1J s p (vts p)).getD (off p i+j) (0,0,0,[])) i j;rw[e1];refine⟨d.1,d.2.1,?_,?_⟩
   . rw[d.2.2.1,A0J,A0K _ 0 hip]
   . rw[d.2.2.2,hf,Int.toNat_natCast,A0J,A0K _ 0 hfl]
def both (a b:List (List Int)):List (List Int):=a.filter fun s=>decide (s∈b)
theorem A5j {a:List (List Int)} (b:List (List Int)) (h:SmL a):SmL (both a b) :=
 ⟨Nat.le_trans (List.length_filter_le _ _) h.1,fun x hx=>h.2 x (List.mem_filter.1 hx).1⟩
theorem A2u {a:List (List Int)} (b:List (List Int)) (h:A0W a):A0W (both a b):=sortedS_pw.2 ((sortedS_pw.1 h).sublist List.filter_sublist)
theorem A4y (a b:List (List Int)) {i:Nat} (hi:i<a.length):both (a.take (i+1)) b=both (a.take i) b++(if a.getD i []∈b then[a.getD i []]else[]):=by
 rw[both,both,List.take_add_one,List.getElem?_eq_getElem hi,Option.toList_some,List.filter_append,A0y hi];congr 1;by_cases h:a[i]∈b<;>simp[h]
theorem A2v (a b:List (List Int)) (i:Nat):(both (a.take i) b).length≤i:=Nat.le_trans (List.length_filter_le _ _) (by simp;omega)
theorem Ad2.val (a b:List (List Int)) (ha:SmL a) (hb:SmL b):Ad2.F (a,b,())=some ((both a b,()),()):=by
 have hn:=ha.1;refine Ad2.of _ _ ?_;obtain⟨s,hs,hg⟩:=Goes.loop (R:=((List (List Int)×Unit)×Unit)) (fun k i (x:List (List Int))=>Ad2.l3 k a b (i:Int) [] x) a.length (fun i x=>x=both (a.take i) b) (fun i x hi h2=>⟨_,rfl,Goes.succ fun k=>by
   obtain⟨r,hr,hr'⟩:=Aa1.val b (a.getD i []) hb;have hl:=A2v a b i;rw[Ad2.l3_eq,if_pos (ltI.2 hi),if_pos (idxI.2 hi)];simp only[Int.toNat_natCast,hr,Option.bind_some,Ab2.val _ (ha.2 _ (A0z [] hi))];rw[A4y a b hi,A0x (by omega),<-h2];by_cases hm:a.getD i []∈b
   . have:¬ r<0:=fun hh=>hr'.1 hh hm;rw[if_pos (by simp;omega),if_pos (idxI.2 hi),if_pos (by rw[h2];simp only[List.length_cons,List.length_nil,bigA];omega),if_pos hm]
   . have:r<0:=hr'.2 hm;rw[if_neg (by simp;omega),if_neg hm,List.append_nil]⟩) 0 [] (Nat.zero_le _) rfl
 rw[List.take_of_length_le (Nat.le_refl _)]at hs;refine Ev.of_eq (hg _ ((Ev.const _).succ fun k=>?_)) fun k=>rfl;rw[Ad2.l3_eq,if_neg (by simp),hs]
theorem Al8.val (a:List (List Int)) (f:List Int×Unit->Option (Bool×Unit)) (b:List (List Int)) (ha:SmL a) (hf:∀ s∈a,f (s,())=some (decide (s∈b),())) (hs:A0W a) :
   Al8.F (a,f,())=some ((both a b,()),()):=by
 have hn:=ha.1;refine Al8.of _ _ ?_;obtain⟨s,hs',hg⟩:=Goes.loop (R:=((List (List Int)×Unit)×Unit)) (fun k i (x:List (List Int))=>Al8.l3 k f a (a.length:Int) (i:Int) [] x) a.length (fun i x=>x=both (a.take i) b) (fun i x hi h2=>⟨_,rfl,Goes.succ fun k=>by
   have hl:=A2v a b i;rw[Al8.l3_eq,if_pos (ltI.2 hi),if_pos (idxI.2 hi)];simp only[Int.toNat_natCast,hf _ (A0z [] hi),Option.bind_some];rw[A4y a b hi,A0x (by omega),<-h2];by_cases hm:a.getD i []∈b
   . rw[if_pos (decide_eq_true hm),if_pos (by rw[h2];simp only[List.length_cons,List.length_nil,bigA];omega),if_pos hm]
   . rw[if_neg (fun hh=>hm (of_decide_eq_true hh)),if_neg hm,List.append_nil]⟩) 0 [] (Nat.zero_le _) rfl
 rw[List.take_of_length_le (Nat.le_refl _)]at hs';refine Ev.of_eq (hg _ ((Ev.const _).succ fun k=>?_)) fun k=>rfl;rw[Al8.l3_eq,if_neg (by simp),hs',Ad5.same _ (A5j b ha) (A2u b hs)];rfl
theorem Ap1.val (a b:List (List Int)) (ha:SmL a) (hb:SmL b) (sa:A0W a) (sb:A0W b):Ap1.F (a,b,())=some ((both a b,()),()):=by
 rw[Ap1.eq,Ap1.T,Al8.val a _ b ha (fun s hs=>?_) sa]
 . rfl
 . obtain⟨r,hr,hr'⟩:=Ab6.val b s sb hb (ha.2 s hs);show(As4.F (s,b,())).map (·.1)=_;rw[As4.eq,As4.T,hr];simp only[Option.bind_some,Option.map_some,Option.some.injEq,Prod.mk.injEq,and_true,decide_eq_decide];have:r<0↔s∉b:=hr';by_cases h:s∈b
   . have h2:¬ r<0:=fun hh=>(this.1 hh) h;simp only[h,iff_true];omega
   . simp only[h,iff_false];have:=this.2 h;omega
theorem Ao6.same (xs ys:List (List Int)) (h:SmL xs):∃ b,Ao6.F (xs,ys,())=some ((b,()),())/\(b=true↔xs=ys):=by
 have hn:=h.1;rw[Ao6.eq,Ao6.T]
 suffices ∃ b,Al1.F (xs,ys,Ab7.cloG (()),())=some ((b,()),())/\(b=true↔xs=ys)by
   obtain⟨b,hb,hb'⟩:=this;rw[hb];exact⟨b,rfl,hb'⟩
 by_cases hl:xs.length=ys.length
 . obtain⟨b,hb,hb'⟩:=A1L (fun k i=>Al1.l4 k ys (Ab7.cloG (())) xs xs.length (i:Int)) xs ys [] hl (fun i hi=>by
     obtain⟨c,hc,hc'⟩:=Ab7.same (xs.getD i []) (ys.getD i []) (h.2 _ (A0z _ hi));have hc2:Ab7.cloG (()) (xs.getD i [],ys.getD i [],())=some (c,()):=by
       show(Ab7.F (xs.getD i [],ys.getD i [],())).map (·.1)=_;rw[hc];rfl
     exact⟨c,hc',fun k=>by rw[Al1.l4_eq,if_pos (ltI.2 hi),if_pos (idxI.2 hi),if_pos (idx2 (hl▸hi))];simp only[Int.toNat_natCast,hc2,Option.bind_some];rw[A0x (by omega)]⟩) (fun k=>by rw[Al1.l4_eq,if_neg (by simp)])
   exact⟨b,Al1.of _ _ _ (hb.of_eq fun k=>by rw[Al1.T,if_neg (by simp[hl])];rfl),hb'⟩
 . exact⟨false,Al1.of _ _ _ ((Ev.const _).of_eq fun k=>by rw[Al1.T,if_pos (by simp;omega)]),by simp;intro e;exact hl (by rw[e])⟩
theorem An9.same (xs ys:List (List Int)) (h:SmL xs):∃ b,An9.F (xs,ys,())=some ((b,()),())/\(b=true↔xs=ys):=by
 obtain⟨b,hb,hb'⟩:=Ao6.same xs ys h;rw[An9.eq,An9.T,hb];exact⟨b,rfl,hb'⟩
def A5M (c a b:List (List Int)):Prop:=(∀ s∈a,s∈c)/\(∀ s∈b,s∈c)/\∀ s∈c,s∈a∨s∈b
theorem both_all {a b:List (List Int)}:(both a b).length=a.length↔∀ s∈a,s∈b:=by
 rw[both,List.length_filter_eq_length_iff];simp
theorem Ae7.val (c a b:List (List Int)) (hc:SmL c) (ha:SmL a) (hb:SmL b):∃ v,Ae7.F (c,a,b,())=some ((v,()),())/\(v=true↔A5M c a b):=by
 have hn:=hc.1;obtain⟨v,hv,hv'⟩:=Ev.allP (L:=fun k i=>Ae7.l6 k c a b (i:Int)) (a:=()) (b:=()) (n:=c.length) (fun i=>c.getD i []∈a∨c.getD i []∈b) true (fun i hi=>by
   have E:=fun k=>Ae7.l6_eq k c a b (i:Int);obtain⟨r,hr,hr'⟩:=Aa1.val a (c.getD i []) ha;obtain⟨t,ht,ht'⟩:=Aa1.val b (c.getD i []) hb;simp only[if_pos (ltI.2 hi),if_pos (idxI.2 hi),Int.toNat_natCast,hr,ht,Option.bind_some,A0x (show i<4611686018427387904 by omega)]at E;by_cases hm:c.getD i []∈a
   . exact .inl ⟨.inl hm,fun k=>by rw[E,if_neg (by simp only[decide_eq_true_eq,hr'];exact fun hh=>hh hm)]⟩
   . by_cases hm2:c.getD i []∈b
     . exact .inl ⟨.inr hm2,fun k=>by rw[E,if_pos (by simp only[decide_eq_true_eq,hr'];exact hm),if_neg (by simp only[decide_eq_true_eq,ht'];exact fun hh=>hh hm2)]⟩
     . exact .inr ⟨fun hh=>hh.elim hm hm2,fun k=>by rw[E,if_pos (by simp only[decide_eq_true_eq,hr'];exact hm),if_pos (by simp only[decide_eq_true_eq,ht'];exact hm2)]⟩) ((Ev.const _).succ fun k=>by rw[Ae7.l6_eq,if_neg (by simp)]) 0 (Nat.zero_le _)
 have T:=fun k=>(rfl:Ae7.T k c a b=_);simp only[Ae7.T,Ad2.val a c ha hc,Ad2.val b c hb hc,Option.bind_some]at T;by_cases h1:∀ s∈a,s∈c
 . have e1:=both_all.2 h1;by_cases h2:∀ s∈b,s∈c
   . have e2:=both_all.2 h2;refine⟨v,Ae7.of _ _ _ (hv.of_eq fun k=>?_),hv'.trans ⟨fun⟨_,h⟩=>⟨h1,h2,fun s hs=>?_⟩,fun h=>⟨rfl,fun j _ hj=>h.2.2 _ (A0z _ hj)⟩⟩⟩
     . show Ae7.T k c a b=_;rw[Ae7.T,Ad2.val a c ha hc,Ad2.val b c hb hc];simp only[Option.bind_some];rw[if_neg (by simp[e1]),if_neg (by simp[e2])];rfl
     . obtain⟨j,hj,rfl⟩:=List.getElem_of_mem hs;have:=h j (Nat.zero_le _) hj
       rwa [A0y hj]at this
   . refine⟨false,Ae7.of _ _ _ ((Ev.const _).of_eq fun k=>?_),by simp only[Bool.false_eq_true,false_iff];exact fun h=>h2 h.2.1⟩;have e2:¬ (both b c).length=b.length:=fun h=>h2 (both_all.1 h);show Ae7.T k c a b=_;rw[Ae7.T,Ad2.val a c ha hc,Ad2.val b c hb hc];simp only[Option.bind_some];rw[if_neg (by simp[e1]),if_pos (by simp;omega)]
 . refine⟨false,Ae7.of _ _ _ ((Ev.const _).of_eq fun k=>?_),by simp only[Bool.false_eq_true,false_iff];exact fun h=>h1 h.1⟩;have e1:¬ (both a c).length=a.length:=fun h=>h1 (both_all.1 h);show Ae7.T k c a b=_;rw[Ae7.T,Ad2.val a c ha hc,Ad2.val b c hb hc];simp only[Option.bind_some];rw[if_pos (by simp;omega)]
theorem Ah3.val2 (a b:List (List Int)) (ha:a.length≤1048576) (hb:b.length≤1048576):Ah3.F ([a,b],())=some ((a++b,()),()):=by
 have w1:IntKind.i64.wrap (0+(a.length:Int))=(a.length:Int):=by rw[A0j (by omega) (by omega)];omega
 have w2:IntKind.i64.wrap ((a.length:Int)+(b.length:Int))=(a.length:Int)+(b.length:Int):=A0j (by omega) (by omega);have w3:IntKind.i64.wrap ((0:Int)+1)=1:=A0j (by omega) (by omega);have w4:IntKind.i64.wrap ((1:Int)+1)=2:=A0j (by omega) (by omega);refine Ah3.of _ ⟨6,fun k hk=>?_⟩;obtain⟨k,rfl⟩:∃ j,k=j+1+1+1+1+1+1:=⟨k-6,by omega⟩;show Ah3.T (k+1+1+1+1+1+1) [a,b]=_;have e0:((([a,b]:List (List (List Int))).length:Nat):Int)=2:=rfl;rw[Ah3.T,e0,Ah3.l3_eq,if_pos (by decide),if_pos (by rw[e0];decide)];simp only[Int.toNat_zero,List.getD_cons_zero,w1,w3];rw[if_neg (by simp only[decide_eq_true_eq];omega),Ah3.l3_eq,if_pos (by decide),if_pos (by rw[e0];decide)];simp only[show(1:Int).toNat=1 from rfl,List.getD_cons_succ,List.getD_cons_zero,w2,w4];rw[if_neg (by simp only[decide_eq_true_eq];omega),Ah3.l3_eq,if_neg (by decide),if_pos (by simp only[bigN];omega),e0,Ah3.l11_eq,if_pos (by decide),if_pos (by rw[e0];decide)];simp only[Int.toNat_zero,List.getD_cons_zero,w3];rw[if_pos (by simp only[List.length_nil,bigA];omega),Ah3.l11_eq,if_pos (by decide),if_pos (by rw[e0];decide)];simp only[show(1:Int).toNat=1 from rfl,List.getD_cons_succ,List.getD_cons_zero,w4,List.nil_append];rw[if_pos (by simp only[bigA];omega),Ah3.l11_eq,if_neg (by decide)]
theorem Ap3.val (a b:List (List Int)) (ha:CplxOk a) (hb:CplxOk b):Ap3.F (a,b,())=some ((A3y (a++b),()),()):=by
 have h1:=ha.1;have h2:=hb.1;have hs:SmL (a++b):=⟨by rw[List.length_append];omega,fun x hx=>(List.mem_append.1 hx).elim (ha.small.2 x) (hb.small.2 x)⟩;rw[Ap3.eq,Ap3.T,Ah3.val2 a b (by omega) (by omega)];simp only[Option.bind_some,Ad5.val _ hs]
theorem A3x {c a b:List (List Int)} (hc:A0W c):A3y (a++b)=c↔A5M c a b:=by
 constructor
 . rintro rfl;refine⟨fun s hs=>by rw[A1D];simp[hs],fun s hs=>by rw[A1D];simp[hs],fun s hs=>by rw[A1D]at hs;simpa using hs⟩
 . rintro⟨h1,h2,h3⟩;refine A2T (A4o _) (sortedS_pw.1 hc) fun s=>?_;rw[A1D,List.mem_append];exact⟨fun h=>h.elim (h1 s) (h2 s),h3 s⟩
theorem A4V {c a b:List (List Int)} (kc:CplxOk c) (ka:CplxOk a) (kb:CplxOk b):∃ v,Ar0.F (c,a,b,())=some ((v,()),())/\(v=true↔A5M c a b):=by
 obtain⟨u1,b1,b1'⟩:=Aa9.val c kc.small;obtain⟨u2,b2,b2'⟩:=Aa9.val a ka.small;obtain⟨u3,b3,b3'⟩:=Aa9.val b kb.small;obtain rfl:u1=true:=b1'.2 kc;obtain rfl:u2=true:=b2'.2 ka;obtain rfl:u3=true:=b3'.2 kb;have hsm:SmL (A3y (a++b)):=by
   refine⟨?_,fun x hx=>?_⟩
   . have h1:=ka.1;have h2:=kb.1;have hle:∀ (l:List (List Int)) (p:List Int),(a2O p l).length≤l.length:=by
       intro l;induction l with
       | nil=>intro p;simp[a2O]
       | cons x l ih => intro p;simp only[a2O];split
                        . have:=ih x;simp only[List.length_cons];omega
                        . have:=ih x;simp only[List.length_cons];omega
     have hle2:(A3y (a++b)).length≤(b4f ordS (a++b)).length:=by
       unfold A3y;cases b4f ordS (a++b)with
       | nil=>simp[a8A]
       | cons x l=>have:=hle l x;simp only[a8A,List.length_cons];omega
     rw[(A2S (a++b)).length_eq,List.length_append]at hle2;omega
   . have:=(A1D x (a++b)).1 hx;exact(List.mem_append.1 this).elim (ka.small.2 x) (kb.small.2 x)
 obtain⟨w,e2,e2'⟩:=An9.same (A3y (a++b)) c hsm;refine⟨w,?_,e2'.trans (A3x kc.sorted)⟩;rw[Ar0.eq,Ar0.T,b1,b2,b3];simp only[Option.bind_some,if_true,Ap3.val a b ka kb,e2]
open Classical in
noncomputable def covC (s:ShfV) (a b:List (List Int)):Int:=if A1q s/\CplxOk a/\CplxOk b then(if A5M s.1 a b then 0 else 6)else 1
theorem covC_zero {s:ShfV} {a b:List (List Int)}:covC s a b=0↔(A1q s/\CplxOk a/\CplxOk b)/\A5M s.1 a b:=by
 unfold covC;split
 . split<;>simp[*]
 . simp[*]
theorem Ak3.val (s:ShfV) (a b:List (List Int)) (hs:SmSh s) (ha:SmL a) (hb:SmL b):Ak3.F (s,a,b,())=some ((covC s a b,()),()):=by
 obtain⟨v1,a1,a1'⟩:=Af6.val s hs;obtain⟨v2,a2,a2'⟩:=Aa9.val a ha;obtain⟨v3,a3,a3'⟩:=Aa9.val b hb;have a1:Af6.F ((s.1,(s.2.1,(s.2.2.1,s.2.2.2))),())=_:=a1;have T:Ak3.F (s,a,b,())=Ak3.T s.1 s.2.1 s.2.2.1 s.2.2.2 a b:=Ak3.eq _ _ _ _ _ _;rw[T,Ak3.T,a1,a2,a3];simp only[Option.bind_some];unfold covC;cases v1 with
 | false=>rw[if_pos (by simp),if_neg fun hh=>absurd (a1'.2 hh.1) (by simp)]
 | true=>cases v2 with
   | false=>rw[if_neg (by simp),if_pos (by simp),if_neg fun hh=>absurd (a2'.2 hh.2.1) (by simp)]
   | true=>cases v3 with
     | false=>rw[if_neg (by simp),if_neg (by simp),if_pos (by simp),if_neg fun hh=>absurd (a3'.2 hh.2.2) (by simp)]
     | true =>
       have k1:=a1'.1 rfl;have k2:=a2'.1 rfl;have k3:=a3'.1 rfl;obtain⟨v4,a4,a4'⟩:=A4V k1.1.1 k2 k3;rw[if_neg (by simp),if_neg (by simp),if_neg (by simp),if_pos ⟨k1,k2,k3⟩,a4];simp only[Option.bind_some];cases v4 with
       | false=>rw[if_pos (by simp),if_neg fun hh=>absurd (a4'.2 hh) (by simp)]
       | true=>rw[if_neg (by simp),if_pos (a4'.1 rfl)]
theorem Al6.val (s:ShfV) (a b:List (List Int)) (hs:SmSh s) (ha:SmL a) (hb:SmL b):Al6.F (s,a,b,())=some ((covC s a b,()),()):=by
 obtain⟨v1,a1,a1'⟩:=Ad1.val s hs;obtain⟨v2,a2,a2'⟩:=Aa3.val a ha;obtain⟨v3,a3,a3'⟩:=Aa3.val b hb;have a1:Ad1.F ((s.1,(s.2.1,(s.2.2.1,s.2.2.2))),())=_:=a1;have T:Al6.F (s,a,b,())=Al6.T s.1 s.2.1 s.2.2.1 s.2.2.2 a b:=Al6.eq _ _ _ _ _ _;rw[T,Al6.T,a1,a2,a3];simp only[Option.bind_some];unfold covC;cases v1 with
 | false=>rw[if_pos (by simp),if_neg fun hh=>absurd (a1'.2 hh.1) (by simp)]
 | true=>cases v2 with
   | false=>rw[if_neg (by simp),if_pos (by simp),if_neg fun hh=>absurd (a2'.2 hh.2.1) (by simp)]
   | true=>cases v3 with
     | false=>rw[if_neg (by simp),if_neg (by simp),if_pos (by simp),if_neg fun hh=>absurd (a3'.2 hh.2.2) (by simp)]
     | true =>
       have k1:=a1'.1 rfl;have k2:=a2'.1 rfl;have k3:=a3'.1 rfl;obtain⟨v4,a4,a4'⟩:=Ae7.val s.1 a b k1.1.1.small k2.small k3.small;rw[if_neg (by simp),if_neg (by simp),if_neg (by simp),if_pos ⟨k1,k2,k3⟩,a4];simp only[Option.bind_some];cases v4 with
       | false=>rw[if_pos (by simp),if_neg fun hh=>absurd (a4'.2 hh) (by simp)]
       | true=>rw[if_neg (by simp),if_pos (a4'.1 rfl)]
structure CovAt (s:ShfV) (a b:List (List Int)):Prop where
 s1:A1q s
 ha:CplxOk a
 hb:CplxOk b
 ia:IsIn a s.1
 ib:IsIn b s.1
 cov:∀ t∈s.1,t∈a∨t∈b
theorem covAt {s:ShfV} {a b:List (List Int)} (h:covC s a b=0):CovAt s a b:=by
 obtain⟨⟨h1,h2,h3⟩,h4,h5,h6⟩:=covC_zero.1 h;exact⟨h1,h2,h3,h4,h5,h6⟩
theorem A6b {s:ShfV} {p:List (List Int)} (h:A1q s) (hc:CplxOk p) (hi:IsIn p s.1):rstV s p=rstS s p:=by rw[rstV,if_pos (partC_zero.2 ⟨⟨h,hc⟩,hi⟩),rstS]
theorem Af9.val {s:ShfV} {p:List (List Int)} (hs:SmSh s) (hp:SmL p) (h:A1q s) (hc:CplxOk p) (hi:IsIn p s.1):Af9.F (s,p,())=some ((rstS s p,()),()):=by
 have a1:Al2.F ((s.1,(s.2.1,(s.2.2.1,s.2.2.2))),p,())=_:=Al2.val s p hs hp;have T:Af9.F (s,p,())=Af9.T s.1 s.2.1 s.2.2.1 s.2.2.2 p:=Af9.eq _ _ _ _ _;rw[T,Af9.T,a1];simp only[Option.bind_some,A6b h hc hi]
theorem both_ok {a:List (List Int)} {b:List (List Int)} (ha:CplxOk a) (hb:CplxOk b):CplxOk (both a b):=by
 have hso:=A2u b ha.sorted;have hmem:∀ t,t∈both a b↔t∈a/\t∈b:=fun t=>by simp[both]
 have hle:(both a b).length≤a.length:=List.length_filter_le _ _;have hn:=ha.1;refine⟨by omega,fun i hi=>?_⟩;obtain⟨m1,m2⟩:=(hmem _).1 (A0z [] hi);obtain⟨i1,i2⟩:=A0E m1;obtain⟨j1,j2⟩:=A0E m2;have q1:=ha.2 _ i1;have q2:=hb.2 _ j1;rw[i2]at q1;rw[j2]at q2;exact⟨q1.1,fun h0=>hso _ _ (by omega) hi,fun h1 k hk=>(hmem _).2 ⟨q1.2.2 h1 k hk,q2.2.2 h1 k hk⟩⟩
theorem both_in {a b:List (List Int)}:IsIn (both a b) a/\IsIn (both a b) b:=⟨fun t ht=>(by simp[both]at ht;exact ht.1),fun t ht=>(by simp[both]at ht;exact ht.2)⟩
noncomputable def A4x (s:ShfV) (a b:List (List Int)):List (List Int):=[(cohV s).1,(cohV (rstS s a)).1,(cohV (rstS s b)).1,(cohV (rstS s (both a b))).1]
structure CovRst (s:ShfV) (a b:List (List Int)):Prop where
 c:CovAt s a b
 hB:CplxOk (both a b)
 iB:IsIn (both a b) s.1
 s1:SmSh s
 s2:SmSh (rstS s a)
 s3:SmSh (rstS s b)
 s4:SmSh (rstS s (both a b))
theorem A5Q {s:ShfV} {a b:List (List Int)} (h:covC s a b=0):CovRst s a b:=by
 have c:=covAt h;have hB:=both_ok c.ha c.hb;have iB:IsIn (both a b) s.1:=fun t ht=>c.ia t (both_in.1 t ht);exact⟨c,hB,iB,A1V c.s1.1,A1V (A4u c.s1.1 c.ha c.ia),A1V (A4u c.s1.1 c.hb c.ib),A1V (A4u c.s1.1 hB iB)⟩
theorem Ah7.val {s:ShfV} {a b:List (List Int)} (h:CovRst s a b):Ah7.F (s,a,b,())=some ((A4x s a b,()),()):=by
 have c:=h.c;refine Ah7.of s.1 s.2.1 s.2.2.1 s.2.2.2 a b ?_;have r1:Ai7.F ((s.1,(s.2.1,(s.2.2.1,s.2.2.2))),a,())=some ((rstS s a,()),()):=A2R c.s1.1 c.ha c.ia;have r2:Ai7.F ((s.1,(s.2.1,(s.2.2.1,s.2.2.2))),b,())=some ((rstS s b,()),()):=A2R c.s1.1 c.hb c.ib;have r3:Ai7.F ((s.1,(s.2.1,(s.2.2.1,s.2.2.2))),both a b,())=some ((rstS s (both a b),()),()):=A2R c.s1.1 h.hB h.iB;have m:=Ap1.val a b c.ha.small c.hb.small c.ha.sorted c.hb.sorted;have d1:=fun(t:ShfV) (ht:SmSh t)=>Ag3.val t ht;have d1':∀ t:ShfV,SmSh t->Ag3.F ((t.1,(t.2.1,(t.2.2.1,t.2.2.2))),())=some (((cohV t).1,(cohV t).2,()),()):=d1;obtain⟨x,hx,hg⟩:=Goes.loop (R:=((List (List Int)×Unit)×Unit)) (fun k i (x:List (List Int))=>Ah7.l3 k 4 (i:Int) x [s,rstS s a,rstS s b,rstS s (both a b)]) 4 (fun i x=>x=(A4x s a b).take i) (fun i x hi h2=>⟨_,rfl,Goes.succ fun k=>by
   have hb4:x.length+1≤bigA:=by rw[h2,List.length_take];simp only[bigA];omega
   have hd:∀ t,[s,rstS s a,rstS s b,rstS s (both a b)].getD i ([],0,[],[])=t->SmSh t->Ah7.l3 (k+1) 4 (i:Int) x [s,rstS s a,rstS s b,rstS s (both a b)]=Ah7.l3 k 4 ((i+1:Nat):Int) (x++[(cohV t).1]) [s,rstS s a,rstS s b,rstS s (both a b)]:=fun t ht hst=>by
     rw[Ah7.l3_eq,if_pos (by simp only[decide_eq_true_eq];omega),if_pos (by simp only[List.length_cons,List.length_nil];omega)];simp only[Int.toNat_natCast,ht];rw[d1' t hst];simp only[Option.bind_some];rw[if_pos (show x.length+[(cohV t).1].length≤bigA from hb4),A0x (by omega)]
   have hcase:i=0∨i=1∨i=2∨i=3:=by omega
   rcases hcase with rfl|rfl|rfl|rfl
   . rw[hd s rfl h.s1,h2];rfl
   . rw[hd (rstS s a) rfl h.s2,h2];rfl
   . rw[hd (rstS s b) rfl h.s3,h2];rfl
   . rw[hd (rstS s (both a b)) rfl h.s4,h2];rfl⟩) 0 [] (Nat.zero_le _) rfl
 refine Ev.of_eq (hg _ ((Ev.const _).succ fun k=>?_)) fun k=>?_
 . rw[Ah7.l3_eq,if_neg (by decide),hx];rfl
 . rw[Ah7.T,r1];simp only[Option.bind_some];rw[r2];simp only[Option.bind_some];rw[m];simp only[Option.bind_some];rw[r3];rfl
theorem Al7.val {s:ShfV} {a b:List (List Int)} (h:CovRst s a b):Al7.F (s,a,b,())=some ((A4x s a b,()),()):=by
 have c:=h.c;have T:Al7.F (s,a,b,())=Al7.T s.1 s.2.1 s.2.2.1 s.2.2.2 a b:=Al7.eq _ _ _ _ _ _;have r1:Af9.F ((s.1,(s.2.1,(s.2.2.1,s.2.2.2))),a,())=some ((rstS s a,()),()):=Af9.val h.s1 c.ha.small c.s1 c.ha c.ia;have r2:Af9.F ((s.1,(s.2.1,(s.2.2.1,s.2.2.2))),b,())=some ((rstS s b,()),()):=Af9.val h.s1 c.hb.small c.s1 c.hb c.ib;have r3:Af9.F ((s.1,(s.2.1,(s.2.2.1,s.2.2.2))),both a b,())=some ((rstS s (both a b),()),()):=Af9.val h.s1 h.hB.small c.s1 h.hB h.iB;have d0:Ad8.F ((s.1,(s.2.1,(s.2.2.1,s.2.2.2))),())=some (((cohV s).1,(cohV s).2,()),()):=Ad8.val s h.s1;have d1:=Ad8.val _ h.s2;have d2:=Ad8.val _ h.s3;have d3:=Ad8.val _ h.s4;rw[T,Al7.T,Ad2.val a b c.ha.small c.hb.small];simp only[Option.bind_some];rw[d0];simp only[Option.bind_some];rw[if_pos (by simp only[List.length_cons,List.length_nil,bigA];omega),r1];simp only[Option.bind_some];rw[d1];simp only[Option.bind_some];rw[if_pos (by simp only[List.nil_append,List.length_cons,List.length_nil,bigA];omega),r2];simp only[Option.bind_some];rw[d2];simp only[Option.bind_some];rw[if_pos (by simp only[List.length_append,List.length_cons,List.length_nil,bigA];omega),r3];simp only[Option.bind_some];rw[d3];simp only[Option.bind_some];rw[if_pos (by simp only[List.length_append,List.length_cons,List.length_nil,bigA];omega)];rfl
theorem blk_in {r c A B:Nat} (hr:r<A) (hc:c<B):r*B+c<A*B:=by
 have:=Nat.mul_le_mul_right B (show r+1≤A by omega);rw[Nat.add_mul,Nat.one_mul]at this;omega
theorem A5a {m:MatV} (hm:MatOk m) {n:Nat} (hn:m.2.2.1=(n:Int)):mulM m (A2F m.1 n)=m:=by
 obtain⟨p,r,c,xs⟩:=m;obtain⟨R,C,h1,h2,h3,h4,h5,h6,h7⟩:=hm.nat;obtain rfl:c=(n:Int):=hn;obtain rfl:r=(R:Int):=h1;obtain rfl:C=n:=by have h2:(n:Int)=C:=h2;omega
 have h5:xs.length=R*C:=h5;have h7:A0N 0 (p-1) xs:=h7;unfold mulM A2F;simp only[Int.toNat_natCast,Prod.mk.injEq,true_and];refine List.ext_getElem (by rw[A0F,h5]) fun q hq hq'=>?_;rw[<-A0y (d:=0) hq,<-A0y (d:=0) hq'];have hC:0<C:=by
   rcases Nat.eq_zero_or_pos C with h|h
   . rw[h,Nat.mul_zero]at h5;omega
   . exact h
 have hdiv:q/C<R:=(Nat.div_lt_iff_lt_mul hC).2 (by omega);have hmod:=Nat.mod_lt q hC;have e:q/C*C+q%C=q:=by rw[Nat.mul_comm];exact Nat.div_add_mod q C
 have key:∀ i j,i<R->j<C->(A1v R C fun i j=>sumN (fun k=>xs.getD (i*C+k) 0*(A1v C C fun i j=>if i=j then(1:Int)else 0).getD (k*C+j) 0) C%p).getD (i*C+j) 0=xs.getD (i*C+j) 0:=fun i j hi hj=>by
   rw[A1z _ _ _ hi hj,A0u hj fun k hk hne=>by rw[A1z _ _ _ hk hj,if_neg hne,Int.mul_zero],A1z _ _ _ hj hj,if_pos rfl,Int.mul_one];have hlt:=blk_in hi hj;exact emod_self (h7 _ (A0z 0 (by omega)))
 have:=key (q/C) (q%C) hdiv hmod
 rwa [e]at this
theorem A5D {s:ShfV} (h:SheafOk s) {i j:Nat} (hi:i<s.1.length) (hj:j<(fcs s.1 i).length):A0i s (fc s.1 i j) i=A0v s i j:=by
 have A:=A0o h hi hj;have hti:=(h.1.2 i hi).1;have hsub:∀ x∈s.1.getD (fc s.1 i j) [],x∈s.1.getD i []:=by rw[A.2.1];exact A3J
 obtain⟨m,m0,m1,m2,m3,m4,m5,m6⟩:=A0m s h (fc s.1 i j) A.1 1 i hi (by omega) hsub;have c1:Ac1.F (s,((fc s.1 i j:Nat):Int),(i:Int),())=some ((m,()),()):=Ac1.ofR ⟨_,fun q hq=>m5 q (Nat.lt_of_succ_le hq)⟩;have e:A0i s (fc s.1 i j) i=m:=by unfold A0i;rw[c1]
 obtain⟨j',g1,g2,g3⟩:=m0.2 rfl;have ej:j'=j:=by
   refine Classical.byContradiction fun hne=>g2 ?_;rw[A.2.1];unfold A0w;rw[List.mem_append];rcases Nat.lt_or_gt_of_ne hne with hlt|hlt
   . left;have:(s.1.getD i []).getD j' 0=((s.1.getD i []).take j).getD j' 0:=by
       simp only[List.getD_eq_getElem?_getD,List.getElem?_take,if_pos hlt]
     rw[this];exact A0z 0 (by rw[List.length_take];omega)
   . right;have:(s.1.getD i []).getD j' 0=((s.1.getD i []).drop (j+1)).getD (j'-(j+1)) 0:=by
       simp only[List.getD_eq_getElem?_getD,List.getElem?_drop];rw[show j+1+(j'-(j+1))=j' by omega]
     rw[this];exact A0z 0 (by rw[List.length_drop];omega)
 subst ej;have mo:=A0r h hi hj;rw[e,g3,<-mo.2.1];refine A5a mo.1 ?_;have hst:=A1x h A.1;rw[A.2.2.2.2.1];omega
theorem A3l {s:ShfV} {p:List (List Int)} (h:SheafOk s) (hc:CplxOk p) (hi:IsIn p s.1) {k j:Nat} (hk:k<p.length) (hj:j<(fcs p k).length) :
   A0Q s.1 (p.getD k [])<s.1.length/\j<(fcs s.1 (A0Q s.1 (p.getD k []))).length/\fc s.1 (A0Q s.1 (p.getD k [])) j=A0Q s.1 (p.getD (fc p k j) [])/\A0v (rstS s p) k j=A0v s (A0Q s.1 (p.getD k [])) j/\fc p k j<p.length/\(p.getD (fc p k j) []).length+1=(p.getD k []).length/\s.1.getD (A0Q s.1 (p.getD k [])) []=p.getD k []:=by
 obtain⟨f,h1,h2,h3,h4,h5⟩:=A3Y hc hk hj;have ef:fc p k j=f:=by rw[fc,h1,Int.toNat_natCast]
 obtain⟨i1,i2⟩:=A0E (hi _ (A0z [] hk));obtain⟨f1,f2⟩:=A0E (hi _ (A0z [] h2));have hl:j<(fcs s.1 (A0Q s.1 (p.getD k []))).length:=by rw[A0k,i2,if_pos h5];exact h4
 have A:=A0o h i1 hl;have e:fc s.1 (A0Q s.1 (p.getD k [])) j=A0Q s.1 (p.getD f []):=A1y h.1.sorted A.1 f1 (by rw[A.2.1,f2,i2,h3]);refine⟨i1,hl,by rw[ef];exact e,?_,by rw[ef];exact h2,by rw[ef,h3,A0L h4];omega,i2⟩;have e1:A0v (rstS s p) k j=A0i s (plAt s p (vts p) f) (plAt s p (vts p) k):=by
   show(A1J s p (vts p)).getD (off p k+j) (0,0,0,[])=_;rw[A1J,A1w,A0K _ _ (by rw[A0I];exact A3j hk hj),A2x p hk hj];simp only[h1,Int.toNat_natCast]
 rw[e1,A3i s hc h2,A3i s hc hk,<-e];exact A5D h i1 hl
theorem A5u {s:ShfV} {p:List (List Int)} (hs:A1q s) (hc:CplxOk p) (hi:IsIn p s.1):A1q (rstS s p):=by
 have h:=hs.1;refine⟨A4u h hc hi,?_⟩;unfold A1f;rw[List.findSome?_eq_none_iff];intro k hk;have hk:k<p.length:=by
   rw[List.mem_range']at hk;obtain⟨q,hq,rfl⟩:=hk;have:q<p.length-0:=hq;omega
 unfold A1e;by_cases h3:(p.getD k []).length<3
 . exact if_pos h3
 . refine(if_neg h3).trans ?_;rw[List.findSome?_eq_none_iff];intro i hi';have hi':i<(p.getD k []).length:=by
     rw[List.mem_range']at hi';obtain⟨q,hq,rfl⟩:=hi';have:q<(p.getD k []).length-0:=hq;omega
   unfold A3F;rw[List.findSome?_eq_none_iff];intro j hj;have hij:i<j/\j<(p.getD k []).length:=by
     rw[List.mem_range']at hj;obtain⟨q,hq,rfl⟩:=hj;have:q<(p.getD k []).length-(i+1):=hq;omega
   unfold A2H;refine if_pos ?_;have hl:(fcs p k).length=(p.getD k []).length:=by rw[A0k,if_pos (by omega)]
   have A:=A3l h hc hi hk (j:=i) (by omega);have B:=A3l h hc hi hk (j:=j) (by omega);have la:(fcs p (fc p k i)).length=(p.getD (fc p k i) []).length:=by rw[A0k,if_pos (by omega)]
   have lb:(fcs p (fc p k j)).length=(p.getD (fc p k j) []).length:=by rw[A0k,if_pos (by omega)]
   have A2:=A3l h hc hi A.2.2.2.2.1 (j:=j-1) (by omega);have B2:=A3l h hc hi B.2.2.2.2.1 (j:=i) (by omega);have e1:sqA (rstS s p) k i j=sqA s (A0Q s.1 (p.getD k [])) i j:=by
     unfold sqA;rw[A.2.2.2.1,show fc (rstS s p).1 k i=fc p k i from rfl,A2.2.2.2.1,A.2.2.1]
   have e2:sqB (rstS s p) k i j=sqB s (A0Q s.1 (p.getD k [])) i j:=by
     unfold sqB;rw[B.2.2.2.1,show fc (rstS s p).1 k j=fc p k j from rfl,B2.2.2.2.1,B.2.2.1]
   rw[e1,e2];exact sq_of hs A.1 (by rw[A.2.2.2.2.2.2];omega) hij.1 (by rw[A.2.2.2.2.2.2];exact hij.2)
noncomputable def lrS (h:List (List Int)) (w:Int) (i:Nat):List Int:=[IntKind.i64.wrap ((h.getD 0 []).getD i 0-w),IntKind.i64.wrap (IntKind.i64.wrap ((h.getD 1 []).getD i 0+(h.getD 2 []).getD i 0)-IntKind.i64.wrap ((h.getD 0 []).getD i 0-w)),IntKind.i64.wrap ((h.getD 3 []).getD i 0-IntKind.i64.wrap (IntKind.i64.wrap ((h.getD 1 []).getD i 0+(h.getD 2 []).getD i 0)-IntKind.i64.wrap ((h.getD 0 []).getD i 0-w)))]
noncomputable def lrW (h:List (List Int)):Nat->Int
 | 0=>0
 | i+1=>(lrS h (lrW h i) i).getD 2 0
noncomputable def lrL (h:List (List Int)):List (List Int):=(List.range 4).map fun i=>lrS h (lrW h i) i
noncomputable def A2N (s:ShfV) (a b:List (List Int)):List (List Int)×Int:=if covC s a b≠0 then([],covC s a b)else(lrL (A4x s a b),0)
structure Four (h:List (List Int)):Prop where
 l:h.length=4
 l0:(h.getD 0 []).length=4
 l1:(h.getD 1 []).length=4
 l2:(h.getD 2 []).length=4
 l3:(h.getD 3 []).length=4
theorem A2j {s:ShfV} (h:A1q s):(cohV s).1.length=4:=by
 rw[cohV,if_pos h];simp
theorem A3I {s:ShfV} {a b:List (List Int)} (h:covC s a b=0):Four (A4x s a b):=by
 have c:=covAt h;have r:=A5Q h;exact⟨rfl,A2j c.s1,A2j (A5u c.s1 c.ha c.ia),A2j (A5u c.s1 c.hb c.ib),A2j (A5u c.s1 r.hB r.iB)⟩
theorem Ae8.go {h:List (List Int)} (f:Four h):Goes (fun k=>Ae8.l8 k 0 4 0 h []) (fun k=>Ae8.l8 k (lrW h 4) 4 4 h (lrL h)):=by
 refine Goes.push (R:=(List (List Int)×Int×Unit)×Unit) (fun k i x=>Ae8.l8 k (lrW h i) 4 (i:Int) h x) 4 (fun i=>lrS h (lrW h i) i) fun i x hi hx=>Goes.succ fun k=>?_;obtain⟨f0,f1,f2,f3,f4⟩:=f;have t1:(1:Int).toNat=1:=rfl;have t2:(2:Int).toNat=2:=rfl;have t3:(3:Int).toNat=3:=rfl;rw[Ae8.l8_eq,if_pos (by simp only[decide_eq_true_eq];omega)];simp only[Int.toNat_natCast,Int.toNat_zero,t1,t2,t3,f0,f1,f2,f3,f4];have hii:0≤(i:Int)/\(i:Int)<((4:Nat):Int):=by omega
 rw[if_pos (by omega),if_pos hii,if_pos (by omega),if_pos hii,if_pos (by omega),if_pos hii,if_pos (by omega),if_pos hii,if_pos (A2z hx (by omega)),A0x (by omega)];rfl
theorem Af5.go {h:List (List Int)} (f:Four h):Goes (fun k=>Af5.l8 k 0 0 h []) (fun k=>Af5.l8 k (lrW h 4) 4 h (lrL h)):=by
 refine Goes.push (R:=(List (List Int)×Int×Unit)×Unit) (fun k i x=>Af5.l8 k (lrW h i) (i:Int) h x) 4 (fun i=>lrS h (lrW h i) i) fun i x hi hx=>Goes.succ fun k=>?_;obtain⟨f0,f1,f2,f3,f4⟩:=f;have t1:(1:Int).toNat=1:=rfl;have t2:(2:Int).toNat=2:=rfl;have t3:(3:Int).toNat=3:=rfl;rw[Af5.l8_eq,if_pos (by simp only[decide_eq_true_eq];omega)];simp only[Int.toNat_natCast,Int.toNat_zero,t1,t2,t3,f0,f1,f2,f3,f4];have hii:0≤(i:Int)/\(i:Int)<((4:Nat):Int):=by omega
 rw[if_pos (by omega),if_pos hii,if_pos (by omega),if_pos hii,if_pos (by omega),if_pos hii,if_pos (by omega),if_pos hii,if_pos (A2z hx (by omega)),A0x (by omega)];rfl
theorem A1t (s:ShfV) (a b:List (List Int)):SmL (A2N s a b).1:=by
 unfold A2N;split
 . exact⟨by simp,by simp⟩
 . refine⟨by simp[lrL],fun x hx=>?_⟩;obtain⟨i,_,rfl⟩:=List.mem_map.1 hx;unfold Sm lrS;simp
theorem Ap9.val (m:MatV) (l:Int) (h0:0≤l) (h1:l≤1048576) (hx:m.2.2.2.length≤maxLen):∃ r,Ap9.F (m,l,())=some ((r,()),())/\(r=-1∨0≤r/\r≤l/\SmM m):=by
 obtain⟨a,b,c,xs⟩:=m;obtain⟨r,h2,h3⟩:=Af3.val xs l h0 h1 hx;rw[Ap9.eq,Ap9.T,h2];simp only[Option.bind_some];rcases h3 with rfl|⟨a,b,c⟩
 . exact⟨-1,by rw[if_pos (by simp)],.inl rfl⟩
 . exact⟨r,by rw[if_neg (by simp;omega)],.inr ⟨a,b,c⟩⟩
theorem Aj0.val (xs:List MatV) (l:Int) (h0:0≤l) (h1:l≤1048576) (hx:xs.length≤maxLen) (hr:∀ x∈xs,x.2.2.2.length≤maxLen):∃ r,Aj0.F (xs,l,())=some ((r,()),())/\(r=-1∨0≤r/\r≤l/\SmMs xs):=by
 have:xs.length≤9223372036854775807:=hx;by_cases h:l<xs.length
 . exact⟨-1,Aj0.of _ _ ((Ev.const _).of_eq fun k=>by rw[Aj0.T,A0j (by omega) (by omega),if_pos (by simp;omega)]),.inl rfl⟩
 obtain⟨r,hv,h2⟩:=A6k (fun k i s=>Aj0.l5 k xs s (i:Int)) xs (0,0,0,[]) SmM (fun i s hi s0 s1=>by
   have E:=fun k=>Aj0.l5_eq k xs s (i:Int);obtain⟨r,hr1,hr2⟩:=Ap9.val (xs.getD i (0,0,0,[])) s s0 s1 (hr _ (A0z _ hi));simp only[if_pos (ltI.2 hi),if_pos (idxI.2 hi),Int.toNat_natCast,hr1,Option.bind_some,A0x (show i<4611686018427387904 by omega)]at E;rcases hr2 with rfl|⟨a,b,c⟩
   . exact .inr fun k=>by rw[E,if_pos (by simp)]
   . exact .inl ⟨r,a,b,c,fun k=>by rw[E,if_neg (by simp;omega)]⟩) (fun k l=>by rw[Aj0.l5_eq,if_neg (by simp)]) (l-xs.length) (by omega) (by omega)
 refine⟨r,Aj0.of _ _ (hv.of_eq fun k=>by rw[Aj0.T,A0j (by omega) (by omega),if_neg (by simp;omega)];rfl),?_⟩;rcases h2 with h2|⟨a,b,c⟩
 . exact .inl h2
 . exact .inr ⟨a,by omega,by omega,c⟩
theorem Aq0.val (m:MatV) (h:SmM m):Aq0.F (m,())=some ((m,()),()):=by
 obtain⟨a,b,c,xs⟩:=m;have hs:xs.length≤1048576:=h;rw[Aq0.eq,Aq0.T,Ad7.val xs (by omega)];rfl
theorem Ak9.val (xs:List MatV) (h:SmMs xs):Ak9.F (xs,())=some ((xs,()),()):=by
 have hl:=h.1;refine Ak9.of xs ?_;have:=Goes.fill (L:=fun k i ys=>Ak9.l3 k xs (i:Int) ys) xs (0,0,0,[]) (fun k i ys hi hy=>by
   rw[Ak9.l3_eq,if_pos (ltI.2 hi),if_pos (idxI.2 hi)];simp only[Int.toNat_natCast,Aq0.val _ (h.2 _ (A0z (0,0,0,[]) hi)),Option.bind_some];rw[if_pos (by omega),A0x (by omega)]) (List.replicate xs.length (0,0,0,[])) (by simp)
 refine Ev.of_eq (this _ ((Ev.const _).succ fun k=>?_)) fun k=>?_
 . rw[Ak9.l3_eq,if_neg (by simp)]
 . rw[Ak9.T,if_pos (by simp only[bigN];omega)];rfl
theorem Ap6.same (m n:MatV) (h:SmM m):∃ b,Ap6.F (m,n,())=some ((b,()),())/\(b=true↔m=n):=by
 obtain⟨a,b,c,xs⟩:=m;obtain⟨a',b',c',ys⟩:=n;have hs:xs.length≤1048576:=h;obtain⟨e,he,he'⟩:=Ac7.val xs ys (by omega);rw[Ap6.eq,Ap6.T,he];simp only[Option.bind_some,Prod.mk.injEq];by_cases h1:a=a'
 . by_cases h2:b=b'
   . by_cases h3:c=c'
     . rw[if_neg (by simp[h1]),if_neg (by simp[h2]),if_neg (by simp[h3])];exact⟨e,by cases e<;>rfl,by simp[h1,h2,h3,he']⟩
     . exact⟨false,by rw[if_neg (by simp[h1]),if_neg (by simp[h2]),if_pos (by simp[h3])],by simp[h3]⟩
   . exact⟨false,by rw[if_neg (by simp[h1]),if_pos (by simp[h2])],by simp[h2]⟩
 . exact⟨false,by rw[if_pos (by simp[h1])],by simp[h1]⟩
theorem Ai8.same (xs ys:List MatV) (h:SmMs xs):∃ b,Ai8.F (xs,ys,())=some ((b,()),())/\(b=true↔xs=ys):=by
 have hn:=h.1;by_cases hl:xs.length=ys.length
 . obtain⟨b,hb,hb'⟩:=A1L (fun k i=>Ai8.l4 k xs ys (i:Int)) xs ys (0,0,0,[]) hl (fun i hi=>by
     obtain⟨c,hc,hc'⟩:=Ap6.same (xs.getD i (0,0,0,[])) (ys.getD i (0,0,0,[])) (h.2 _ (A0z _ hi));exact⟨c,hc',fun k=>by rw[Ai8.l4_eq,if_pos (ltI.2 hi),if_pos (idxI.2 hi),if_pos (idx2 (hl▸hi))];simp only[Int.toNat_natCast,hc,Option.bind_some];rw[A0x (by omega)]⟩) (fun k=>by rw[Ai8.l4_eq,if_neg (by simp)])
   exact⟨b,Ai8.of _ _ (hb.of_eq fun k=>by rw[Ai8.T,if_neg (by simp[hl])];rfl),hb'⟩
 . exact⟨false,Ai8.of _ _ ((Ev.const _).of_eq fun k=>by rw[Ai8.T,if_pos (by simp;omega)]),by simp;intro e;exact hl (by rw[e])⟩
theorem shf_wf {s:ShfV} (h:wfT (.pair (.sl (.sl (.int .i64))) (.pair (.int .i64) (.pair (.sl (.int .i64)) (.sl (.pair (.int .i64) (.pair (.int .i64) (.pair (.int .i64) (.sl (.int .i64))))))))) s):s.1.length≤maxLen/\(∀ x∈s.1,x.length≤maxLen)/\s.2.2.1.length≤maxLen/\s.2.2.2.length≤maxLen/\∀ x∈s.2.2.2,x.2.2.2.length≤maxLen:=by
 obtain⟨a,p,b,c⟩:=s;obtain⟨⟨h1,h2⟩,_,⟨h3,_⟩,h4,h5⟩:=h;exact⟨h1,fun x hx=>(h2 x hx).1,h3,h4,fun x hx=>(h5 x hx).2.2.2.1⟩
theorem An3.val (s:ShfV) (l:Int) (h0:0≤l) (h1:l≤1048576) (w1:s.1.length≤maxLen) (w2:∀ x∈s.1,x.length≤maxLen) (w3:s.2.2.1.length≤maxLen) (w4:s.2.2.2.length≤maxLen) (w5:∀ x∈s.2.2.2,x.2.2.2.length≤maxLen):∃ r,An3.F (s,l,())=some ((r,()),())/\(r=-1∨0≤r/\r≤l/\SmSh s):=by
 obtain⟨a,p,b,c⟩:=s;obtain⟨r1,e1,k1⟩:=Ah2.val a l h0 h1 w1 w2;rw[An3.eq,An3.T,e1];simp only[Option.bind_some];rcases k1 with rfl|⟨a1,b1,c1⟩
 . exact⟨-1,by rw[if_pos (by simp)],.inl rfl⟩
 rw[if_neg (by simp;omega)];obtain⟨r2,e2,k2⟩:=Af3.val b r1 a1 (by omega) w3;rw[e2];simp only[Option.bind_some];rcases k2 with rfl|⟨a2,b2,c2⟩
 . exact⟨-1,by rw[if_pos (by simp)],.inl rfl⟩
 rw[if_neg (by simp;omega)];obtain⟨r3,e3,k3⟩:=Aj0.val c r2 a2 (by omega) w4 w5;rw[e3];simp only[Option.bind_some];rcases k3 with rfl|⟨a3,b3,c3⟩
 . exact⟨-1,by rw[if_pos (by simp)],.inl rfl⟩
 exact⟨r3,by rw[if_neg (by simp;omega)],.inr ⟨a3,by omega,c1,c2,c3⟩⟩
theorem Ak0.val (s:ShfV) (h:SmSh s):Ak0.F (s,())=some ((s,()),()):=by
 obtain⟨a,p,b,c⟩:=s;obtain⟨h1,h2,h3⟩:=h;have h2':b.length≤1048576:=h2;rw[Ak0.eq,Ak0.T,Ad6.val a h1,Ad7.val b (by omega),Ak9.val c h3];rfl
theorem Ap7.same (s t:ShfV) (h:SmSh s):∃ b,Ap7.F (s,t,())=some ((b,()),())/\(b=true↔s=t):=by
 obtain⟨a,p,b,c⟩:=s;obtain⟨a',p',b',c'⟩:=t;obtain⟨h1,h2,h3⟩:=h;have h2':b.length≤1048576:=h2;obtain⟨v1,e1,k1⟩:=Ah0.same a a' h1;obtain⟨v2,e2,k2⟩:=Ac7.val b b' (by omega);obtain⟨v3,e3,k3⟩:=Ai8.same c c' h3;rw[Ap7.eq,Ap7.T,e1,e2,e3];simp only[Option.bind_some,Prod.mk.injEq];by_cases hp:p=p'
 . rw[show(p !=p')=false by simp[hp]];refine⟨v1&&v2&&v3,by cases v1<;>cases v2<;>cases v3<;>rfl,?_⟩;simp only[Bool.and_eq_true,k1,k2,k3,hp,true_and,and_assoc]
 . rw[show(p !=p')=true by simp[hp]];exact⟨false,by cases v1<;>rfl,by simp[hp]⟩
def A2t (ys:List Int) (k:Int):Prop:=∀ j,j<ys.length->ys.getD j 0=k+j
theorem Ae3.val (xs:List Int) (k0:Int) (h0:0≤k0) (h1:k0+xs.length≤4611686018427387904):∃ ys,Ae3.F (xs,k0,())=some ((k0+xs.length,()),(ys,()))/\ys.length=xs.length/\A2t ys k0:=by
 obtain⟨⟨v,ys⟩,⟨hv,hl,hm⟩,hg⟩:=Goes.loop (R:=(Int×Unit)×(List Int×Unit)) (fun k i (s:Int×List Int)=>Ae3.l2 k s.1 (i:Int) s.2) xs.length (fun i s=>s.1=k0+i/\s.2.length=xs.length/\∀ j,j<i->s.2.getD j 0=k0+j)
   (fun i s hi ⟨h2,h3,h4⟩=>⟨(s.1+1,s.2.set i s.1),⟨by simp only[];omega,by simp[h3],fun j hj=>by
     simp only[List.getD_eq_getElem?_getD,List.getElem?_set];by_cases hij:i=j
     . subst hij;simp[h3,hi,h2]
     . have:=h4 j (by omega);simp only[List.getD_eq_getElem?_getD]at this;simp[hij,this]⟩,Goes.succ fun k=>by
     rw[Ae3.l2_eq,if_pos (by simp;omega),if_pos (by omega),A0j (by omega) (by omega),A0x (by omega)];simp only[Int.toNat_natCast]⟩) 0 (k0,xs) (Nat.zero_le _) ⟨by simp,rfl,fun j hj=>by omega⟩
 simp only[]at hv hl hm;refine⟨ys,Ae3.of _ _ ((hg _ ((Ev.const _).succ fun k=>?_)).of_eq fun k=>rfl),hl,fun j hj=>hm j (by omega)⟩;rw[Ae3.l2_eq,if_neg (by simp;omega),hv]
theorem Am3.val (ys:List Int) (k0:Int) (h0:0≤k0) (h1:k0+ys.length≤4611686018427387904) (hm:A2t ys k0):Am3.F (ys,k0,())=some ((k0+ys.length,()),()):=by
 obtain⟨v,hv,hg⟩:=Goes.loop (R:=(Int×Unit)×Unit) (fun k i (s:Int)=>Am3.l2 k ys s (i:Int)) ys.length (fun i s=>s=k0+i)
   (fun i s hi h2=>⟨s+1,by omega,Goes.succ fun k=>by
     rw[Am3.l2_eq,if_pos (ltI.2 hi),if_pos (idxI.2 hi),if_neg (by simp only[Int.toNat_natCast];rw[hm i hi,h2];simp),A0j (by omega) (by omega),A0x (by omega)]⟩) 0 k0 (Nat.zero_le _) (by simp)
 refine Am3.of _ _ ((hg _ ((Ev.const _).succ fun k=>?_)).of_eq fun k=>rfl);rw[Am3.l2_eq,if_neg (by simp),hv]
def mkI (n:Nat) (k:Int):List Int:=(List.range n).map fun(j:Nat)=>k+(j:Int)
theorem A5k (n:Nat) (k:Int):(mkI n k).length=n:=by simp[mkI]
theorem A5A (n:Nat) (k:Int):A2t (mkI n k) k:=fun j hj=>by
 rw[A5k]at hj;simp[mkI,List.getD_eq_getElem?_getD,hj]
theorem mkI_of {ys:List Int} {k:Int} (h:A2t ys k):ys=mkI ys.length k:=by
 refine List.ext_getElem (by simp[mkI]) fun i h1 h2=>?_;rw[<-A0y (d:=0) h1,<-A0y (d:=0) h2,h i h1,A5A _ _ i h2]
def mkM (m:MatV) (k:Int):MatV:=(k,k+1,k+1+1,mkI m.2.2.2.length (k+1+1+1))
def szM (m:MatV):Nat:=3+m.2.2.2.length
def offM (ms:List MatV) (i:Nat):Nat:=((ms.take i).map szM).sum
theorem A2k {ms:List MatV} {i:Nat} (h:i<ms.length):offM ms (i+1)=offM ms i+szM (ms.getD i (0,0,0,[])):=by
 unfold offM;rw[List.take_add_one,List.getElem?_eq_getElem h,Option.toList_some,List.map_append,List.sum_append,A0y h];simp
theorem offM_le {ms:List MatV} {i j:Nat} (h:i≤j):offM ms i≤offM ms j:=by
 induction h with
 | refl=>exact Nat.le_refl _
 | @step m _ ih =>
   by_cases hm:m<ms.length
   . rw[Nat.succ_eq_add_one,A2k hm];omega
   . have:offM ms (m+1)=offM ms m:=by unfold offM;rw[List.take_of_length_le (by omega),List.take_of_length_le (by omega)]
     rw[Nat.succ_eq_add_one,this];exact ih
theorem offM_bd {ms:List MatV} (h:SmMs ms):offM ms ms.length≤1048579*1048576:=by
 have key:∀ i,i≤ms.length->offM ms i≤1048579*i:=by
   intro i;induction i with
   | zero=>intro _;simp[offM]
   | succ i ih =>
     intro hi;have h1:=ih (by omega);have h2:(ms.getD i (0,0,0,[])).2.2.2.length≤1048576:=h.2 _ (A0z _ (by omega));rw[A2k (by omega),szM];omega
 have:=key ms.length (Nat.le_refl _);have:=h.1;omega
theorem A6c {α:Type} (l:List α) (i:Nat) (x y:α):(l.set i x).set i y=l.set i y:=by rw[List.set_set]
theorem A2q {α:Type} (l:List α) (i:Nat) (x d:α) (h:i<l.length):(l.set i x).getD i d=x:=by simp[List.getD_eq_getElem?_getD,h]
theorem Am4.val (ms:List MatV) (k0:Int) (h0:0≤k0) (hx:ms.length<4611686018427387904) (h1:k0+offM ms ms.length≤4611686018427387904) :
   ∃ ys,Am4.F (ms,k0,())=some ((k0+offM ms ms.length,()),(ys,()))/\ys.length=ms.length/\∀ j,j<ms.length->ys.getD j (0,0,0,[])=mkM (ms.getD j (0,0,0,[])) (k0+offM ms j):=by
 obtain⟨⟨v,ys⟩,⟨hv,hl,hm,-⟩,hg⟩:=Goes.loop (R:=(Int×Unit)×(List MatV×Unit)) (fun k i (s:Int×List MatV)=>Am4.l2 k s.1 (i:Int) s.2) ms.length
   (fun i s=>s.1=k0+offM ms i/\s.2.length=ms.length/\(∀ j,j<i->s.2.getD j (0,0,0,[])=mkM (ms.getD j (0,0,0,[])) (k0+offM ms j))/\∀ j,i≤j->s.2.getD j (0,0,0,[])=ms.getD j (0,0,0,[]))
   (fun i s hi ⟨h2,h3,h4,h5⟩=>by
     have hle:=offM_le (ms:=ms) (show i+1≤ms.length by omega);rw[A2k hi,szM]at hle;obtain⟨m,hm⟩:∃ m,ms.getD i (0,0,0,[])=m:=⟨_,rfl⟩;rw[hm]at hle;obtain⟨ys,e1,e2,e3⟩:=Ae3.val m.2.2.2 (s.1+1+1+1) (by omega) (by omega);have e4:ys=mkI m.2.2.2.length (s.1+1+1+1):=by rw[<-e2];exact mkI_of e3
     have w1:IntKind.i64.wrap (s.1+1)=s.1+1:=A0j (by omega) (by omega);have w2:IntKind.i64.wrap (s.1+1+1)=s.1+1+1:=A0j (by omega) (by omega);have w3:IntKind.i64.wrap (s.1+1+1+1)=s.1+1+1+1:=A0j (by omega) (by omega);have hsi:s.2.getD i (0,0,0,[])=m:=by rw[h5 i (Nat.le_refl _),hm]
     have hil:i<s.2.length:=by omega
     refine⟨(s.1+1+1+1+m.2.2.2.length,s.2.set i (mkM m s.1)),⟨by simp only[];rw[A2k hi,hm,szM];omega,by simp[h3],fun j hj=>?_,fun j hj=>?_⟩,Goes.succ fun k=>?_⟩
     . by_cases hij:i=j
       . subst hij;simp only[];rw[A2q _ _ _ _ hil,hm,h2]
       . have:=h4 j (by omega);simp only[List.getD_eq_getElem?_getD,List.getElem?_set]at this ⊢;rw[if_neg hij];exact this
     . have:=h5 j (by omega);simp only[List.getD_eq_getElem?_getD,List.getElem?_set]at this ⊢;rw[if_neg (by omega)];exact this
     . rw[Am4.l2_eq,if_pos (by simp;omega),if_pos (by omega)];simp only[Int.toNat_natCast,hsi,A6c,A2q _ _ _ _ hil,List.length_set,w1,w2,w3];rw[if_pos (by omega),if_pos (by omega),if_pos (by omega),e1];simp only[Option.bind_some];rw[A0x (by omega),e4];rfl) 0 (k0,ms) (Nat.zero_le _) ⟨by simp[offM],rfl,fun j hj=>by omega,fun _ _=>rfl⟩
 simp only[]at hv hl hm;refine⟨ys,Am4.of _ _ ((hg _ ((Ev.const _).succ fun k=>?_)).of_eq fun k=>rfl),hl,hm⟩;rw[Am4.l2_eq,if_neg (by simp;omega),hv]
def offs (xs:List (List Int)) (i:Nat):Nat:=((xs.take i).map List.length).sum
theorem A1H {xs:List (List Int)} {i:Nat} (h:i<xs.length):offs xs (i+1)=offs xs i+(xs.getD i []).length:=by
 unfold offs;rw[List.take_add_one,List.getElem?_eq_getElem h,Option.toList_some,List.map_append,List.sum_append,A0y h];simp
theorem A5h {xs:List (List Int)} {i j:Nat} (h:i≤j):offs xs i≤offs xs j:=by
 induction h with
 | refl=>exact Nat.le_refl _
 | @step m _ ih =>
   by_cases hm:m<xs.length
   . rw[Nat.succ_eq_add_one,A1H hm];omega
   . have:offs xs (m+1)=offs xs m:=by unfold offs;rw[List.take_of_length_le (by omega),List.take_of_length_le (by omega)]
     rw[Nat.succ_eq_add_one,this];exact ih
theorem Ag0.val (xs:List (List Int)) (k0:Int) (h0:0≤k0) (hx:xs.length<4611686018427387904) (h1:k0+offs xs xs.length≤4611686018427387904) :
   ∃ ys,Ag0.F (xs,k0,())=some ((k0+offs xs xs.length,()),(ys,()))/\ys.length=xs.length/\∀ j,j<xs.length->(ys.getD j []).length=(xs.getD j []).length/\A2t (ys.getD j []) (k0+offs xs j):=by
 obtain⟨⟨v,ys⟩,⟨hv,hl,hm,-⟩,hg⟩:=Goes.loop (R:=(Int×Unit)×(List (List Int)×Unit)) (fun k i (s:Int×List (List Int))=>Ag0.l2 k s.1 (i:Int) s.2) xs.length
   (fun i s=>s.1=k0+offs xs i/\s.2.length=xs.length/\(∀ j,j<i->(s.2.getD j []).length=(xs.getD j []).length/\A2t (s.2.getD j []) (k0+offs xs j))/\∀ j,i≤j->s.2.getD j []=xs.getD j [])
   (fun i s hi ⟨h2,h3,h4,h5⟩=>by
     have hle:=A5h (xs:=xs) (show i+1≤xs.length by omega);rw[A1H hi]at hle;obtain⟨ys,e1,e2,e3⟩:=Ae3.val (s.2.getD i []) s.1 (by omega) (by rw[h5 i (Nat.le_refl _),h2];omega);rw[h5 i (Nat.le_refl _)]at e1 e2;refine⟨(s.1+(xs.getD i []).length,s.2.set i ys),⟨by simp only[];rw[A1H hi];omega,by simp[h3],fun j hj=>?_,fun j hj=>?_⟩,Goes.succ fun k=>?_⟩
     . simp only[List.getD_eq_getElem?_getD,List.getElem?_set];by_cases hij:i=j
       . subst hij;simp only[h3,hi,if_true,Option.getD_some];exact⟨by rw[e2,List.getD_eq_getElem?_getD],by rw[<-h2];exact e3⟩
       . have:=h4 j (by omega);simp only[List.getD_eq_getElem?_getD]at this;simpa[hij]using this
     . have:=h5 j (by omega);simp only[List.getD_eq_getElem?_getD,List.getElem?_set]at this ⊢;rw[if_neg (by omega)];exact this
     . rw[Ag0.l2_eq,if_pos (by simp;omega),if_pos (by omega)];simp only[Int.toNat_natCast,h5 i (Nat.le_refl _),e1,Option.bind_some];rw[A0x (by omega)]) 0 (k0,xs) (Nat.zero_le _) ⟨by simp[offs],rfl,fun j hj=>by omega,fun _ _=>rfl⟩
 simp only[]at hv hl hm;refine⟨ys,Ag0.of _ _ ((hg _ ((Ev.const _).succ fun k=>?_)).of_eq fun k=>rfl),hl,hm⟩;rw[Ag0.l2_eq,if_neg (by simp;omega),hv]
theorem Aj9.val (xs ys:List (List Int)) (k0:Int) (h0:0≤k0) (hx:xs.length<4611686018427387904) (h1:k0+offs xs xs.length≤4611686018427387904) (hl:ys.length=xs.length)
   (hm:∀ j,j<xs.length->(ys.getD j []).length=(xs.getD j []).length/\A2t (ys.getD j []) (k0+offs xs j)):Aj9.F (ys,k0,())=some ((k0+offs xs xs.length,()),()):=by
 obtain⟨v,hv,hg⟩:=Goes.loop (R:=(Int×Unit)×Unit) (fun k i (s:Int)=>Aj9.l2 k ys s (i:Int)) xs.length (fun i s=>s=k0+offs xs i)
   (fun i s hi h2=>by
     have hle:=A5h (xs:=xs) (show i+1≤xs.length by omega);rw[A1H hi]at hle;obtain⟨e1,e2⟩:=hm i hi;have e3:=Am3.val (ys.getD i []) s (by omega) (by rw[e1,h2];omega) (by rw[h2];exact e2);refine⟨s+(xs.getD i []).length,by rw[A1H hi];omega,Goes.succ fun k=>?_⟩;rw[Aj9.l2_eq,if_pos (by simp;omega),if_pos (by omega)];simp only[Int.toNat_natCast,e3,Option.bind_some];rw[if_neg (by simp;omega),A0x (by omega),e1]) 0 k0 (Nat.zero_le _) (by simp[offs])
 refine Aj9.of _ _ ((hg _ ((Ev.const _).succ fun k=>?_)).of_eq fun k=>rfl);rw[Aj9.l2_eq,if_neg (by simp;omega),hv]
theorem A4Y (xs:List (List Int)) (hx:xs.length<4611686018427387904) (h1:offs xs xs.length≤4611686018427387903):∃ ys v,Ag0.F (xs,1,())=some ((v,()),(ys,()))/\Aj9.F (ys,1,())=some ((v,()),())/\0≤v:=by
 obtain⟨ys,h2,h3,h4⟩:=Ag0.val xs 1 (by omega) hx (by omega);exact⟨ys,_,h2,Aj9.val xs ys 1 (by omega) hx (by omega) h3 h4,by omega⟩
theorem A5g {xs:List (List Int)} (h:SmL xs):offs xs xs.length≤1048576*1048576:=by
 have key:∀ i,i≤xs.length->offs xs i≤1048576*i:=by
   intro i;induction i with
   | zero=>intro _;simp[offs]
   | succ i ih =>
     intro hi;have h1:=ih (by omega);have h2:(xs.getD i []).length≤1048576:=h.2 _ (A0z _ (by omega));rw[A1H (by omega)];omega
 have:=key xs.length (Nat.le_refl _);have:=h.1;omega
theorem Ah1.some (c:List (List Int)) (k0:Int) (h:SmL c) (h0:0≤k0) (h1:k0≤1152921504606846976):∃ v ys,Ah1.F (c,k0,())=some ((v,()),(ys,()))/\k0≤v/\v≤k0+1099511627776:=by
 have b:=A5g h;have hl:=h.1;obtain⟨ys,e,_⟩:=Ag0.val c k0 h0 (by omega) (by omega);rw[Ah1.eq,Ah1.T,e];exact⟨k0+((offs c c.length:Nat):Int),_,rfl,by omega,by omega⟩
theorem Ap8.some (s:ShfV) (k0:Int) (h:SmSh s) (h0:0≤k0) (h1:k0≤576460752303423488):∃ v ys,Ap8.F (s,k0,())=some ((v,()),(ys,()))/\k0≤v/\v≤k0+8796093022208:=by
 obtain⟨c,p,st,ms⟩:=s;obtain⟨hc,hst,hms⟩:=h;have hst:st.length≤1048576:=hst;have hml:=hms.1;have b:=offM_bd hms;obtain⟨v1,y1,e1,a1,b1⟩:=Ah1.some c k0 hc h0 (by omega);obtain⟨y2,e2,_⟩:=Ae3.val st v1 (by omega) (by omega);obtain⟨y3,e3,_⟩:=Am4.val ms (v1+st.length) (by omega) (by have:ms.length≤1048576:=hml;omega) (by have:offM ms ms.length≤1048579*1048576:=b;omega);rw[Ap8.eq,Ap8.T,e1];simp only[Option.bind_some,e2,e3];have:offM ms ms.length≤1048579*1048576:=b;exact⟨_,_,rfl,by omega,by omega⟩
theorem A6o {s:List (List Int)} (h:wfT (.sl (.sl (.int .i64))) s):s.length≤maxLen/\∀ x∈s,x.length≤maxLen:=⟨h.1,fun x hx=>(h.2 x hx).1⟩
theorem Ae8.val (s:ShfV) (a b:List (List Int)) (hs:SmSh s) (ha:SmL a) (hb:SmL b):Ae8.F (s,a,b,())=some (((A2N s a b).1,(A2N s a b).2,()),()):=by
 have a1:Ak3.F ((s.1,(s.2.1,(s.2.2.1,s.2.2.2))),a,b,())=some ((covC s a b,()),()):=Ak3.val s a b hs ha hb;have hT:∀ r,Ev (fun n=>Ae8.T n s.1 s.2.1 s.2.2.1 s.2.2.2 a b) r->Ae8.F (s,a,b,())=some r:=fun r hr=>Ae8.of _ _ _ _ _ _ hr;refine hT _ ?_;by_cases h:covC s a b=0
 . have d:Ah7.F ((s.1,(s.2.1,(s.2.2.1,s.2.2.2))),a,b,())=some ((A4x s a b,()),()):=Ah7.val (A5Q h);have f:=A3I h;refine Ev.of_eq (Ae8.go f _ ((Ev.const _).succ fun k=>?_)) fun k=>?_
   . rw[Ae8.l8_eq,if_neg (by decide),A2N,if_neg (by simp[h])]
   . rw[Ae8.T,a1];simp only[Option.bind_some];rw[if_neg (by simp[h]),d];simp only[Option.bind_some];rw[if_pos (by rw[f.l];omega),show((A4x s a b).getD (0:Int).toNat []).length=4 from f.l0];rfl
 . refine(Ev.const _).of_eq fun k=>?_;rw[Ae8.T,a1];simp only[Option.bind_some];rw[if_pos (by simp[h]),A2N,if_pos h]
theorem Af5.val (s:ShfV) (a b:List (List Int)) (hs:SmSh s) (ha:SmL a) (hb:SmL b):Af5.F (s,a,b,())=some (((A2N s a b).1,(A2N s a b).2,()),()):=by
 have a1:Al6.F ((s.1,(s.2.1,(s.2.2.1,s.2.2.2))),a,b,())=some ((covC s a b,()),()):=Al6.val s a b hs ha hb;have hT:∀ r,Ev (fun n=>Af5.T n s.1 s.2.1 s.2.2.1 s.2.2.2 a b) r->Af5.F (s,a,b,())=some r:=fun r hr=>Af5.of _ _ _ _ _ _ hr;refine hT _ ?_;by_cases h:covC s a b=0
 . have d:Al7.F ((s.1,(s.2.1,(s.2.2.1,s.2.2.2))),a,b,())=some ((A4x s a b,()),()):=Al7.val (A5Q h);refine Ev.of_eq (Af5.go (A3I h) _ ((Ev.const _).succ fun k=>?_)) fun k=>?_
   . rw[Af5.l8_eq,if_neg (by decide),A2N,if_neg (by simp[h])]
   . rw[Af5.T,a1];simp only[Option.bind_some];rw[if_neg (by simp[h]),d];rfl
 . refine(Ev.const _).of_eq fun k=>?_;rw[Af5.T,a1];simp only[Option.bind_some];rw[if_pos (by simp[h]),A2N,if_pos h]
theorem An2.pure (d:Ins An2.sig.ps) (h:wfIns An2.sig.ps d):∃ mu,An2.F d=some ((true,()),mu):=by
 obtain⟨d0,d1,d2,⟨⟩⟩:=d;obtain⟨hw0,hw1,hw2,_⟩:=h;obtain⟨w0a,w0b,w0c,w0d,w0e⟩:=shf_wf hw0;obtain⟨w1a,w1b⟩:=A6o hw1;obtain⟨w2a,w2b⟩:=A6o hw2;refine⟨(),?_⟩;have hT:An2.F (d0,d1,d2,())=An2.T d0.1 d0.2.1 d0.2.2.1 d0.2.2.2 d1 d2:=An2.eq _ _ _ _ _ _;rw[hT,An2.T];obtain⟨r0,e0,k0⟩:=An3.val d0 1048576 (by omega) (by omega) w0a w0b w0c w0d w0e;have e0:An3.F ((d0.1,(d0.2.1,(d0.2.2.1,d0.2.2.2))),1048576,())=_:=e0;rw[e0];simp only[Option.bind_some];rcases k0 with rfl|⟨a0,b0,c0⟩
 . rw[if_pos (by simp)]
 rw[if_neg (by simp;omega)];obtain⟨r1,e1,k1⟩:=Ah2.val d1 r0 a0 (by omega) w1a w1b;rw[e1];simp only[Option.bind_some];rcases k1 with rfl|⟨a1,b1,c1⟩
 . rw[if_pos (by simp)]
 rw[if_neg (by simp;omega)];obtain⟨r2,e2,k2⟩:=Ah2.val d2 r1 a1 (by omega) w2a w2b;rw[e2];simp only[Option.bind_some];rcases k2 with rfl|⟨a2,b2,c2⟩
 . rw[if_pos (by simp)]
 rw[if_neg (by simp;omega)];have t0:Ak0.F ((d0.1,(d0.2.1,(d0.2.2.1,d0.2.2.2))),())=_:=Ak0.val d0 c0;obtain⟨f0,g0,g0'⟩:=Ap7.same d0 d0 c0;obtain rfl:f0=true:=g0'.2 rfl;obtain⟨v0,s0,m0,ma0,mb0⟩:=Ap8.some d0 1 c0 (by omega) (by omega);have t1:=Ad6.val d1 c1;obtain⟨f1,g1,g1'⟩:=Ah0.same d1 d1 c1;obtain rfl:f1=true:=g1'.2 rfl;obtain⟨v1,s1,m1,ma1,mb1⟩:=Ah1.some d1 v0 c1 (by omega) (by omega);have t2:=Ad6.val d2 c2;obtain⟨f2,g2,g2'⟩:=Ah0.same d2 d2 c2;obtain rfl:f2=true:=g2'.2 rfl;obtain⟨v2,s2,m2,ma2,mb2⟩:=Ah1.some d2 v1 c2 (by omega) (by omega);obtain⟨fr,gr,gr'⟩:=Ae2.same (A2N d0 d1 d2).1 (A2N d0 d1 d2).1 (A1t d0 d1 d2);obtain rfl:fr=true:=gr'.2 rfl;obtain⟨ys,v,n1,n2,n3⟩:=A4Y (A2N d0 d1 d2).1 (by have:=(A1t d0 d1 d2).1;omega) (by have:=A5g (A1t d0 d1 d2);omega);have q1:¬ v2<0:=by omega
 have q2:¬ v<0:=by omega
 simp[t0,g0,m0,t1,g1,m1,t2,g2,m2,Af5.val d0 d1 d2 c0 c1 c2,Ae8.val d0 d1 d2 c0 c1 c2,gr,n1,n2,q1,q2]
end Go.Proofs.YthiiohhfalmgdaaGreat
