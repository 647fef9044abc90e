/- What the functions answer. -/
import Derived.Test.YtpdlhcgmejadnaaGreatSplitSectionP1
open Option renaming bind_some->za,toList_some->zW
open Int renaming toNat_natCast->zc,mul_emod->zH,pow_succ->zI,emod_eq_of_lt->zM,pow_zero->zO,toNat_of_nonneg->zU,toNat_zero->zX,one_mul->ye,emod_emod->yi,zero_add->yl
open List renaming range->zd,getD_eq_getElem?_getD->ze,replicate->zf,length_append->zg,length_replicate->zh,length_cons->zk,mem_range->zl,mem_map->zm,length_nil->zn,length_map->zo,length_range->zq,length_drop->zr,take_of_length_le->zt,getD_cons_zero->zu,range_succ->zv,mem_append->zw,ext_getElem->zx,getElem?_set->zy,map_append->zz,length_set->zA,flatten_cons->zB,map_congr_left->zC,append_assoc->zD,getElem?_eq_getElem->zE,mem_flatMap->zF,getElem?_replicate->zG,mem_replicate->zK,getElem?_append_right->zQ,flatMap_append->zR,getD_cons_succ->zS,mem_or_eq_of_mem_set->zT,take_add_one->zY,length_filter_le->z0,take_length->z3,length_take->z4,append_nil->z5,set_set->z6,getElem_of_mem->z7,getElem_range->z9,foldl_append->ya,getElem?_append_left->yb,getElem_map->yc,mem_filter->yd,length_singleton->yf,set_getElem_self->yg,mem_singleton->yj,map_map->yp,flatMap_def->yr,nil_append->yt,foldl_cons->yu,sum_append->yv,foldl_nil->yw,mem_cons->yx
open Go.IntKind renaming i64->zi
open Nat renaming zero_le->zj,le_refl->zp,add_mul->zL,mul_le_mul->zN,mul_le_mul_right->zP,succ_eq_add_one->zV,one_mul->zZ,lt_or_gt_of_ne->z8,le_of_lt->yk,le_trans->ym,sub_self->yn,add_comm->yo,le_add_right->yq
open Bool renaming false_eq_true->zJ
open Prod.mk renaming injEq->yh
namespace Go.Proofs.YtpdlhcgmejadnaaGreat
open Go Go.Vm
set_option linter.unusedVariables false
set_option linter.unusedSimpArgs false
theorem Ab1.val (s:ShfV) (ho:A0j s) (k:Int) (hk:-1≤k/\k≤10):Ab1.F (s,k,())=some ((cobM s k,()),()):=by
 have hcl:=ho.1.1;have hp:=ho.2.1.1;obtain⟨c1,c2⟩:=A0A ho k;obtain⟨d1,d2⟩:=A0A ho (k+1);obtain⟨W,hW⟩:∃ W,(A0v s k).toNat=W:=⟨_,rfl⟩;obtain⟨H,hH⟩:∃ H,(A0v s (k+1)).toNat=H:=⟨_,rfl⟩;have eW:A0v s k=(W:Int):=by omega
 have eH:A0v s (k+1)=(H:Int):=by omega
 obtain⟨hs,ehs⟩:∃ hs,A0w s.1 (k+1) s.1.length=hs:=⟨_,rfl⟩;have hsl:hs.length≤48:=by rw[<-ehs];have:=A0M s.1 (k+1) s.1.length;omega
 have hsat:∀ m,m<hs.length->∃ j:Nat,hs.getD m 0=(j:Int)/\j<s.1.length/\((s.1.getD j []).length:Int)=k+2:=fun m hm=>by
   rw[<-ehs]at hm ⊢;obtain⟨j,a,b,c⟩:=A3G hm;exact⟨j,a,b,by omega⟩
 have hT:∀ r,Ev (fun n=>Ab1.T n s.1 s.2.1 s.2.2.1 s.2.2.2 k) r->Ab1.F (s,k,())=some r:=fun r hr=>Ab1.of _ _ _ _ _ hr;have w1:zi.wrap (k+1)=k+1:=A0q (by omega) (by omega);have g1:Aa4.F ((s.1,(s.2.1,(s.2.2.1,s.2.2.2))),k+1,())=_:=Aa4.val' s ho (k+1) (by omega);have g2:Aa4.F ((s.1,(s.2.1,(s.2.2.1,s.2.2.2))),k,())=_:=Aa4.val' s ho k (by omega);have g3:=Ae5.val s.1 (k+1) (by omega) (by omega);rw[ehs]at g3;have hM:cobM s k=(s.2.1,(H:Int),(W:Int),wr (cobW s k) (zf (H*W) 0)):=by rw[cobM,eH,eW];simp only[zc]
 rw[hM];refine hT _ (Ev.of_eq (N:=fun n=>Ab1.l3 n k (hs.length:Int) ((0:Nat):Int) s.1 s.2.1 s.2.2.1 s.2.2.2 0 0 0 [] s.2.1 (H:Int) (W:Int) (zf (H*W) 0) hs) ?_ fun n=>?_)
 . by_cases hneg:k<0
   . have:cobW s k=[]:=by rw[cobW,if_pos hneg]
     rw[this];refine(Ev.const _).succ fun n=>?_;rw[Ab1.l3_eq];by_cases h0:0<hs.length
     . rw[if_pos (ltI.2 h0),if_pos (idxI.2 h0),if_pos (by simp only[decide_eq_true_eq];exact hneg)];rfl
     . rw[if_neg (by simp only[decide_eq_true_eq];omega)];rfl
   . have:cobW s k=(zd hs.length).flatMap fun n=>A3t s W (hs.getD n 0).toNat:=by rw[cobW,if_neg hneg,ehs,hW]
     rw[this];have main:=Goes.writes (R:=((MatV×Unit)×Unit)) (fun n m x=>Ab1.l3 n k (hs.length:Int) (m:Int) s.1 s.2.1 s.2.2.1 s.2.2.2 0 0 0 [] s.2.1 (H:Int) (W:Int) x hs) hs.length (H*W) (fun n=>A3t s W (hs.getD n 0).toNat) (fun m x hm hx=>by
       obtain⟨h,e1,e2,e3⟩:=hsat m hm;have f4:(fcs s.1 h).length≤4:=by have:=A1R ho.1 e2;simp only[fcs,zo];exact this
       have E3 := fun n=>Ab1.l3_eq n k (hs.length:Int) (m:Int) s.1 s.2.1 s.2.2.1 s.2.2.2 0 0 0 [] s.2.1 (H:Int) (W:Int) x hs;simp only[if_pos (ltI.2 hm),if_pos (idxI.2 hm),if_neg (show ¬ decide (k<0)=true by simp only[decide_eq_true_eq];exact hneg),zc,e1,Ab7.val s.1 ho.1 h e2,za]at E3;refine(Goes.succ E3).trans ?_;rw[e1,zc];refine(Goes.writes (R:=((MatV×Unit)×Unit)) (fun n i x=>Ab1.l7 n k (h:Int) (hs.length:Int) (m:Int) ((fcs s.1 h).length:Int) (i:Int) s.1 s.2.1 s.2.2.1 s.2.2.2 0 0 0 [] s.2.1 (H:Int) (W:Int) x hs (fcs s.1 h)) (fcs s.1 h).length (H*W) (A3u s W h) (fun i x hi hx=>by
         obtain⟨f,R,C,T,L,B⟩:=blk ho e2 e3 hi;rw[hW,hH]at B;have q1:Ac2.F ((s.1,(s.2.1,(s.2.2.1,s.2.2.2))),(h:Int),(i:Int),())=_:=Ac2.val s ho h i e2 hi;have q2:Ac6.F ((s.1,(s.2.1,(s.2.2.1,s.2.2.2))),(h:Int),())=_:=Ac6.val s ho h e2;have q3:Ac6.F ((s.1,(s.2.1,(s.2.2.1,s.2.2.2))),(f:Int),())=_:=Ac6.val s ho f B.flt;rw[B.top]at q2;rw[B.left]at q3;have E7:=fun n=>Ab1.l7_eq n k (h:Int) (hs.length:Int) (m:Int) ((fcs s.1 h).length:Int) (i:Int) s.1 s.2.1 s.2.2.1 s.2.2.2 0 0 0 [] s.2.1 (H:Int) (W:Int) x hs (fcs s.1 h);simp only[if_pos (ltI.2 hi),if_pos (idxI.2 hi),zc,B.at_,q1,q2,q3,za,B.rows,B.cols,B.prime]at E7;refine(Goes.succ E7).trans ?_;have ew:A3u s W h i=(zd R).flatMap (A3k s W h i):=by rw[A3u,B.rows,zc]
         rw[ew];refine(Goes.writes (R:=((MatV×Unit)×Unit)) (fun n a x=>Ab1.l12 n k (h:Int) (i:Int) (T:Int) (L:Int) (hs.length:Int) (m:Int) ((fcs s.1 h).length:Int) (i:Int) (R:Int) (a:Int) s.1 s.2.1 s.2.2.1 s.2.2.2 0 0 0 [] s.2.1 (H:Int) (W:Int) x s.2.1 (R:Int) (C:Int) (A0k s h i).2.2.2 hs (fcs s.1 h)) R (H*W) (A3k s W h i) (fun a x ha hx=>by
           refine(Goes.succ fun n=>by rw[Ab1.l12_eq,if_pos (ltI.2 ha)]).trans ?_;have ew3:A3k s W h i a=(zd C).flatMap fun b=>[((T+a)*W+L+b,((A0k s h i).2.2.2.getD (a*C+b) 0*sgn s.2.1 i)%s.2.1)]:=by
             rw[A3k,B.cols,B.top,B.fc_,B.left];simp only[zc];exact A2F _ _
           rw[ew3];refine(Goes.writes (R:=((MatV×Unit)×Unit)) (fun n b x=>Ab1.l15 n k (h:Int) (i:Int) (T:Int) (L:Int) (a:Int) (hs.length:Int) (m:Int) ((fcs s.1 h).length:Int) (i:Int) (R:Int) (a:Int) (C:Int) (b:Int) s.1 s.2.1 s.2.2.1 s.2.2.2 0 0 0 [] s.2.1 (H:Int) (W:Int) x s.2.1 (R:Int) (C:Int) (A0k s h i).2.2.2 hs (fcs s.1 h)) C (H*W) (fun b=>[((T+a)*W+L+b,((A0k s h i).2.2.2.getD (a*C+b) 0*sgn s.2.1 i)%s.2.1)]) (fun b x hb hx=>Goes.succ fun n=>by
             obtain⟨p1,p2⟩:=cobPos B.bT B.bL B.bH B.bW ha hb;have bT:=B.bT;have bL:=B.bL;have bH:=B.bH;have bW:=B.bW;obtain⟨e5,e6⟩:=A1I (show R≤32 by omega) (show C≤32 by omega) ha hb;have hce:=B.cells;have hel:=A1f hp (A0B B.el (show a*C+b<(A0k s h i).2.2.2.length by omega)) (sgn_bd hp i);have hat:Aj6.F ((s.2.1,((R:Int),((C:Int),(A0k s h i).2.2.2))),(a:Int),(b:Int),())=some (((A0k s h i).2.2.2.getD (a*C+b) 0,()),()):=by
               rw[Aj6.eq,Aj6.T,e5,if_pos (by omega)];rfl
             rw[Ab1.l15_eq,if_pos (ltI.2 hb),hat];simp only[za,Ap0.val i s.2.1 hp,p1];rw[if_neg (by omega),if_pos (by omega),A0x (by omega)];simp only[zc];rw[A0q (x:=(A0k s h i).2.2.2.getD (a*C+b) 0*sgn s.2.1 i) (by omega) (by omega),A2J (by omega)];rfl) x hx).trans (Goes.succ fun n=>by
               have bT:=B.bT;have bH:=B.bH;rw[Ab1.l15_eq,if_neg (by simp),A0x (by omega)])) x hx).trans (Goes.succ fun n=>by rw[Ab1.l12_eq,if_neg (by simp),A0x (by omega)])) x hx).trans (Goes.succ fun n=>by rw[Ab1.l7_eq,if_neg (by simp),A0x (by omega)];rfl)) (zf (H*W) 0) (by simp)
     refine main _ ((Ev.const _).succ fun n=>?_);rw[Ab1.l3_eq,if_neg (by simp)]
 . rw[Ab1.T,w1,g1,g2,eH,eW];simp only[za];rw[Aq0.val s.2.1 H W (by omega) (by omega),g3];rfl
def A0d (acc:Int) (ws:List (Nat×Int)) (i:Nat):Int:=ws.foldl (fun acc w=>if w.1=i then w.2 else acc) acc
theorem A2m (ws:List (Nat×Int)):∀ (x:List Int) (i:Nat),i<x.length->(wr ws x).getD i 0=A0d (x.getD i 0) ws i:=by
 induction ws with
 | nil=>intro x i _;rfl
 | cons w ws ih =>
   intro x i hi;show(wr ws (x.set w.1 w.2)).getD i 0=A0d (if w.1=i then w.2 else x.getD i 0) ws i;rw[ih _ _ (by simpa using hi)];congr 1;simp only[ze,zy];by_cases h:w.1=i
   . subst h;simp[hi]
   . simp[h]
theorem A0g (acc:Int) (ws vs:List (Nat×Int)) (i:Nat):A0d acc (ws++vs) i=A0d (A0d acc ws i) vs i:=by simp[A0d,ya]
theorem A0e {ws:List (Nat×Int)} {i:Nat} (h:∀ w∈ws,w.1≠i) (acc:Int):A0d acc ws i=acc:=by
 induction ws generalizing acc with
 | nil=>rfl
 | cons w ws ih =>
   show A0d (if w.1=i then w.2 else acc) ws i=acc;rw[if_neg (h w (by simp)),ih fun w hw=>h w (by simp[hw])]
theorem A3Y {ws:List (Nat×Int)} {i:Nat} (h:∃ w∈ws,w.1=i):∃ w∈ws,w.1=i/\∀ acc,A0d acc ws i=w.2:=by
 induction ws with
 | nil=>obtain⟨w,hw,_⟩:=h;cases hw
 | cons w ws ih =>
   by_cases h2:∃ w∈ws,w.1=i
   . obtain⟨v,h3,h4,h5⟩:=ih h2;exact⟨v,by simp[h3],h4,fun acc=>h5 _⟩
   . have hn:∀ v∈ws,v.1≠i:=fun v hv e=>h2 ⟨v,hv,e⟩;obtain⟨v,hv,he⟩:=h;simp only[yx]at hv;rcases hv with rfl|hv
     . refine⟨v,by simp,he,fun acc=>?_⟩;show A0d (if v.1=i then v.2 else acc) ws i=v.2;rw[if_pos he,A0e hn]
     . exact absurd he (hn v hv)
theorem A0F {α:Type} (f:Nat->List α) (n:Nat):(zd (n+1)).flatMap f=(zd n).flatMap f++f n:=by
 rw[zv,zR];simp
theorem A3Z {f:Nat->List (Nat×Int)} {x0 i:Nat}:∀ (n:Nat),x0<n->(∀ x,x<n->x≠x0->∀ w∈f x,w.1≠i)->∀ acc,A0d acc ((zd n).flatMap f) i=A0d acc (f x0) i:=by
 intro n;induction n with
 | zero=>intro h;omega
 | succ n ih =>
   intro h0 hne acc;rw[A0F,A0g];by_cases hx:x0=n
   . subst hx;rw[A0e (ws:=(zd x0).flatMap f) fun w hw=>by
       simp only[zF,zl]at hw;obtain⟨x,hx,hw⟩:=hw;exact hne x (by omega) (by omega) w hw]
   . rw[ih (by omega) (fun x hx=>hne x (by omega)) acc,A0e (hne n (by omega) fun e=>hx e.symm)]
theorem A4j {f g:Nat->List (Nat×Int)} {i j:Nat}:∀ (n:Nat),(∀ x,x<n->∀ acc,A0d acc (f x) i=A0d acc (g x) j)->∀ acc,A0d acc ((zd n).flatMap f) i=A0d acc ((zd n).flatMap g) j:=by
 intro n;induction n with
 | zero=>intro _ acc;rfl
 | succ n ih=>intro h acc;rw[A0F,A0F,A0g,A0g,ih (fun x hx=>h x (by omega)),h n (by omega)]
theorem A4q (o:Nat) {l:List Nat} (p:Nat->Nat) (v:Nat->Int) (i:Nat):∀ acc,A0d acc (l.map fun b=>(o+p b,v b)) (o+i)=A0d acc (l.map fun b=>(p b,v b)) i:=by
 induction l with
 | nil=>intro acc;rfl
 | cons b l ih =>
   intro acc;show A0d (if o+p b=o+i then v b else acc) _ _=A0d (if p b=i then v b else acc) _ _;rw[ih];by_cases h:p b=i
   . rw[if_pos h,if_pos (by omega)]
   . rw[if_neg h,if_neg (by omega)]
def cobR (s:ShfV) (h i a:Nat):List (Nat×Int):=(zd (A0k s h i).2.2.1.toNat).map fun b=>((A0T s (fc s.1 h i)).toNat+b,((A0k s h i).2.2.2.getD (a*(A0k s h i).2.2.1.toNat+b) 0*sgn s.2.1 i)%s.2.1)
def rowC (s:ShfV) (W h a:Nat):List Int:=wr ((zd (fcs s.1 h).length).flatMap fun i=>cobR s h i a) (zf W 0)
theorem A5r {W r r' c c':Nat} (hc:c<W) (hc':c'<W) (h:r≠r'):r*W+c≠r'*W+c':=by
 intro e;rcases z8 h with h|h
 . have:=zP W (show r+1≤r' by omega);rw[zL,zZ]at this;omega
 . have:=zP W (show r'+1≤r by omega);rw[zL,zZ]at this;omega
theorem A2N {s:ShfV} (ho:A0j s) {h h':Nat} (hlt:h<h') (hh:h'<s.1.length) (hd:(s.1.getD h []).length=(s.1.getD h' []).length):A0T s h+s.2.2.1.getD h 0≤A0T s h':=by
 have hsl:=ho.2.2.1.1;have:=A2f (c:=s.1) (d:=((s.1.getD h' []).length:Int)-1) ho.2.2.1.2.1 (show h+1≤h' by omega) (by omega);simp only[psum]at this;rw[if_pos (by omega)]at this;unfold A0T;rw[hd];exact this
theorem A1X {s:ShfV} (h:A0j s) {k:Nat} (hk:k<s.1.length):((s.2.2.1.getD k 0).toNat:Int)=s.2.2.1.getD k 0/\(s.2.2.1.getD k 0).toNat≤3:=by
 have:=A0B h.2.2.1.2.1 (i:=k) (by rw[h.2.2.1.1];exact hk);omega
theorem A4z {s:ShfV} (ho:A0j s) {k:Int} (hk:0≤k) {n h:Nat} (hn:n<(A0w s.1 (k+1) s.1.length).length) (hh:(A0w s.1 (k+1) s.1.length).getD n 0=(h:Int)) {a:Nat} (ha:a<(s.2.2.1.getD h 0).toNat) :
   rowL (cobM s k).2.2.2 (A0v s k).toNat ((A0T s h).toNat+a)=rowC s (A0v s k).toNat h a:=by
 obtain⟨D,hD⟩:∃ D,A0w s.1 (k+1) s.1.length=D:=⟨_,rfl⟩;obtain⟨W,hW⟩:∃ W,(A0v s k).toNat=W:=⟨_,rfl⟩;obtain⟨H,hH⟩:∃ H,(A0v s (k+1)).toNat=H:=⟨_,rfl⟩;have hat:∀ m,m<D.length->∃ j:Nat,D.getD m 0=(j:Int)/\j<s.1.length/\((s.1.getD j []).length:Int)=k+2:=fun m hm=>by
   rw[<-hD]at hm ⊢;obtain⟨j,q1,q2,q3⟩:=A3G hm;exact⟨j,q1,q2,by omega⟩
 have hinj:∀ m m',m<m'->m'<D.length->∀ j j':Nat,D.getD m 0=(j:Int)->D.getD m' 0=(j':Int)->j<j':=fun m m' hlt hm' j j' e e'=>by
   have hp:(A0w s.1 (k+1) s.1.length).Pairwise (·<·):=by
     unfold A0w;rw[List.pairwise_map];refine List.Pairwise.imp (fun h=>by omega) ((List.pairwise_lt_range (n:=s.1.length)).filter _)
   rw[hD]at hp;have:=List.pairwise_iff_getElem.1 hp m m' (by omega) hm' hlt;rw[<-A0y (d:=0),<-A0y (d:=0),e,e']at this;omega
 rw[hD]at hn hh;obtain⟨j0,e0,hhl,hdim⟩:=hat n hn;obtain rfl:j0=h:=by rw[hh]at e0;omega
 have hst:=A1X ho hhl;obtain⟨T0,T1⟩:=A1C ho hhl;rw[show((s.1.getD j0 []).length:Int)-1=k+1 by omega]at T1;have hrl:(A0T s j0).toNat+a<H:=by omega
 obtain⟨c1,c2⟩:=A0A ho k;have hlen:(cobM s k).2.2.2.length=H*W:=by
   show(wr _ _).length=_;rw[A0c,zh,hW,hH]
 rw[hW];refine zx ?_ fun c hc1 hc2=>?_
 . rw[A0P hlen hrl,rowC,A0c,zh]
 . have hcW:c<W:=by rw[A0P hlen hrl]at hc1;exact hc1
   rw[<-A0y (d:=0) hc1,<-A0y (d:=0) hc2,A1A hcW,rowC,A2m _ _ _ (by simpa using hcW)];have hidx:((A0T s j0).toNat+a)*W+c<H*W:=A4B hrl hcW;have e1:(cobM s k).2.2.2=wr (cobW s k) (zf (H*W) 0):=by rw[cobM,hW,hH]
   rw[e1,A2m _ _ _ (by simpa using hidx)];have z1:(zf (H*W) (0:Int)).getD (((A0T s j0).toNat+a)*W+c) 0=0:=by simp[ze,zG,hidx]
   have z2:(zf W (0:Int)).getD c 0=0:=by simp[ze,zG,hcW]
   rw[z1,z2];have e2:cobW s k=(zd D.length).flatMap fun n=>A3t s W (D.getD n 0).toNat:=by rw[cobW,if_neg (by omega),hD,hW]
   rw[e2];have wloc:∀ h',h'<s.1.length->((s.1.getD h' []).length:Int)=k+2->∀ i,i<(fcs s.1 h').length->∀ a' w,w∈A3k s W h' i a'->∃ c',c'<W/\w.1=((A0T s h').toNat+a')*W+c':=fun h' hh' hd' i hi a' w hw=>by
     obtain⟨f,R,C,T,L,B⟩:=blk ho hh' hd' hi;rw[hW]at B;simp only[A3k,zm,zl]at hw;obtain⟨b,hb,rfl⟩:=hw;rw[B.cols,zc]at hb;have:=B.bL;refine⟨(A0T s (fc s.1 h' i)).toNat+b,by rw[B.fc_,B.left,zc];omega,by simp only[];omega⟩
   rw[A3Z D.length hn fun m hm hne w hw=>?_]
   . rw[hh,zc];unfold A3t;refine A4j _ (fun i hi acc=>?_) 0;obtain⟨f,R,C,T,L,B⟩:=blk ho hhl hdim hi;have haR:a<(A0k s j0 i).2.1.toNat:=by
       have:=(A0i ho hhl hi).2.2.1;rw[this];exact ha
     unfold A3u;rw[A3Z _ haR fun a' _ hne w hw=>by
       obtain⟨c',h1,h2⟩:=wloc j0 hhl hdim i hi a' w hw;rw[h2];exact A5r h1 hcW (by omega)]
     unfold A3k cobR;have:=A4q (((A0T s j0).toNat+a)*W) (l:=zd (A0k s j0 i).2.2.1.toNat) (fun b=>(A0T s (fc s.1 j0 i)).toNat+b) (fun b=>((A0k s j0 i).2.2.2.getD (a*(A0k s j0 i).2.2.1.toNat+b) 0*sgn s.2.1 i)%s.2.1) c acc;rw[<-this];congr 1;refine zC fun b _=>?_;rw[Nat.add_assoc]
   . obtain⟨j,q1,q2,q3⟩:=hat m hm;rw[q1,zc]at hw;simp only[A3t,A3u,zF,zl]at hw;obtain⟨i,hi,a',ha',hw⟩:=hw;obtain⟨c',h1,h2⟩:=wloc j q2 q3 i hi a' w hw;rw[h2];refine A5r h1 hcW fun e=>?_;have hra:(a':Int)<s.2.2.1.getD j 0:=by
       have:=(A0i ho q2 hi).2.2.1;have hs2:=A1X ho q2;omega
     obtain⟨U0,U1⟩:=A1C ho q2;rcases z8 hne with hlt|hlt
     . have:=A2N ho (hinj m n hlt hn j j0 q1 hh) hhl (by omega);omega
     . have:=A2N ho (hinj n m hlt hm j0 j hh q1) q2 (by omega);omega
def addL (p c:Int) (xs ys:List Int):List Int:=(zd xs.length).map fun i=>(xs.getD i 0+c*ys.getD i 0)%p
theorem A0n (p c:Int) (xs ys:List Int):(addL p c xs ys).length=xs.length:=by simp[addL]
theorem A3p {p c:Int} (h:2≤p) (xs ys:List Int):A0I 0 (p-1) (addL p c xs ys):=fun x hx=>by
 simp only[addL,zm]at hx;obtain⟨i,_,rfl⟩:=hx;exact A1a h
theorem A4F {p c a b:Int} (hp:2≤p/\p≤251) (hc:0≤c/\c≤p-1) (ha:0≤a/\a≤p-1) (hb:0≤b/\b≤p-1):(zi.wrap (a+zi.wrap (c*b))).tmod p=(a+c*b)%p:=by
 have:=A1f hp hc hb;rw[A0q (x:=c*b) (by omega) (by omega),A0q (by omega) (by omega),A2J (by omega)]
theorem Ai3.val (xs ys:List Int) (c p:Int) (hp:2≤p/\p≤251) (hc:0≤c/\c≤p-1) (hx:A0I 0 (p-1) xs) (hy:A0I 0 (p-1) ys) (hl:ys.length=xs.length) (hn:xs.length<1048576):Ai3.F (xs,ys,c,p,())=some ((addL p c xs ys,()),()):=by
 refine Ai3.of _ _ _ _ ?_;have g:=Goes.push (R:=((List Int×Unit)×Unit)) (fun k i s=>Ai3.l3 k xs ys c p (xs.length:Int) (i:Int) s) xs.length (fun i=>(xs.getD i 0+c*ys.getD i 0)%p) (fun i s hi hs=>Goes.succ fun k=>by
   rw[Ai3.l3_eq,if_pos (ltI.2 hi),if_pos (idxI.2 hi),if_pos (idxI.2 (by omega)),if_neg (by omega)];simp only[zc,A4F hp hc (A0B hx hi) (A0B hy (i:=i) (by omega))];rw[if_pos (A1D hs (by omega)),A0x (by omega)])
 refine Ev.of_eq (g _ ((Ev.const _).succ fun k=>?_)) fun k=>rfl;rw[Ai3.l3_eq,if_neg (by simp)];rfl
theorem An1.val (xs ys:List Int) (c p:Int) (hp:2≤p/\p≤251) (hc:0≤c/\c≤p-1) (hx:A0I 0 (p-1) xs) (hy:A0I 0 (p-1) ys) (hl:ys.length=xs.length) (hn:xs.length<1048576):An1.F (xs,ys,c,p,())=some ((addL p c xs ys,()),()):=by
 refine An1.of _ _ _ _ ?_;have g:=Goes.push (R:=((List Int×Unit)×Unit)) (fun k i s=>An1.l3 k xs ys c p (i:Int) s) xs.length (fun i=>(xs.getD i 0+c*ys.getD i 0)%p) (fun i s hi hs=>Goes.succ fun k=>by
   rw[An1.l3_eq,if_pos (ltI.2 hi),if_pos (idxI.2 hi),if_pos (idxI.2 (by omega)),if_neg (by omega)];simp only[zc,A4F hp hc (A0B hx hi) (A0B hy (i:=i) (by omega))];rw[if_pos (A1D hs (by omega)),A0x (by omega)])
 refine Ev.of_eq (g _ ((Ev.const _).succ fun k=>?_)) fun k=>rfl;rw[An1.l3_eq,if_neg (by simp)];rfl
def A1d (m:MatV) (v:List Int):List Int:=(zd m.2.1.toNat).map fun i=>sumN (fun k=>m.2.2.2.getD (i*m.2.2.1.toNat+k) 0*v.getD k 0) m.2.2.1.toNat%m.1
theorem A3w (m:MatV) (v:List Int):(A1d m v).length=m.2.1.toNat:=by simp[A1d]
theorem Am1.val (m:MatV) (v:List Int) (hm:MatOk m) (hv:A0I 0 (m.1-1) v) (hl:m.2.2.1=(v.length:Int)):Am1.F (m,v,())=some ((A1d m v,()),()):=by
 obtain⟨R,C,h1,h2,h3,h4,h5,h6,h7⟩:=hm.nat;obtain⟨p,r,c,xs⟩:=m;simp only[]at h1 h2 h5 h6 h7 hl hv;subst h1 h2;have hvl:v.length=C:=by omega
 refine Am1.of _ _ _ _ _ ?_;obtain⟨s,hs,hg⟩:=Goes.loop (R:=((List Int×Unit)×Unit)) (fun k i (x:List Int)=>Am1.l3 k v (R:Int) (i:Int) p (R:Int) (C:Int) xs x) R (fun i x=>x=(zd i).map fun i=>sumN (fun k=>xs.getD (i*C+k) 0*v.getD k 0) C%p) (fun i x hi hx=>⟨_,rfl,Goes.succ fun k=>by
   have l1:=A0P h5 hi;rw[Am1.l3_eq,if_pos (ltI.2 hi),Af1.val p R C xs (by omega) (by omega) h5 i hi];simp only[za];rw[Ag5.val _ _ p h6 (fun x hx=>h7 x (A1o hx)) hv (by omega) (by omega)];simp only[za];have e:sumN (dotE (rowL xs C i) v) (rowL xs C i).length=sumN (fun k=>xs.getD (i*C+k) 0*v.getD k 0) C:=by
     rw[l1];exact A2B fun k hk=>by rw[dotE,A1A hk]
   rw[e,if_pos (by rw[hx];simp only[zo,zq,zk,zn,bigA];omega),A0x (by omega),hx,zv,zz];rfl⟩) 0 [] (zj _) rfl
 refine Ev.of_eq (hg _ ((Ev.const _).succ fun k=>?_)) fun k=>rfl;rw[Am1.l3_eq,if_neg (by simp),hs];simp only[A1d,zc]
theorem An2.val (xs ys:List Int) (p:Int) (hp:2≤p/\p≤251) (hx:A0I 0 (p-1) xs) (hy:A0I 0 (p-1) ys) (hl:xs.length≤ys.length) (hn:xs.length≤1048576) :
   An2.F (xs,ys,p,())=some ((sumN (dotE xs ys) xs.length%p,()),()):=by
 refine An2.of _ _ _ ?_;obtain⟨s,hs,hg⟩:=Goes.loop (R:=((Int×Unit)×Unit)) (fun k i (s:Int)=>An2.l3 k xs ys p s (i:Int)) xs.length (fun i s=>s=sumN (dotE xs ys) i%p) (fun i s hi h2=>⟨_,rfl,Goes.succ fun k=>by
   have hm:=A1f hp (A0B hx hi) (A0B hy (show i<ys.length by omega));have hme:=A1a (a:=sumN (dotE xs ys) i) hp.1;rw[An2.l3_eq,if_pos (ltI.2 hi),if_pos (idxI.2 hi),if_pos (idxI.2 (show i<ys.length by omega)),if_neg (by omega),A0x (by omega),h2];simp only[zc];rw[A0q (x:=xs.getD i 0*ys.getD i 0) (by omega) (by omega),A0q (by omega) (by omega),A2J (by omega),Int.emod_add_emod];rfl⟩) 0 0 (zj _) (by simp[sumN])
 refine Ev.of_eq (hg _ ((Ev.const _).succ fun k=>?_)) fun k=>rfl;rw[An2.l3_eq,if_neg (by simp),hs]
theorem An3.val (xs:List Int) (p:Int) (hp:2≤p/\p≤251) (hn:xs.length≤1048576):∃ v,An3.F (xs,p,())=some ((v,()),())/\(v=true↔xs.length≤64/\A0I 0 (p-1) xs):=by
 obtain⟨v,hv,hv'⟩:=Ev.allP (L:=fun k i=>An3.l2 k xs p (i:Int)) (a:=()) (b:=()) (n:=xs.length) (fun i=>0≤xs.getD i 0/\xs.getD i 0≤p-1) (decide ((xs.length:Int)≤64)) (fun i hi=>by
   have E:=fun k=>An3.l2_eq k xs p (i:Int);simp only[if_pos (ltI.2 hi),if_pos (idxI.2 hi),zc,A0q (x:=p-1) (by omega) (by omega),Aa9.val,za,A0x (show i<4611686018427387904 by omega)]at E;by_cases h:0≤xs.getD i 0/\xs.getD i 0≤p-1
   . exact .inl ⟨h,fun k=>by rw[E,if_neg (by rw[decide_eq_true h];simp)]⟩
   . exact .inr ⟨h,fun k=>by rw[E,if_pos (by rw[decide_eq_false h];rfl)]⟩) ((Ev.const _).succ fun k=>by rw[An3.l2_eq,if_neg (by simp)]) 0 (zj _)
 refine⟨v,An3.of _ _ (hv.of_eq fun k=>rfl),hv'.trans ⟨fun⟨h1,h2⟩=>⟨by simp at h1;omega,allIn_iff.2 fun i hi=>h2 i (zj _) hi⟩,fun⟨h1,h2⟩=>⟨by simp;omega,fun i _ hi=>allIn_iff.1 h2 i hi⟩⟩⟩
theorem Aq9.val (p n:Int) (xs:List Int) (hp:2≤p/\p≤251) (hn:xs.length≤1048576) (h64:n≤64):∃ v,Aq9.F (p,n,xs,())=some ((v,()),())/\(v=true↔(xs.length:Int)=n/\A0I 0 (p-1) xs):=by
 obtain⟨v,hv,hv'⟩:=An3.val xs p hp hn;rw[Aq9.eq,Aq9.T,hv];simp only[za];cases v with
 | true =>
   obtain⟨h1,h2⟩:=hv'.1 rfl;exact⟨_,by rw[if_pos rfl],by simp[h2]⟩
 | false=>exact⟨false,by rw[if_neg (by simp)],by
     simp only[zJ,false_iff];exact fun⟨h1,h2⟩=>absurd (hv'.2 ⟨by omega,h2⟩) (by simp)⟩
theorem A3b {c:List (List Int)} (h:CplxOk c) {j f:Nat} (hj:j≤f) (hf:f<c.length) (h1:(c.getD f []).length=1):(c.getD j []).length=1:=by
 rcases Nat.lt_or_ge j f with hlt|hge
 . have h2:=h.sorted j f hlt hf;have h3:=(h.2 j (by omega)).1.1.1;unfold cmpS at h2;rcases A0G (c.getD j []).length (c.getD f []).length with⟨g,e⟩|⟨g,e⟩|⟨g,e⟩
   . omega
   . omega
   . rw[e,if_pos (by omega)]at h2;omega
 . have:j=f:=by omega
   rw[this];exact h1
theorem Ag3.val (s:ShfV) (h:A0j s) (f:Nat) (hf:f<s.1.length) (h1:(s.1.getD f []).length=1):Ag3.F (s,(f:Int),())=some ((A0T s f,()),()):=by
 have hT:∀ r,Ev (fun n=>Ag3.T n s.1 s.2.1 s.2.2.1 s.2.2.2 (f:Int)) r->Ag3.F (s,(f:Int),())=some r:=fun r hr=>Ag3.of _ _ _ _ _ hr;have hcl:=h.1.1;have hsl:=h.2.2.1.1;have ha:=h.2.2.1.2.1;obtain⟨x,hx,hg⟩:=Goes.loop (R:=((Int×Unit)×Unit)) (fun k i (x:Int)=>Ag3.l3 k s.1 s.2.1 s.2.2.1 s.2.2.2 (f:Int) x (i:Int)) f (fun i x=>x=psum s.1 s.2.2.1 0 i) (fun i x hi h2=>⟨_,rfl,Goes.succ fun k=>by
   have b:=A2j (c:=s.1) (d:=0) ha i (by omega);have g:=A0B ha (show i<s.2.2.1.length by omega);have hl:=A3b h.1 (yk hi) hf h1;rw[Ag3.l3_eq,if_pos (ltI.2 hi),if_pos (by omega)];simp only[zc,psum];rw[A0x (by omega),h2,A0q (by omega) (by omega),if_pos (by omega)]⟩) 0 0 (zj _) rfl
 refine hT _ ((hg _ ((Ev.const _).succ fun k=>?_)).of_eq fun k=>rfl);rw[Ag3.l3_eq,if_neg (by simp),hx,A0T,h1];rfl
def rowW (m:MatV) (L W:Nat) (t:Int) (a:Nat):List Int:=wr ((zd m.2.2.1.toNat).map fun b=>(L+b,(m.2.2.2.getD (a*m.2.2.1.toNat+b) 0*t)%m.1)) (zf W 0)
theorem A0o (m:MatV) (L W:Nat) (t:Int) (a:Nat):(rowW m L W t a).length=W:=by rw[rowW,A0c,zh]
theorem A5B {m:MatV} (hp:2≤m.1) (L W:Nat) (t:Int) (a:Nat):A0I 0 (m.1-1) (rowW m L W t a):=by
 refine A5u (P:=fun a=>0≤a/\a≤m.1-1) _ _ (fun w hw=>?_) fun a ha=>?_
 . simp only[zm]at hw;obtain⟨b,_,rfl⟩:=hw;exact A1a hp
 . have:=(zK.1 ha).2;omega
theorem Af9.val (m:MatV) (hm:MatOk m) (L W:Nat) (t:Int) (ht:0≤t/\t≤m.1-1) (hL:(L:Int)+m.2.2.1≤(W:Int)) (hW:W≤32):Af9.F (m,(L:Int),(W:Int),t,())=some (((zd m.2.1.toNat).map (rowW m L W t),()),()):=by
 obtain⟨R,C,e1,e2,hR,hC,hl,hp,hin⟩:=hm.nat;obtain⟨p,r,c,xs⟩:=m;simp only[]at e1 e2 hl hp hin hL ht;subst e1 e2;refine Af9.of _ _ _ _ _ _ _ ?_;have g:=Goes.push (R:=((List (List Int)×Unit)×Unit)) (fun k a s=>Af9.l3 k p (R:Int) (C:Int) xs (L:Int) (W:Int) t (a:Int) s) R (rowW (p,(R:Int),(C:Int),xs) L W t) (fun a s ha hs=>by
   have g0:Goes (fun k=>Af9.l3 k p (R:Int) (C:Int) xs (L:Int) (W:Int) t (a:Int) s) (fun k=>Af9.l7 k p (R:Int) (C:Int) xs (L:Int) (W:Int) t (a:Int) ((0:Nat):Int) s (zf W 0)):=Goes.succ fun k=>by
     rw[Af9.l3_eq,if_pos (ltI.2 ha),if_pos (by simp only[bigN];omega),zc];rfl
   have g1:=Goes.writes (R:=((List (List Int)×Unit)×Unit)) (fun k b x=>Af9.l7 k p (R:Int) (C:Int) xs (L:Int) (W:Int) t (a:Int) (b:Int) s x) C W (fun b=>[(L+b,(xs.getD (a*C+b) 0*t)%p)]) (fun b x hb hx=>Goes.succ fun k=>by
     have hrc:=A4B ha hb;have h2:R*C≤32*32:=zN hR hC;have e:(a:Int)*(C:Int)=((a*C:Nat):Int):=by simp
     have hm:=A1f hp (A0B hin (show a*C+b<xs.length by omega)) ht;rw[Af9.l7_eq,if_pos (ltI.2 hb),e,A0q (x:=((a*C:Nat):Int)) (by omega) (by omega),A0q (x:=((a*C:Nat):Int)+(b:Int)) (by omega) (by omega),show((a*C:Nat):Int)+(b:Int)=((a*C+b:Nat):Int)by omega,if_pos (by omega),if_neg (by omega),A0q (x:=(L:Int)+(b:Int)) (by omega) (by omega),show(L:Int)+(b:Int)=((L+b:Nat):Int)by omega,if_pos (by omega)];simp only[zc];rw[A0q (x:=xs.getD (a*C+b) 0*t) (by omega) (by omega),A2J (by omega),A0x (by omega)];rfl) (zf W 0) (by simp)
   rw[<-A2F]at g1;refine g0.trans (g1.trans (Goes.succ fun k=>?_));rw[Af9.l7_eq,if_neg (by simp),if_pos (A1D hs (by omega)),A0x (by omega)];simp only[rowW,zc])
 refine Ev.of_eq (g _ ((Ev.const _).succ fun k=>?_)) fun k=>rfl;rw[Af9.l3_eq,if_neg (by simp)];rfl
theorem Al6.val (A B:List (List Int)) (p:Int) (W:Nat) (hp:2≤p/\p≤251) (hl:B.length=A.length) (hn:A.length≤1000) (hW:W≤1000) (hA:∀ x∈A,x.length=W/\A0I 0 (p-1) x) (hB:∀ x∈B,x.length=W/\A0I 0 (p-1) x) :
   Al6.F (A,B,p,())=some (((zd A.length).map fun i=>addL p 1 (A.getD i []) (B.getD i []),()),()):=by
 refine Al6.of _ _ _ ?_;have g:=Goes.push (R:=((List (List Int)×Unit)×Unit)) (fun k i s=>Al6.l3 k A B p (i:Int) s) A.length (fun i=>addL p 1 (A.getD i []) (B.getD i [])) (fun i s hi hs=>Goes.succ fun k=>by
   obtain⟨a1,a2⟩:=hA _ (A0z [] hi);obtain⟨b1,b2⟩:=hB _ (A0z [] (show i<B.length by omega));rw[Al6.l3_eq,if_pos (ltI.2 hi),if_pos (idxI.2 hi),if_pos (idxI.2 (by omega))];simp only[zc,An1.val _ _ 1 p hp (by omega) a2 b2 (by omega) (by omega),za];rw[if_pos (A1D hs (by omega)),A0x (by omega)])
 refine Ev.of_eq (g _ ((Ev.const _).succ fun k=>?_)) fun k=>rfl;rw[Al6.l3_eq,if_neg (by simp)]
structure EdgeAt (s:ShfV) (e f0 f1 R C0 C1 W H T L0 L1:Nat):Prop where
 lt:e<s.1.length
 two:(fcs s.1 e).length=2
 b0:Blk s 0 e 0 f0 R C0 W H T L0
 b1:Blk s 0 e 1 f1 R C1 W H T L1
 o0:(s.1.getD f0 []).length=1
 o1:(s.1.getD f1 []).length=1
 st:s.2.2.1.getD e 0=(R:Int)
 ap:L0+C0≤L1∨L1+C1≤L0
theorem edgeAt {s:ShfV} (ho:A0j s) {e:Nat} (he:e<s.1.length) (hd:((s.1.getD e []).length:Int)=2):∃ f0 f1 R C0 C1 T L0 L1,EdgeAt s e f0 f1 R C0 C1 (A0v s 0).toNat (A0v s 1).toNat T L0 L1:=by
 have h2:(fcs s.1 e).length=2:=by rw[A0R,if_pos (by omega)];omega
 obtain⟨f0,R,C0,T,L0,b0⟩:=blk ho (k:=0) he (by omega) (i:=0) (by omega);obtain⟨f1,R',C1,T',L1,b1⟩:=blk ho (k:=0) he (by omega) (i:=1) (by omega);obtain⟨g0,q1,q2,q3,q4,q5⟩:=A3C ho.1 he (i:=0) (by omega);obtain⟨g1,r1,r2,r3,r4,r5⟩:=A3C ho.1 he (i:=1) (by omega);have eg0:g0=f0:=by have:=b0.at_;rw[q1]at this;omega
 have eg1:g1=f1:=by have:=b1.at_;rw[r1]at this;omega
 subst eg0 eg1;have hT:T=T':=by have:=b0.top;have:=b1.top;omega
 have m0:=(A0i ho he (i:=e) (j:=0) (by omega));have m1:=(A0i ho he (i:=e) (j:=1) (by omega));have hR:R=R':=by have:=b0.rows;have:=b1.rows;have:=m0.2.2.1;have:=m1.2.2.1;omega
 subst hT hR;have o0:(s.1.getD g0 []).length=1:=by rw[q3,A0O q4];omega
 have o1:(s.1.getD g1 []).length=1:=by rw[r3,A0O r4];omega
 have hs0:s.2.2.1.getD g0 0=(C0:Int):=by rw[<-b0.cols,m0.2.2.2,q1];rfl
 have hs1:s.2.2.1.getD g1 0=(C1:Int):=by rw[<-b1.cols,m1.2.2.2,r1];rfl
 have hne:g0≠g1:=fun h=>by
   have e1:A0E (s.1.getD e []) 0=A0E (s.1.getD e []) 1:=by rw[<-q3,<-r3,h]
   have hr:=(ho.1.2 e he).1.2.2 1 (by omega) (by omega);obtain⟨x,y,hxy⟩:∃ x y,s.1.getD e []=[x,y]:=by
     have hl:(s.1.getD e []).length=2:=by omega
     match hx:s.1.getD e [],hl with
     | [x,y],_=>exact⟨x,y,rfl⟩
   rw[hxy]at e1 hr;simp[A0E]at e1 hr;omega
 refine⟨g0,g1,R,C0,C1,T,L0,L1,he,h2,b0,b1,o0,o1,by rw[<-b0.rows,m0.2.2.1],?_⟩;have l0:=b0.left;have l1:=b1.left;rcases z8 hne with h|h
 . have:=A2N ho h b1.flt (by omega);exact .inl (by omega)
 . have:=A2N ho h b0.flt (by omega);exact .inr (by omega)
theorem rowC_eq {s:ShfV} (ho:A0j s) {e f0 f1 R C0 C1 W H T L0 L1:Nat} (E:EdgeAt s e f0 f1 R C0 C1 W H T L0 L1) {a:Nat} (ha:a<R):addL s.2.1 1 (rowW (A0k s e 0) L0 W 1 a) (rowW (A0k s e 1) L1 W (s.2.1-1) a)=rowC s W e a:=by
 have hp:=ho.2.1.1;refine zx ?_ fun c h1 h2=>?_
 . rw[A0n,A0o,rowC,A0c,zh]
 . have hc:c<W:=by rw[A0n,A0o]at h1;exact h1
   have z:(zf W (0:Int)).getD c 0=0:=by simp[ze,zG,hc]
   obtain⟨l0,hl0⟩:∃ l0,((zd (A0k s e 0).2.2.1.toNat).map fun b=>(L0+b,((A0k s e 0).2.2.2.getD (a*(A0k s e 0).2.2.1.toNat+b) 0*1)%s.2.1))=l0:=⟨_,rfl⟩;obtain⟨l1,hl1⟩:∃ l1,((zd (A0k s e 1).2.2.1.toNat).map fun b=>(L1+b,((A0k s e 1).2.2.2.getD (a*(A0k s e 1).2.2.1.toNat+b) 0*(s.2.1-1))%s.2.1))=l1:=⟨_,rfl⟩;have r0:(rowW (A0k s e 0) L0 W 1 a).getD c 0=A0d 0 l0 c:=by rw[rowW,A2m _ _ _ (by simpa using hc),z,E.b0.prime,hl0]
   have r1:(rowW (A0k s e 1) L1 W (s.2.1-1) a).getD c 0=A0d 0 l1 c:=by rw[rowW,A2m _ _ _ (by simpa using hc),z,E.b1.prime,hl1]
   have rc:(rowC s W e a).getD c 0=A0d (A0d 0 l0 c) l1 c:=by
     rw[rowC,A2m _ _ _ (by simpa using hc),z,E.two];have e0:cobR s e 0 a=l0:=by
       rw[<-hl0,cobR,E.b0.fc_,E.b0.left,zc];rfl
     have e1:cobR s e 1 a=l1:=by
       rw[<-hl1,cobR,E.b1.fc_,E.b1.left,zc];rfl
     show A0d 0 ((zd 2).flatMap _) c=_;rw[A0F,A0F,A0g,A0g,e0,e1];rfl
   have rng0:∀ w∈l0,L0≤w.1/\w.1<L0+C0/\0≤w.2/\w.2≤s.2.1-1:=fun w hw=>by
     rw[<-hl0,E.b0.cols,zc]at hw;simp only[zm,zl]at hw;obtain⟨b,hb,rfl⟩:=hw;exact⟨by simp only[];omega,by simp only[];omega,A1a hp.1⟩
   have rng1:∀ w∈l1,L1≤w.1/\w.1<L1+C1/\0≤w.2/\w.2≤s.2.1-1:=fun w hw=>by
     rw[<-hl1,E.b1.cols,zc]at hw;simp only[zm,zl]at hw;obtain⟨b,hb,rfl⟩:=hw;exact⟨by simp only[];omega,by simp only[];omega,A1a hp.1⟩
   have hlow:0≤A0d 0 l0 c/\A0d 0 l0 c≤s.2.1-1:=by
     by_cases h:∃ w∈l0,w.1=c
     . obtain⟨w,hw,_,h3⟩:=A3Y h;rw[h3];exact(rng0 w hw).2.2
     . rw[A0e fun w hw e=>h ⟨w,hw,e⟩];omega
   rw[<-A0y (d:=0) h1,<-A0y (d:=0) h2,rc,addL,A0H _ _ (by rw[A0o];exact hc),r0,r1];by_cases h:∃ w∈l1,w.1=c
   . obtain⟨w,hw,hwc,h3⟩:=A3Y h;have q:=rng1 w hw;rw[h3,h3,A0e fun v hv e=>by
       have:=rng0 v hv;have:=E.ap;omega]
     rw[yl,ye,zM (by omega) (by omega)]
   . rw[A0e (ws:=l1) fun w hw e=>h ⟨w,hw,e⟩,A0e (ws:=l1) fun w hw e=>h ⟨w,hw,e⟩];rw[Int.mul_zero,Int.add_zero,zM (by omega) (by omega)]
def A0Q (s:ShfV):List Int:=A0w s.1 1 s.1.length
def A1x (s:ShfV) (n:Nat):List (List Int):=(zd (s.2.2.1.getD ((A0Q s).getD n 0).toNat 0).toNat).map (rowC s (A0v s 0).toNat ((A0Q s).getD n 0).toNat)
def A0K (s:ShfV):List (List Int):=(zd (A0Q s).length).flatMap (A1x s)
theorem A3A {s:ShfV} (ho:A0j s) {n:Nat} (hn:n<(A0Q s).length):∃ e f0 f1 R C0 C1 T L0 L1,(A0Q s).getD n 0=((e:Nat):Int)/\EdgeAt s e f0 f1 R C0 C1 (A0v s 0).toNat (A0v s 1).toNat T L0 L1:=by
 obtain⟨e,q1,q2,q3⟩:=A3G hn;obtain⟨f0,f1,R,C0,C1,T,L0,L1,E⟩:=edgeAt ho q2 (by omega);exact⟨e,f0,f1,R,C0,C1,T,L0,L1,q1,E⟩
theorem A2X {s:ShfV} (ho:A0j s) {n:Nat} (hn:n<(A0Q s).length):(A1x s n).length≤3:=by
 obtain⟨e,f0,f1,R,C0,C1,T,L0,L1,q,E⟩:=A3A ho hn;have:=(A1X ho E.lt).2;simp only[A1x,zo,zq,q,zc];exact this
theorem A2Q {f:Nat->List (List Int)}:∀ n,(∀ i,i<n->(f i).length≤3)->((zd n).flatMap f).length≤3*n:=by
 intro n;induction n with
 | zero=>intro _;simp
 | succ n ih =>
   intro h;have h1:=ih fun i hi=>h i (by omega);have h2:=h n (by omega);rw[A0F,zg];omega
theorem Ad9.val (s:ShfV) (ho:A0j s):Ad9.F (s,())=some ((A0K s,()),()):=by
 have hT:∀ r,Ev (fun n=>Ad9.T n s.1 s.2.1 s.2.2.1 s.2.2.2) r->Ad9.F (s,())=some r:=fun r hr=>Ad9.of _ _ _ _ hr;have hp:=ho.2.1.1;have hcl:=ho.1.1;obtain⟨c1,c2⟩:=A0A ho 0;have hN:=A0M s.1 1 s.1.length;have hN:(A0Q s).length≤s.1.length:=hN;have hall:Ac4.F ((s.1,(s.2.1,(s.2.2.1,s.2.2.2))),())=some ((A0v s 0,()),()):=by
   rw[Ac4.eq,Ac4.T,Ad7.val' s ho 0 (by omega)];rfl
 obtain⟨y,hy,hg⟩:=Goes.loop (R:=((List (List Int)×Unit)×Unit)) (fun k n (y:List (List Int))=>Ad9.l5 k s.1 s.2.1 s.2.2.1 s.2.2.2 (A0v s 0) (n:Int) y (A0Q s)) (A0Q s).length (fun n y=>y=(zd n).flatMap (A1x s)) (fun n y hn h2=>⟨_,rfl,Goes.succ fun k=>by
   obtain⟨e,f0,f1,R,C0,C1,T,L0,L1,q,E⟩:=A3A ho hn;have hlen:=A2Q (f:=A1x s) n fun i hi=>A2X ho (by omega);have hc3:=A2X ho hn;have two:=E.two;have eW:((A0v s 0).toNat:Int)=A0v s 0:=by omega
   have a0:=E.b0.at_;have a1:=E.b1.at_;have g0:Ab0.F ((s.1,(s.2.1,(s.2.2.1,s.2.2.2))),(e:Int),0,())=_:=Ab0.val s ho e 0 E.lt (by omega);have g1:Ab0.F ((s.1,(s.2.1,(s.2.2.1,s.2.2.2))),(e:Int),1,())=_:=Ab0.val s ho e 1 E.lt (by omega);have s0:Ag3.F ((s.1,(s.2.1,(s.2.2.1,s.2.2.2))),(f0:Int),())=_:=Ag3.val s ho f0 E.b0.flt E.o0;have s1:Ag3.F ((s.1,(s.2.1,(s.2.2.1,s.2.2.2))),(f1:Int),())=_:=Ag3.val s ho f1 E.b1.flt E.o1;have k0:=(A0i ho E.lt (j:=0) (by omega)).1;have k1:=(A0i ho E.lt (j:=1) (by omega)).1;have p0:=E.b0.prime;have p1:=E.b1.prime;have L0':=E.b0.bL;have L1':=E.b1.bL;have m0:=Af9.val (A0k s e 0) k0 L0 (A0v s 0).toNat 1 (by omega) (by rw[E.b0.cols];omega) (by omega);have m1:=Af9.val (A0k s e 1) k1 L1 (A0v s 0).toNat (s.2.1-1) (by omega) (by rw[E.b1.cols];omega) (by omega);rw[eW,E.b0.rows,zc]at m0;rw[eW,E.b1.rows,zc]at m1;have hR:=(A1X ho E.lt).2;rw[E.st,zc]at hR;have hS:=Al6.val ((zd R).map (rowW (A0k s e 0) L0 (A0v s 0).toNat 1)) ((zd R).map (rowW (A0k s e 1) L1 (A0v s 0).toNat (s.2.1-1))) s.2.1 (A0v s 0).toNat hp (by simp) (by simp;omega) (by omega) (fun x hx=>by
     simp only[zm]at hx;obtain⟨a,_,rfl⟩:=hx;exact⟨A0o _ _ _ _ _,by rw[<-p0];exact A5B (by omega) _ _ _ _⟩) (fun x hx=>by
     simp only[zm]at hx;obtain⟨a,_,rfl⟩:=hx;exact⟨A0o _ _ _ _ _,by rw[<-p1];exact A5B (by omega) _ _ _ _⟩)
   have hS':Al6.F ((zd R).map (rowW (A0k s e 0) L0 (A0v s 0).toNat 1),(zd R).map (rowW (A0k s e 1) L1 (A0v s 0).toNat (s.2.1-1)),s.2.1,())=some ((A1x s n,()),()):=by
     rw[hS];have:(zd ((zd R).map (rowW (A0k s e 0) L0 (A0v s 0).toNat 1)).length).map (fun i=>addL s.2.1 1 (((zd R).map (rowW (A0k s e 0) L0 (A0v s 0).toNat 1)).getD i []) (((zd R).map (rowW (A0k s e 1) L1 (A0v s 0).toNat (s.2.1-1))).getD i []))=A1x s n:=by
       rw[zo,zq,A1x,q,zc,E.st,zc];refine zC fun a ha=>?_;rw[zl]at ha;rw[A0H _ _ ha,A0H _ _ ha,rowC_eq ho E ha]
     rw[this]
   rw[Ad9.l5_eq,if_pos (ltI.2 hn),if_pos (idxI.2 hn)];simp only[zc,q,Aa6.val s.1 ho.1 e E.lt,za];rw[if_pos (idxI.2 hn),g0];simp only[za];rw[if_pos (by omega),zX,a0,s0];simp only[za];rw[E.b0.left,m0];simp only[za];rw[if_pos (idxI.2 hn),g1];simp only[za];rw[if_pos (by omega),show(1:Int).toNat=1 from rfl,a1,s1];simp only[za];rw[E.b1.left,A0q (x:=s.2.1-1) (by omega) (by omega),m1];simp only[za];rw[hS'];simp only[za];rw[if_pos (by rw[h2];simp only[bigA];omega),A0x (by omega),h2,A0F]⟩) 0 [] (zj _) rfl
 refine hT _ ((hg _ ((Ev.const _).succ fun k=>?_)).of_eq fun k=>by rw[Ad9.T,hall];simp only[za];rw[Ad2.val s.1 1 (by omega) (by omega)];rfl);rw[Ad9.l5_eq,if_neg (by simp),hy];rfl
theorem A5z {c:List (List Int)}:∀ n,(∀ j,j<n->(c.getD j []).length=1)->A0w c 0 n=(zd n).map fun(j:Nat)=>(j:Int):=by
 intro n;induction n with
 | zero=>intro _;rfl
 | succ n ih =>
   intro h;rw[A0X,if_pos (by rw[beq_iff_eq];have:=h n (by omega);omega),ih fun j hj=>h j (by omega),zv,zz];rfl
theorem A4a {c:List (List Int)} (h:CplxOk c):∀ n,n≤c.length->∃ m,m≤n/\A0w c 0 n=((zd m).map fun(j:Nat)=>(j:Int))/\∀ j,j<m->(c.getD j []).length=1:=by
 intro n;induction n with
 | zero=>intro _;exact⟨0,by omega,rfl,fun j hj=>by omega⟩
 | succ n ih =>
   intro hn;by_cases h1:(c.getD n []).length=1
   . have hall:∀ j,j<n+1->(c.getD j []).length=1:=fun j hj=>A3b h (show j≤n by omega) (by omega) h1;exact⟨n+1,zp _,A5z _ hall,hall⟩
   . obtain⟨m,h2,h3,h4⟩:=ih (by omega);refine⟨m,by omega,?_,h4⟩;rw[A0X,if_neg (by rw[beq_iff_eq];omega),h3]
theorem A3j {s:ShfV} (h:A0j s) {k:Nat} (hk:k<s.1.length):((s.2.2.1.getD k 0).toNat:Int)=s.2.2.1.getD k 0/\(s.2.2.1.getD k 0).toNat≤3:=by
 have h1:=A0B h.2.2.1.2.1 (show k<s.2.2.1.length by rw[h.2.2.1.1];exact hk);omega
def nv (p:List (List Int)):Nat:=(A0w p 0 p.length).length
theorem A1z {p:List (List Int)} (hc:CplxOk p):nv p≤p.length/\(∀ j,j<nv p->(A0w p 0 p.length).getD j 0=(j:Int)/\(p.getD j []).length=1)/\∀ j,j<p.length->(p.getD j []).length=1->j<nv p:=by
 obtain⟨m,h1,h2,h3⟩:=A4a hc p.length (zp _);have e:nv p=m:=by rw[nv,h2];simp
 rw[e];refine⟨h1,fun j hj=>⟨by rw[h2,A0H _ 0 hj],h3 j hj⟩,fun j hj hl=>?_⟩;have hm:(j:Int)∈A0w p 0 p.length:=by
   unfold A0w;exact zm.2 ⟨j,yd.2 ⟨zl.2 hj,by rw[beq_iff_eq];omega⟩,rfl⟩
 rw[h2]at hm;obtain⟨i,hi,e2⟩:=zm.1 hm;have:=zl.1 hi;omega
def vpl (s:ShfV) (p:List (List Int)):List Int:=(zd (nv p)).map fun j=>((A0C s.1 (p.getD j []):Nat):Int)
theorem A0Z (s:ShfV) (p:List (List Int)):(vpl s p).length=nv p:=by simp[vpl]
theorem A3R (s:ShfV) (p:List (List Int)) {j:Nat} (h:j<nv p):(vpl s p).getD j 0=((A0C s.1 (p.getD j []):Nat):Int):=A0H _ 0 h
theorem Af6.val {s:ShfV} {p:List (List Int)} (h:A0j s) (hc:CplxOk p) (hi:IsIn p s.1):Af6.F (s,p,())=some ((vpl s p,()),()):=by
 have hn:=hc.1;have e0:=Ad2.val p 0 (by omega) (by omega);obtain⟨n1,n2,-⟩:=A1z hc;refine Af6.of s.1 s.2.1 s.2.2.1 s.2.2.2 p ?_;have g:=Goes.push (R:=(List Int×Unit)×Unit) (fun k i v=>Af6.l4 k s.1 s.2.1 s.2.2.1 s.2.2.2 p (i:Int) v (A0w p 0 p.length)) (nv p) (fun j=>((A0C s.1 (p.getD j []):Nat):Int)) fun i v hi' hv=>Goes.succ fun k=>by
   have hi2:i<(A0w p 0 p.length).length:=hi';rw[Af6.l4_eq,if_pos (ltI.2 hi2),if_pos (idxI.2 hi2)];simp only[zc];rw[(n2 i hi').1,if_pos (idxI.2 (by omega))];simp only[zc,A2P h.1 (hi _ (A0z [] (show i<p.length by omega))),za];rw[if_pos (A1D hv (by omega)),A0x (by omega)]
 refine Ev.of_eq (g _ ((Ev.const _).succ fun k=>?_)) fun k=>?_
 . rw[Af6.l4_eq,if_neg (by simp only[nv];simp)];rfl
 . rw[Af6.T,e0];rfl
def both (a b:List (List Int)):List (List Int):=a.filter fun s=>decide (s∈b)
theorem A4V {a:List (List Int)} (b:List (List Int)) (h:SmL a):SmL (both a b) :=
 ⟨ym (z0 _ _) h.1,fun x hx=>h.2 x (yd.1 hx).1⟩
theorem A2V {a:List (List Int)} (b:List (List Int)) (h:A0V a):A0V (both a b):=sortedS_pw.2 ((sortedS_pw.1 h).sublist List.filter_sublist)
theorem A3T (a b:List (List Int)) {i:Nat} (hi:i<a.length):both (a.take (i+1)) b=both (a.take i) b++(if a.getD i []∈b then[a.getD i []]else[]):=by
 rw[both,both,zY,zE hi,zW,List.filter_append,A0y hi];congr 1;by_cases h:a[i]∈b<;>simp[h]
theorem A1e (a b:List (List Int)) (i:Nat):(both (a.take i) b).length≤i:=ym (z0 _ _) (by simp;omega)
theorem Ac5.val (a b:List (List Int)) (ha:SmL a) (hb:SmL b):Ac5.F (a,b,())=some ((both a b,()),()):=by
 have hn:=ha.1;refine Ac5.of _ _ ?_;obtain⟨s,hs,hg⟩:=Goes.loop (R:=((List (List Int)×Unit)×Unit)) (fun k i (x:List (List Int))=>Ac5.l3 k a b (i:Int) [] x) a.length (fun i x=>x=both (a.take i) b) (fun i x hi h2=>⟨_,rfl,Goes.succ fun k=>by
   obtain⟨r,hr,hr'⟩:=Aa0.val b (a.getD i []) hb;have hl:=A1e a b i;rw[Ac5.l3_eq,if_pos (ltI.2 hi),if_pos (idxI.2 hi)];simp only[zc,hr,za,Aa3.val _ (ha.2 _ (A0z [] hi))];rw[A3T a b hi,A0x (by omega),<-h2];by_cases hm:a.getD i []∈b
   . have:¬ r<0:=fun hh=>hr'.1 hh hm;rw[if_pos (by simp;omega),if_pos (idxI.2 hi),if_pos (by rw[h2];simp only[zk,zn,bigA];omega),if_pos hm]
   . have:r<0:=hr'.2 hm;rw[if_neg (by simp;omega),if_neg hm,z5]⟩) 0 [] (zj _) rfl
 rw[zt (zp _)]at hs;refine Ev.of_eq (hg _ ((Ev.const _).succ fun k=>?_)) fun k=>rfl;rw[Ac5.l3_eq,if_neg (by simp),hs]
theorem Am2.val (a:List (List Int)) (f:List Int×Unit->Option (Bool×Unit)) (b:List (List Int)) (ha:SmL a) (hf:∀ s∈a,f (s,())=some (decide (s∈b),())) (hs:A0V a) :
   Am2.F (a,f,())=some ((both a b,()),()):=by
 have hn:=ha.1;refine Am2.of _ _ ?_;obtain⟨s,hs',hg⟩:=Goes.loop (R:=((List (List Int)×Unit)×Unit)) (fun k i (x:List (List Int))=>Am2.l3 k f a (a.length:Int) (i:Int) [] x) a.length (fun i x=>x=both (a.take i) b) (fun i x hi h2=>⟨_,rfl,Goes.succ fun k=>by
   have hl:=A1e a b i;rw[Am2.l3_eq,if_pos (ltI.2 hi),if_pos (idxI.2 hi)];simp only[zc,hf _ (A0z [] hi),za];rw[A3T a b hi,A0x (by omega),<-h2];by_cases hm:a.getD i []∈b
   . rw[if_pos (decide_eq_true hm),if_pos (by rw[h2];simp only[zk,zn,bigA];omega),if_pos hm]
   . rw[if_neg (fun hh=>hm (of_decide_eq_true hh)),if_neg hm,z5]⟩) 0 [] (zj _) rfl
 rw[zt (zp _)]at hs';refine Ev.of_eq (hg _ ((Ev.const _).succ fun k=>?_)) fun k=>rfl;rw[Am2.l3_eq,if_neg (by simp),hs',Ae1.same _ (A4V b ha) (A2V b hs)];rfl
theorem Ai7.val (a b:List (List Int)) (ha:SmL a) (hb:SmL b) (sa:A0V a) (sb:A0V b):Ai7.F (a,b,())=some ((both a b,()),()):=by
 rw[Ai7.eq,Ai7.T,Am2.val a _ b ha (fun s hs=>?_) sa]
 . rfl
 . obtain⟨r,hr,hr'⟩:=Ab3.val b s sb hb (ha.2 s hs);show(As8.F (s,b,())).map (·.1)=_;rw[As8.eq,As8.T,hr];simp only[za,Option.map_some,Option.some.injEq,yh,and_true,decide_eq_decide];have:r<0↔s∉b:=hr';by_cases h:s∈b
   . have h2:¬ r<0:=fun hh=>(this.1 hh) h;simp only[h,iff_true];omega
   . simp only[h,iff_false];have:=this.2 h;omega
theorem Ap1.same (xs ys:List (List Int)) (h:SmL xs):∃ b,Ap1.F (xs,ys,())=some ((b,()),())/\(b=true↔xs=ys):=by
 have hn:=h.1;rw[Ap1.eq,Ap1.T]
 suffices ∃ b,Al1.F (xs,ys,Ac7.cloG (()),())=some ((b,()),())/\(b=true↔xs=ys)by
   obtain⟨b,hb,hb'⟩:=this;rw[hb];exact⟨b,rfl,hb'⟩
 by_cases hl:xs.length=ys.length
 . obtain⟨b,hb,hb'⟩:=A1B (fun k i=>Al1.l4 k ys (Ac7.cloG (())) xs xs.length (i:Int)) xs ys [] hl (fun i hi=>by
     obtain⟨c,hc,hc'⟩:=Ac7.same (xs.getD i []) (ys.getD i []) (h.2 _ (A0z _ hi));have hc2:Ac7.cloG (()) (xs.getD i [],ys.getD i [],())=some (c,()):=by
       show(Ac7.F (xs.getD i [],ys.getD i [],())).map (·.1)=_;rw[hc];rfl
     exact⟨c,hc',fun k=>by rw[Al1.l4_eq,if_pos (ltI.2 hi),if_pos (idxI.2 hi),if_pos (idx2 (hl▸hi))];simp only[zc,hc2,za];rw[A0x (by omega)]⟩) (fun k=>by rw[Al1.l4_eq,if_neg (by simp)])
   exact⟨b,Al1.of _ _ _ (hb.of_eq fun k=>by rw[Al1.T,if_neg (by simp[hl])];rfl),hb'⟩
 . exact⟨false,Al1.of _ _ _ ((Ev.const _).of_eq fun k=>by rw[Al1.T,if_pos (by simp;omega)]),by simp;intro e;exact hl (by rw[e])⟩
theorem Ao5.same (xs ys:List (List Int)) (h:SmL xs):∃ b,Ao5.F (xs,ys,())=some ((b,()),())/\(b=true↔xs=ys):=by
 obtain⟨b,hb,hb'⟩:=Ap1.same xs ys h;rw[Ao5.eq,Ao5.T,hb];exact⟨b,rfl,hb'⟩
def A4i (c a b:List (List Int)):Prop:=(∀ s∈a,s∈c)/\(∀ s∈b,s∈c)/\∀ s∈c,s∈a∨s∈b
theorem both_all {a b:List (List Int)}:(both a b).length=a.length↔∀ s∈a,s∈b:=by
 rw[both,List.length_filter_eq_length_iff];simp
theorem Ae7.val (c a b:List (List Int)) (hc:SmL c) (ha:SmL a) (hb:SmL b):∃ v,Ae7.F (c,a,b,())=some ((v,()),())/\(v=true↔A4i c a b):=by
 have hn:=hc.1;obtain⟨v,hv,hv'⟩:=Ev.allP (L:=fun k i=>Ae7.l6 k c a b (i:Int)) (a:=()) (b:=()) (n:=c.length) (fun i=>c.getD i []∈a∨c.getD i []∈b) true (fun i hi=>by
   have E:=fun k=>Ae7.l6_eq k c a b (i:Int);obtain⟨r,hr,hr'⟩:=Aa0.val a (c.getD i []) ha;obtain⟨t,ht,ht'⟩:=Aa0.val b (c.getD i []) hb;simp only[if_pos (ltI.2 hi),if_pos (idxI.2 hi),zc,hr,ht,za,A0x (show i<4611686018427387904 by omega)]at E;by_cases hm:c.getD i []∈a
   . exact .inl ⟨.inl hm,fun k=>by rw[E,if_neg (by simp only[decide_eq_true_eq,hr'];exact fun hh=>hh hm)]⟩
   . by_cases hm2:c.getD i []∈b
     . exact .inl ⟨.inr hm2,fun k=>by rw[E,if_pos (by simp only[decide_eq_true_eq,hr'];exact hm),if_neg (by simp only[decide_eq_true_eq,ht'];exact fun hh=>hh hm2)]⟩
     . exact .inr ⟨fun hh=>hh.elim hm hm2,fun k=>by rw[E,if_pos (by simp only[decide_eq_true_eq,hr'];exact hm),if_pos (by simp only[decide_eq_true_eq,ht'];exact hm2)]⟩) ((Ev.const _).succ fun k=>by rw[Ae7.l6_eq,if_neg (by simp)]) 0 (zj _)
 have T:=fun k=>(rfl:Ae7.T k c a b=_);simp only[Ae7.T,Ac5.val a c ha hc,Ac5.val b c hb hc,za]at T;by_cases h1:∀ s∈a,s∈c
 . have e1:=both_all.2 h1;by_cases h2:∀ s∈b,s∈c
   . have e2:=both_all.2 h2;refine⟨v,Ae7.of _ _ _ (hv.of_eq fun k=>?_),hv'.trans ⟨fun⟨_,h⟩=>⟨h1,h2,fun s hs=>?_⟩,fun h=>⟨rfl,fun j _ hj=>h.2.2 _ (A0z _ hj)⟩⟩⟩
     . show Ae7.T k c a b=_;rw[Ae7.T,Ac5.val a c ha hc,Ac5.val b c hb hc];simp only[za];rw[if_neg (by simp[e1]),if_neg (by simp[e2])];rfl
     . obtain⟨j,hj,rfl⟩:=z7 hs;have:=h j (zj _) hj
       rwa [A0y hj]at this
   . refine⟨false,Ae7.of _ _ _ ((Ev.const _).of_eq fun k=>?_),by simp only[zJ,false_iff];exact fun h=>h2 h.2.1⟩;have e2:¬ (both b c).length=b.length:=fun h=>h2 (both_all.1 h);show Ae7.T k c a b=_;rw[Ae7.T,Ac5.val a c ha hc,Ac5.val b c hb hc];simp only[za];rw[if_neg (by simp[e1]),if_pos (by simp;omega)]
 . refine⟨false,Ae7.of _ _ _ ((Ev.const _).of_eq fun k=>?_),by simp only[zJ,false_iff];exact fun h=>h1 h.1⟩;have e1:¬ (both a c).length=a.length:=fun h=>h1 (both_all.1 h);show Ae7.T k c a b=_;rw[Ae7.T,Ac5.val a c ha hc,Ac5.val b c hb hc];simp only[za];rw[if_pos (by simp;omega)]
theorem Aa2.val2 (a b:List (List Int)) (ha:a.length≤1048576) (hb:b.length≤1048576):Aa2.F ([a,b],())=some ((a++b,()),()):=by
 have w1:zi.wrap (0+(a.length:Int))=(a.length:Int):=by rw[A0q (by omega) (by omega)];omega
 have w2:zi.wrap ((a.length:Int)+(b.length:Int))=(a.length:Int)+(b.length:Int):=A0q (by omega) (by omega);have w3:zi.wrap ((0:Int)+1)=1:=A0q (by omega) (by omega);have w4:zi.wrap ((1:Int)+1)=2:=A0q (by omega) (by omega);refine Aa2.of _ ⟨6,fun k hk=>?_⟩;obtain⟨k,rfl⟩:∃ j,k=j+1+1+1+1+1+1:=⟨k-6,by omega⟩;show Aa2.T (k+1+1+1+1+1+1) [a,b]=_;have e0:((([a,b]:List (List (List Int))).length:Nat):Int)=2:=rfl;rw[Aa2.T,e0,Aa2.l3_eq,if_pos (by decide),if_pos (by rw[e0];decide)];simp only[zX,zu,w1,w3];rw[if_neg (by simp only[decide_eq_true_eq];omega),Aa2.l3_eq,if_pos (by decide),if_pos (by rw[e0];decide)];simp only[show(1:Int).toNat=1 from rfl,zS,zu,w2,w4];rw[if_neg (by simp only[decide_eq_true_eq];omega),Aa2.l3_eq,if_neg (by decide),if_pos (by simp only[bigN];omega),e0,Aa2.l11_eq,if_pos (by decide),if_pos (by rw[e0];decide)];simp only[zX,zu,w3];rw[if_pos (by simp only[zn,bigA];omega),Aa2.l11_eq,if_pos (by decide),if_pos (by rw[e0];decide)];simp only[show(1:Int).toNat=1 from rfl,zS,zu,w4,yt];rw[if_pos (by simp only[bigA];omega),Aa2.l11_eq,if_neg (by decide)]
theorem Ap8.val (a b:List (List Int)) (ha:CplxOk a) (hb:CplxOk b):Ap8.F (a,b,())=some ((A2Z (a++b),()),()):=by
 have h1:=ha.1;have h2:=hb.1;have hs:SmL (a++b):=⟨by rw[zg];omega,fun x hx=>(zw.1 hx).elim (ha.small.2 x) (hb.small.2 x)⟩;rw[Ap8.eq,Ap8.T,Aa2.val2 a b (by omega) (by omega)];simp only[za,Ae1.val _ hs]
theorem A2a {c a b:List (List Int)} (hc:A0V c):A2Z (a++b)=c↔A4i c a b:=by
 constructor
 . rintro rfl;refine⟨fun s hs=>by rw[A1q];simp[hs],fun s hs=>by rw[A1q];simp[hs],fun s hs=>by rw[A1q]at hs;simpa using hs⟩
 . rintro⟨h1,h2,h3⟩;refine A2A (A4M _) (sortedS_pw.1 hc) fun s=>?_;rw[A1q,zw];exact⟨fun h=>h.elim (h1 s) (h2 s),h3 s⟩
theorem A4v {c a b:List (List Int)} (kc:CplxOk c) (ka:CplxOk a) (kb:CplxOk b):∃ v,Ar6.F (c,a,b,())=some ((v,()),())/\(v=true↔A4i c a b):=by
 obtain⟨u1,b1,b1'⟩:=Ab6.val c kc.small;obtain⟨u2,b2,b2'⟩:=Ab6.val a ka.small;obtain⟨u3,b3,b3'⟩:=Ab6.val b kb.small;obtain rfl:u1=true:=b1'.2 kc;obtain rfl:u2=true:=b2'.2 ka;obtain rfl:u3=true:=b3'.2 kb;have hsm:SmL (A2Z (a++b)):=by
   refine⟨?_,fun x hx=>?_⟩
   . have h1:=ka.1;have h2:=kb.1;have hle:∀ (l:List (List Int)) (p:List Int),(a2R p l).length≤l.length:=by
       intro l;induction l with
       | nil=>intro p;simp[a2R]
       | cons x l ih => intro p;simp only[a2R];split
                        . have:=ih x;simp only[zk];omega
                        . have:=ih x;simp only[zk];omega
     have hle2:(A2Z (a++b)).length≤(b4r ordS (a++b)).length:=by
       unfold A2Z;cases b4r ordS (a++b)with
       | nil=>simp[a8E]
       | cons x l=>have:=hle l x;simp only[a8E,zk];omega
     rw[(A2k (a++b)).length_eq,zg]at hle2;omega
   . have:=(A1q x (a++b)).1 hx;exact(zw.1 this).elim (ka.small.2 x) (kb.small.2 x)
 obtain⟨w,e2,e2'⟩:=Ao5.same (A2Z (a++b)) c hsm;refine⟨w,?_,e2'.trans (A2a kc.sorted)⟩;rw[Ar6.eq,Ar6.T,b1,b2,b3];simp only[za,if_true,Ap8.val a b ka kb,e2]
open Classical in
noncomputable def covC (s:ShfV) (a b:List (List Int)):Int:=if A1c s/\CplxOk a/\CplxOk b then(if A4i s.1 a b then 0 else 6)else 1
theorem covC_zero {s:ShfV} {a b:List (List Int)}:covC s a b=0↔(A1c s/\CplxOk a/\CplxOk b)/\A4i s.1 a b:=by
 unfold covC;split
 . split<;>simp[*]
 . simp[*]
theorem Ak4.val (s:ShfV) (a b:List (List Int)) (hs:SmSh s) (ha:SmL a) (hb:SmL b):Ak4.F (s,a,b,())=some ((covC s a b,()),()):=by
 obtain⟨v1,a1,a1'⟩:=Ak2.val s hs;obtain⟨v2,a2,a2'⟩:=Ab6.val a ha;obtain⟨v3,a3,a3'⟩:=Ab6.val b hb;have a1:Ak2.F ((s.1,(s.2.1,(s.2.2.1,s.2.2.2))),())=_:=a1;have T:Ak4.F (s,a,b,())=Ak4.T s.1 s.2.1 s.2.2.1 s.2.2.2 a b:=Ak4.eq _ _ _ _ _ _;rw[T,Ak4.T,a1,a2,a3];simp only[za];unfold covC;cases v1 with
 | false=>rw[if_pos (by simp),if_neg fun hh=>absurd (a1'.2 hh.1) (by simp)]
 | true=>cases v2 with
   | false=>rw[if_neg (by simp),if_pos (by simp),if_neg fun hh=>absurd (a2'.2 hh.2.1) (by simp)]
   | true=>cases v3 with
     | false=>rw[if_neg (by simp),if_neg (by simp),if_pos (by simp),if_neg fun hh=>absurd (a3'.2 hh.2.2) (by simp)]
     | true =>
       have k1:=a1'.1 rfl;have k2:=a2'.1 rfl;have k3:=a3'.1 rfl;obtain⟨v4,a4,a4'⟩:=A4v k1.1.1 k2 k3;rw[if_neg (by simp),if_neg (by simp),if_neg (by simp),if_pos ⟨k1,k2,k3⟩,a4];simp only[za];cases v4 with
       | false=>rw[if_pos (by simp),if_neg fun hh=>absurd (a4'.2 hh) (by simp)]
       | true=>rw[if_neg (by simp),if_pos (a4'.1 rfl)]
theorem Al8.val (s:ShfV) (a b:List (List Int)) (hs:SmSh s) (ha:SmL a) (hb:SmL b):Al8.F (s,a,b,())=some ((covC s a b,()),()):=by
 obtain⟨v1,a1,a1'⟩:=Af8.val s hs;obtain⟨v2,a2,a2'⟩:=Aa7.val a ha;obtain⟨v3,a3,a3'⟩:=Aa7.val b hb;have a1:Af8.F ((s.1,(s.2.1,(s.2.2.1,s.2.2.2))),())=_:=a1;have T:Al8.F (s,a,b,())=Al8.T s.1 s.2.1 s.2.2.1 s.2.2.2 a b:=Al8.eq _ _ _ _ _ _;rw[T,Al8.T,a1,a2,a3];simp only[za];unfold covC;cases v1 with
 | false=>rw[if_pos (by simp),if_neg fun hh=>absurd (a1'.2 hh.1) (by simp)]
 | true=>cases v2 with
   | false=>rw[if_neg (by simp),if_pos (by simp),if_neg fun hh=>absurd (a2'.2 hh.2.1) (by simp)]
   | true=>cases v3 with
     | false=>rw[if_neg (by simp),if_neg (by simp),if_pos (by simp),if_neg fun hh=>absurd (a3'.2 hh.2.2) (by simp)]
     | true =>
       have k1:=a1'.1 rfl;have k2:=a2'.1 rfl;have k3:=a3'.1 rfl;obtain⟨v4,a4,a4'⟩:=Ae7.val s.1 a b k1.1.1.small k2.small k3.small;rw[if_neg (by simp),if_neg (by simp),if_neg (by simp),if_pos ⟨k1,k2,k3⟩,a4];simp only[za];cases v4 with
       | false=>rw[if_pos (by simp),if_neg fun hh=>absurd (a4'.2 hh) (by simp)]
       | true=>rw[if_neg (by simp),if_pos (a4'.1 rfl)]
def A4l (s:ShfV) (x:List Int):Prop:=A3q s 0 x/\∀ y∈A0K s,sumN (dotE y x) y.length%s.2.1=0
theorem A5k {c:List (List Int)} {st:List Int} {d:Int}:∀ (n:Nat) (r:Int),0≤r->r<psum c st d n->∃ h,h<n/\((c.getD h []).length:Int)=d+1/\psum c st d h≤r/\r<psum c st d h+st.getD h 0:=by
 intro n;induction n with
 | zero=>intro r h0 h;simp only[psum]at h;omega
 | succ n ih =>
   intro r h0 h;by_cases hr:r<psum c st d n
   . obtain⟨x,h1,h2⟩:=ih r h0 hr;exact⟨x,by omega,h2⟩
   . simp only[psum]at h;by_cases hd:((c.getD n []).length:Int)=d+1
     . rw[if_pos hd]at h;exact⟨n,by omega,hd,by omega,h⟩
     . rw[if_neg hd]at h;omega
theorem A4G {s:ShfV} (ho:A0j s) {n:Nat} (hn:n<(A0Q s).length) {y:List Int} (hy:y∈A1x s n):∃ r,r<(A0v s 1).toNat/\y=rowL (cobM s 0).2.2.2 (A0v s 0).toNat r:=by
 obtain⟨e,f0,f1,R,C0,C1,T,L0,L1,q,E⟩:=A3A ho hn;rw[A1x,q,zc]at hy;simp only[zm,zl]at hy;obtain⟨a,ha,rfl⟩:=hy;obtain⟨u0,u1⟩:=A1C ho E.lt;have he:((s.1.getD e []).length:Int)-1=1:=by
   have:=E.two;rw[A0R]at this;split at this<;>omega
 rw[he]at u1;exact⟨(A0T s e).toNat+a,by omega,(A4z ho (k:=0) (by omega) hn q ha).symm⟩
theorem A4P {s:ShfV} (ho:A0j s) {r:Nat} (hr:r<(A0v s 1).toNat):rowL (cobM s 0).2.2.2 (A0v s 0).toNat r∈A0K s:=by
 have hsl:=ho.2.2.1.1;have e1:=A1E ho 1;obtain⟨h,h1,h2,h3,h4⟩:=A5k (c:=s.1) (st:=s.2.2.1) (d:=1) s.1.length (r:Int) (by omega) (by omega);have hm:((h:Nat):Int)∈A0Q s:=by
   unfold A0Q A0w;simp only[zm,yd,zl,beq_iff_eq];exact⟨h,⟨h1,h2⟩,rfl⟩
 obtain⟨n,hn,he⟩:=z7 hm;have q:(A0Q s).getD n 0=(h:Int):=by rw[A0y hn];exact he
 have hT:A0T s h=psum s.1 s.2.2.1 1 h:=by unfold A0T;rw[show((s.1.getD h []).length:Int)-1=1 by omega]
 obtain⟨u0,u1⟩:=A1C ho h1;have ha:r-(A0T s h).toNat<(s.2.2.1.getD h 0).toNat:=by omega
 have:=A4z ho (k:=0) (by omega) hn q ha;rw[show(A0T s h).toNat+(r-(A0T s h).toNat)=r by omega]at this;rw[this,A0K,zF];refine⟨n,by simpa using hn,?_⟩;rw[A1x,q,zc];exact zm.2 ⟨_,by simpa using ha,rfl⟩
theorem A2Y {s:ShfV} (ho:A0j s) {y:List Int} (hy:y∈A0K s):y.length=(A0v s 0).toNat/\A0I 0 (s.2.1-1) y:=by
 rw[A0K,zF]at hy;obtain⟨n,hn,hy⟩:=hy;rw[zl]at hn;obtain⟨r,h1,rfl⟩:=A4G ho hn hy;have hM:=A3s ho 0;have hl:(cobM s 0).2.2.2.length=(A0v s 1).toNat*(A0v s 0).toNat:=by
   show(wr _ _).length=_;rw[A0c,zh];rfl
 exact⟨A0P hl h1,fun x hx=>hM.2.2.2.2 x (A1o hx)⟩
theorem Am6.val (s:ShfV) (ho:A0j s) (x:List Int) (hx:x.length≤1048576):∃ v,Am6.F (s,x,())=some ((v,()),())/\(v=true↔A4l s x):=by
 have hT:Am6.F (s,x,())=Am6.T s.1 s.2.1 s.2.2.1 s.2.2.2 x:=Am6.eq _ _ _ _ _;have hp:=ho.2.1.1;obtain⟨c1,c2⟩:=A0A ho 0;have hn:Aa4.F ((s.1,(s.2.1,(s.2.2.1,s.2.2.2))),0,())=_:=Aa4.val' s ho 0 (by omega);obtain⟨v,hv,hv'⟩:=Ap5.val x (A0v s 0) s.2.1 (by omega);rw[A0q (x:=s.2.1-1) (by omega) (by omega)]at hv';have hv':v=true↔A3q s 0 x:=hv';rw[hT,Am6.T,hn];simp only[za,hv];cases v with
 | false=>exact⟨false,by rw[if_neg (by simp)],by simp only[zJ,false_iff];exact fun h=>absurd (hv'.2 h.1) (by simp)⟩
 | true =>
   have hch:=hv'.1 rfl;have hc:Ab1.F ((s.1,(s.2.1,(s.2.2.1,s.2.2.2))),0,())=_:=Ab1.val s ho 0 (by omega);have hM:=A3s ho 0;have ha:=Am1.val (cobM s 0) x hM hch.2 hch.1.symm;have hl:=A3w (cobM s 0) x;have hH:(cobM s 0).2.1.toNat=(A0v s 1).toNat:=rfl;have hz:As0.F (A1d (cobM s 0) x,())=some ((!(A1d (cobM s 0) x).any fun a=>a !=0,()),()):=by
     rw[As0.eq,As0.T,Ad6.val (A1d (cobM s 0) x) (As1.cloG (())) (fun a=>a !=0) (fun a _=>by
       show(As1.F (a,())).map (·.1)=_;rw[As1.eq,As1.T];rfl) (by have:=A0A ho 1;omega)]
     rfl
   refine⟨_,by rw[if_pos rfl,hc];simp only[za];rw[ha];simp only[za];rw[hz];rfl,?_⟩;have key:∀ r,r<(A0v s 1).toNat->sumN (fun k=>(cobM s 0).2.2.2.getD (r*(A0v s 0).toNat+k) 0*x.getD k 0) (A0v s 0).toNat=sumN (dotE (rowL (cobM s 0).2.2.2 (A0v s 0).toNat r) x) (A0v s 0).toNat:=fun r hr=>A2B fun k hk=>by rw[dotE,A1A hk]
   simp only[Bool.not_eq_true',List.any_eq_false,bne_iff_ne,ne_eq,Classical.not_not];constructor
   . intro h;refine⟨hch,fun y hy=>?_⟩;obtain⟨l1,_⟩:=A2Y ho hy;rw[A0K,zF]at hy;obtain⟨n,hn,hy⟩:=hy;rw[zl]at hn;obtain⟨r,h1,rfl⟩:=A4G ho hn hy;rw[l1,<-key r h1];refine h _ ?_;rw[A1d,zm];exact⟨r,by rw[zl];exact h1,rfl⟩
   . intro h a ha;rw[A1d,zm]at ha;obtain⟨r,hr,rfl⟩:=ha;rw[zl]at hr;have hr:r<(A0v s 1).toNat:=hr;have h2:=h.2 _ (A4P ho hr);rw[(A2Y ho (A4P ho hr)).1,<-key r hr]at h2;exact h2
theorem Ah6.val (s:ShfV) (ho:A0j s) (x:List Int) (hx:x.length≤1048576):∃ v,Ah6.F (s,x,())=some ((v,()),())/\(v=true↔A4l s x):=by
 have hT:∀ r,Ev (fun n=>Ah6.T n s.1 s.2.1 s.2.2.1 s.2.2.2 x) r->Ah6.F (s,x,())=some r:=fun r hr=>Ah6.of _ _ _ _ _ hr;have hp:=ho.2.1.1;obtain⟨c1,c2⟩:=A0A ho 0;have hall:Ac4.F ((s.1,(s.2.1,(s.2.2.1,s.2.2.2))),())=some ((A0v s 0,()),()):=by
   rw[Ac4.eq,Ac4.T,Ad7.val' s ho 0 (by omega)];rfl
 obtain⟨v,hv,hv'⟩:=Aq9.val s.2.1 (A0v s 0) x hp hx (by omega);have hv':v=true↔A3q s 0 x:=hv';cases v with
 | false=>exact⟨false,hT _ ((Ev.const _).of_eq fun n=>by rw[Ah6.T,hall];simp only[za,hv];rw[if_pos (by simp)]),by simp only[zJ,false_iff];exact fun h=>absurd (hv'.2 h.1) (by simp)⟩
 | true =>
   have hch:=hv'.1 rfl;have hcd:Ad9.F ((s.1,(s.2.1,(s.2.2.1,s.2.2.2))),())=_:=Ad9.val s ho;have hcl:(A0K s).length≤3*(A0Q s).length:=A2Q _ fun i hi=>A2X ho hi;have hel:(A0Q s).length≤s.1.length:=A0M s.1 1 s.1.length;have h48:=ho.1.1;obtain⟨w,hw,hw'⟩:=Ev.allP (L:=fun k i=>Ah6.l5 k s.1 s.2.1 s.2.2.1 s.2.2.2 x (i:Int) (A0K s)) (a:=()) (b:=()) (n:=(A0K s).length) (fun i=>sumN (dotE ((A0K s).getD i []) x) ((A0K s).getD i []).length%s.2.1=0) true (fun i hi=>by
     have E:=fun k=>Ah6.l5_eq k s.1 s.2.1 s.2.2.1 s.2.2.2 x (i:Int) (A0K s);obtain⟨l1,l2⟩:=A2Y ho (A0z [] hi);have hcx:=hch.1;simp only[if_pos (ltI.2 hi),if_pos (idxI.2 hi),zc,An2.val _ x s.2.1 hp l2 hch.2 (by omega) (by omega),za,A0x (show i<4611686018427387904 by omega)]at E;by_cases h:sumN (dotE ((A0K s).getD i []) x) ((A0K s).getD i []).length%s.2.1=0
     . exact .inl ⟨h,fun k=>by rw[E,if_neg (by simp only[bne_iff_ne,ne_eq,Classical.not_not];exact h)]⟩
     . exact .inr ⟨h,fun k=>by rw[E,if_pos (by simp only[bne_iff_ne,ne_eq];exact h)]⟩) ((Ev.const _).succ fun k=>by rw[Ah6.l5_eq,if_neg (by simp)]) 0 (zj _)
   refine⟨w,hT _ (hw.of_eq fun n=>by rw[Ah6.T,hall];simp only[za,hv];rw[if_neg (by simp),hcd];rfl),hw'.trans ⟨fun⟨_,h⟩=>⟨hch,fun y hy=>?_⟩,fun h=>⟨rfl,fun i _ hi=>h.2 _ (A0z [] hi)⟩⟩⟩;obtain⟨i,hi,rfl⟩:=z7 hy;have:=h i (zj _) hi
   rwa [A0y hi]at this
structure CovAt (s:ShfV) (a b:List (List Int)):Prop where
 s1:A1c s
 ha:CplxOk a
 hb:CplxOk b
 ia:IsIn a s.1
 ib:IsIn b s.1
 cov:∀ t∈s.1,t∈a∨t∈b
theorem covAt {s:ShfV} {a b:List (List Int)} (h:covC s a b=0):CovAt s a b:=by
 obtain⟨⟨h1,h2,h3⟩,h4,h5,h6⟩:=covC_zero.1 h;exact⟨h1,h2,h3,h4,h5,h6⟩
theorem A5d {s:ShfV} {p:List (List Int)} (h:A1c s) (hc:CplxOk p) (hi:IsIn p s.1):rstV s p=rstS s p:=by rw[rstV,if_pos (partC_zero.2 ⟨⟨h,hc⟩,hi⟩),rstS]
theorem Ae8.val {s:ShfV} {p:List (List Int)} (hs:SmSh s) (hp:SmL p) (h:A1c s) (hc:CplxOk p) (hi:IsIn p s.1):Ae8.F (s,p,())=some ((rstS s p,()),()):=by
 have a1:Al2.F ((s.1,(s.2.1,(s.2.2.1,s.2.2.2))),p,())=_:=Al2.val s p hs hp;have T:Ae8.F (s,p,())=Ae8.T s.1 s.2.1 s.2.2.1 s.2.2.2 p:=Ae8.eq _ _ _ _ _;rw[T,Ae8.T,a1];simp only[za,A5d h hc hi]
theorem Al9.val {s:ShfV} {p:List (List Int)} (x:List Int) (hs:SmSh s) (hp:SmL p) (h:A1c s) (hc:CplxOk p) (hi:IsIn p s.1) (hx:x.length≤1048576):∃ v,Al9.F (s,p,x,())=some ((v,()),())/\(v=true↔A4l (rstS s p) x):=by
 obtain⟨v,e,e'⟩:=Ah6.val (rstS s p) (A0b h.1 hc hi) x hx;have a1:Ae8.F ((s.1,(s.2.1,(s.2.2.1,s.2.2.2))),p,())=_:=Ae8.val hs hp h hc hi;have T:Al9.F (s,p,x,())=Al9.T s.1 s.2.1 s.2.2.1 s.2.2.2 p x:=Al9.eq _ _ _ _ _ _;refine⟨v,?_,e'⟩;rw[T,Al9.T,a1];simp only[za];rw[show Ah6.F (rstS s p,x,())=_ from e];rfl
theorem A4m {a:List (List Int)} {b:List (List Int)} (ha:CplxOk a) (hb:CplxOk b):CplxOk (both a b):=by
 have hso:=A2V b ha.sorted;have hmem:∀ t,t∈both a b↔t∈a/\t∈b:=fun t=>by simp[both]
 have hle:(both a b).length≤a.length:=z0 _ _;have hn:=ha.1;refine⟨by omega,fun i hi=>?_⟩;obtain⟨m1,m2⟩:=(hmem _).1 (A0z [] hi);obtain⟨i1,i2⟩:=A0D m1;obtain⟨j1,j2⟩:=A0D m2;have q1:=ha.2 _ i1;have q2:=hb.2 _ j1;rw[i2]at q1;rw[j2]at q2;exact⟨q1.1,fun h0=>hso _ _ (by omega) hi,fun h1 k hk=>(hmem _).2 ⟨q1.2.2 h1 k hk,q2.2.2 h1 k hk⟩⟩
theorem both_in {a b:List (List Int)}:IsIn (both a b) a/\IsIn (both a b) b:=⟨fun t ht=>(by simp[both]at ht;exact ht.1),fun t ht=>(by simp[both]at ht;exact ht.2)⟩
open Classical in
noncomputable def oneC (s:ShfV) (a b:List (List Int)) (z:List Int):Int:=if covC s a b=0 then(if A4l (rstS s (both a b)) z then 0 else 7)else covC s a b
theorem oneC_zero {s:ShfV} {a b:List (List Int)} {z:List Int}:oneC s a b z=0↔covC s a b=0/\A4l (rstS s (both a b)) z:=by
 unfold oneC;split
 . rename_i h;split<;>simp[*]
 . rename_i h;simp[h]
structure OneAt (s:ShfV) (a b:List (List Int)) (z:List Int):Prop extends CovAt s a b where
 hB:CplxOk (both a b)
 iB:IsIn (both a b) s.1
 hz:A3q (rstS s (both a b)) 0 z
theorem A2U {s:ShfV} {a b:List (List Int)} (c:CovAt s a b):CplxOk (both a b)/\IsIn (both a b) s.1:=⟨A4m c.ha c.hb,fun t ht=>c.ia t (both_in.1 t ht)⟩
theorem A5v {s:ShfV} {a b:List (List Int)} {z:List Int} (h:oneC s a b z=0):OneAt s a b z:=by
 obtain⟨h1,h2⟩:=oneC_zero.1 h;have c:=covAt h1;exact⟨c,(A2U c).1,(A2U c).2,h2.1⟩
theorem Ak3.val (s:ShfV) (a b:List (List Int)) (z:List Int) (hs:SmSh s) (ha:SmL a) (hb:SmL b) (hz:z.length≤1048576):Ak3.F (s,a,b,z,())=some ((oneC s a b z,()),()):=by
 have a1:Ak4.F ((s.1,(s.2.1,(s.2.2.1,s.2.2.2))),a,b,())=_:=Ak4.val s a b hs ha hb;have T:Ak3.F (s,a,b,z,())=Ak3.T s.1 s.2.1 s.2.2.1 s.2.2.2 a b z:=Ak3.eq _ _ _ _ _ _ _;rw[T,Ak3.T,a1];simp only[za];by_cases h:covC s a b=0
 . have c:=covAt h;obtain⟨hB,iB⟩:=A2U c;have r1:Ag1.F ((s.1,(s.2.1,(s.2.2.1,s.2.2.2))),both a b,())=some ((rstS s (both a b),()),()):=A2q c.s1.1 hB iB;obtain⟨v,e,e'⟩:=Am6.val (rstS s (both a b)) (A0b c.s1.1 hB iB) z hz;rw[if_neg (by simp[h]),Ai7.val a b c.ha.small c.hb.small c.ha.sorted c.hb.sorted,oneC,if_pos h];simp only[za];rw[r1];simp only[za];rw[e];simp only[za];cases v with
   | false=>rw[if_pos (by simp),if_neg fun hh=>absurd (e'.2 hh) (by simp)]
   | true=>rw[if_neg (by simp),if_pos (e'.1 rfl)]
 . rw[if_pos (by simpa using h),oneC,if_neg h]
theorem Am0.val (s:ShfV) (a b:List (List Int)) (z:List Int) (hs:SmSh s) (ha:SmL a) (hb:SmL b) (hz:z.length≤1048576):Am0.F (s,a,b,z,())=some ((oneC s a b z,()),()):=by
 have a1:Al8.F ((s.1,(s.2.1,(s.2.2.1,s.2.2.2))),a,b,())=_:=Al8.val s a b hs ha hb;have T:Am0.F (s,a,b,z,())=Am0.T s.1 s.2.1 s.2.2.1 s.2.2.2 a b z:=Am0.eq _ _ _ _ _ _ _;rw[T,Am0.T,a1];simp only[za];by_cases h:covC s a b=0
 . have c:=covAt h;obtain⟨hB,iB⟩:=A2U c;obtain⟨v,e,e'⟩:=Al9.val z hs hB.small c.s1 hB iB hz;have e:Al9.F ((s.1,(s.2.1,(s.2.2.1,s.2.2.2))),both a b,z,())=_:=e;rw[if_neg (by simp[h]),Ac5.val a b c.ha.small c.hb.small,oneC,if_pos h];simp only[za];rw[e];simp only[za];cases v with
   | false=>rw[if_pos (by simp),if_neg fun hh=>absurd (e'.2 hh) (by simp)]
   | true=>rw[if_neg (by simp),if_pos (e'.1 rfl)]
 . rw[if_pos (by simpa using h),oneC,if_neg h]
theorem A5y {c:List (List Int)} {d:Int}:∀ N n,n<(A0w c d N).length->∃ h:Nat,h<N/\(A0w c d N).getD n 0=(h:Int)/\((c.getD h []).length:Int)=d+1/\(A0w c d h).length=n:=by
 intro N;induction N with
 | zero=>intro n hn;simp[A0w]at hn
 | succ N ih =>
   intro n hn;rw[A0X]at hn ⊢;split at hn
   . rename_i hd;rw[if_pos hd];rw[zg,yf]at hn;by_cases hl:n<(A0w c d N).length
     . obtain⟨h,h1,h2,h3,h4⟩:=ih n hl;refine⟨h,by omega,?_,h3,h4⟩;rw[<-h2];simp only[ze,yb hl]
     . have e:n=(A0w c d N).length:=by omega
       subst e;refine⟨N,by omega,?_,by rwa [beq_iff_eq]at hd,rfl⟩;simp only[ze,zQ (zp _),yn];rfl
   . rename_i hd;rw[if_neg hd];obtain⟨h,h1,h2,h3,h4⟩:=ih n hn;exact⟨h,by omega,h2,h3,h4⟩
def A2I (s:ShfV) (d:Int) (n:Nat):Int:=s.2.2.1.getD ((A0w s.1 d s.1.length).getD n 0).toNat 0
theorem A4O (s:ShfV) (d:Int):∀ i,i≤s.1.length->psum s.1 s.2.2.1 d i=sumN (A2I s d) (A0w s.1 d i).length:=by
 intro i;induction i with
 | zero=>intro _;simp[A0w,psum,sumN]
 | succ i ih =>
   intro hi;rw[psum,ih (by omega),A0X];by_cases h:((s.1.getD i []).length:Int)=d+1
   . obtain⟨rest,hr⟩:=A2c (c:=s.1) (d:=d) (h:=i) (n:=s.1.length) (by omega) h;rw[if_pos h,if_pos (by rw[beq_iff_eq];exact h),zg,yf,sumN];congr 1;have:(A0w s.1 d s.1.length).getD (A0w s.1 d i).length 0=(i:Int):=by
       rw[hr,ze,zQ (zp _),yn];rfl
     rw[A2I,this,zc]
   . rw[if_neg h,if_neg (by rw[beq_iff_eq];exact h),Int.add_zero]
theorem A3v {s:ShfV} (h:A0j s) (d:Int):A0v s d=sumN (A2I s d) (A0w s.1 d s.1.length).length:=by
 rw[A1E h,A4O s d _ (zp _)]
theorem A5C {s:ShfV} (ho:A0j s) {d:Int} {n:Nat} (hn:n<(A0w s.1 d s.1.length).length):∃ e:Nat,(A0w s.1 d s.1.length).getD n 0=(e:Int)/\e<s.1.length/\((s.1.getD e []).length:Int)=d+1/\A0T s e=sumN (A2I s d) n/\A2I s d n=s.2.2.1.getD e 0:=by
 obtain⟨e,h1,h2,h3,h4⟩:=A5y _ _ hn;refine⟨e,h2,h1,h3,?_,by rw[A2I,h2,zc]⟩;rw[A0T,show((s.1.getD e []).length:Int)-1=d by omega,A4O s d e (by omega),h4]
theorem A4N (a b p:Int):(a%p*b)%p=(a*b)%p:=by rw[zH,yi,<-zH]
theorem A3K (a p:Int):∀ n:Nat,(a%p) ^ n%p=a ^ n%p
 | 0=>by rw[zO,zO]
 | n+1=>by rw[zI,zI,zH,A3K a p n,yi,<-zH]
theorem A3P {p a b:Int} (hp:2≤p/\p≤251) (ha:0≤a/\a≤p-1) (hb:0≤b/\b≤p-1):(zi.wrap (a*b)).tmod p=(a*b)%p:=by
 have:=A1f hp ha hb;rw[A0q (x:=a*b) (by omega) (by omega),A2J (by omega)]
theorem Ai0.val (a p:Int) (hp:2≤p/\p≤251) (ha:0≤a/\a≤p-1):Ai0.F (a,p,())=some ((a ^ (p-2).toNat%p,()),()):=by
 obtain⟨n,hn⟩:∃ n:Nat,p-2=n:=⟨(p-2).toNat,by omega⟩;have hw:zi.wrap (p-2)=(n:Int):=by rw[A0q (by omega) (by omega),hn]
 have hnn:(p-2).toNat=n:=by omega
 rw[hnn];refine Ai0.of _ _ ?_;obtain⟨s,hs,hg⟩:=Goes.loop (R:=((Int×Unit)×Unit)) (fun k j (s:Int)=>Ai0.l3 k a p s ((n-j:Nat):Int)) n (fun j s=>s=a ^ j%p) (fun j s hj h2=>⟨_,rfl,Goes.succ fun k=>by
   have hs:0≤s/\s≤p-1:=by rw[h2];exact A1a hp.1
   have hw2:zi.wrap (((n-j:Nat):Int)-1)=((n-(j+1):Nat):Int):=by rw[A0q (by omega) (by omega)];omega
   rw[Ai0.l3_eq,if_pos (by simp;omega),if_neg (by omega),A3P hp hs ha,hw2,h2,A4N,<-zI]⟩) 0 1 (zj _) (by
     show(1:Int)=a ^ 0%p;rw[zO,zM (by omega) (by omega)])
 refine Ev.of_eq (hg _ ((Ev.const _).succ fun k=>?_)) fun k=>?_
 . rw[Ai0.l3_eq,if_neg (by simp),hs]
 . rw[Ai0.T,hw];rfl
theorem Aj7.loop (p:Int) (hp:2≤p/\p≤251):∀ (m n:Nat) (a r:Int),n≤m->n≤1000->0≤a/\a≤p-1->0≤r/\r≤p-1->Ev (fun k=>Aj7.l2 k a (n:Int) p r) ((r*a ^ n%p,()),()):=by
 intro m;induction m with
 | zero =>
   intro n a r hn _ ha hr;obtain rfl:n=0:=by omega
   refine(Ev.const _).succ fun k=>?_;rw[Aj7.l2_eq,if_neg (by simp),zO,Int.mul_one,zM (by omega) (by omega)]
 | succ m ih =>
   intro n a r hn hn2 ha hr;rcases Nat.eq_zero_or_pos n with rfl|hpos
   . refine(Ev.const _).succ fun k=>?_;rw[Aj7.l2_eq,if_neg (by simp),zO,Int.mul_one,zM (by omega) (by omega)]
   . have hdiv:zi.wrap ((n:Int).tdiv 2)=((n/2:Nat):Int):=by
       have:(n:Int).tdiv 2=((n/2:Nat):Int):=rfl;rw[this,A0q (by omega) (by omega)]
     have hmod:(n:Int).tmod 2=((n%2:Nat):Int):=rfl;have hsq:=A1a (a:=a*a) hp.1;by_cases ho:n%2=1
     . have hra:=A1a (a:=r*a) hp.1;have:=ih (n/2) (a*a%p) (r*a%p) (by omega) (by omega) hsq hra;have e:r*a%p*(a*a%p) ^ (n/2)%p=r*a ^ n%p:=by
         rw[A4N,zH,A3K,<-zH,Int.mul_assoc];congr 2;have hn3:n=2*(n/2)+1:=by omega
         conv=>rhs;rw[hn3,zI,Int.pow_mul]
         rw[show a ^ 2=a*a from by rw[zI,zI,zO,ye],Int.mul_comm]
       rw[e]at this;refine this.succ fun k=>?_;rw[Aj7.l2_eq,if_pos (by simp;omega),if_neg (by decide),hmod,ho,if_pos (by decide),if_neg (by omega),if_neg (by omega),if_neg (by decide),A3P hp ha ha,A3P hp hr ha,hdiv]
     . have:=ih (n/2) (a*a%p) r (by omega) (by omega) hsq hr;have e:r*(a*a%p) ^ (n/2)%p=r*a ^ n%p:=by
         rw[zH,A3K,<-zH];congr 2;have hn3:n=2*(n/2):=by omega
         conv=>rhs;rw[hn3,Int.pow_mul]
         rw[show a ^ 2=a*a from by rw[zI,zI,zO,ye]]
       rw[e]at this;refine this.succ fun k=>?_;have h0:n%2=0:=by omega
       rw[Aj7.l2_eq,if_pos (by simp;omega),if_neg (by decide),hmod,h0,if_neg (by decide),if_neg (by omega),if_neg (by decide),A3P hp ha ha,hdiv]
theorem Am5.val (a p:Int) (hp:2≤p/\p≤251) (ha:0≤a/\a≤p-1):Am5.F (a,p,())=some ((a ^ (p-2).toNat%p,()),()):=by
 obtain⟨n,hn⟩:∃ n:Nat,p-2=n:=⟨(p-2).toNat,by omega⟩;have hw:zi.wrap (p-2)=(n:Int):=by rw[A0q (by omega) (by omega),hn]
 have hnn:(p-2).toNat=n:=by omega
 have h1:=Aj7.loop p hp n n a 1 (zp _) (by omega) ha (by omega);rw[ye]at h1;have h2:Aj7.F (a,(n:Int),p,())=_:=Aj7.of _ _ _ (h1.of_eq fun k=>rfl);rw[Am5.eq,Am5.T,hw,h2,hnn];rfl
structure RowsOk (p:Int) (h w:Nat) (R:List (List Int)):Prop where
 len:R.length=h
 row:∀ r∈R,r.length=w/\A0I 0 (p-1) r
theorem RowsOk.at {p:Int} {h w:Nat} {R:List (List Int)} (o:RowsOk p h w R) {i:Nat} (hi:i<h):(R.getD i []).length=w/\A0I 0 (p-1) (R.getD i []):=o.row _ (A0z [] (by rw[o.len];exact hi))
theorem RowsOk.set {p:Int} {h w:Nat} {R:List (List Int)} (o:RowsOk p h w R) {r:List Int} (hr:r.length=w/\A0I 0 (p-1) r) (i:Nat):RowsOk p h w (R.set i r) :=
 ⟨by rw[zA];exact o.len,fun x hx=>(zT hx).elim (o.row x) fun e=>e▸hr⟩
theorem A3E:∀ {R:List (List Int)} {w i j:Nat},(∀ r∈R,r.length=w)->i<R.length->j<w->R.flatten.getD (i*w+j) 0=(R.getD i []).getD j 0
 | [],_,_,_,_,h,_=>absurd h (by simp)
 | r :: R,w,i,j,hr,hi,hj=>by
   have h1:=hr r (by simp);simp only[zB,ze];cases i with
   | zero=>rw[yb (by omega)];simp
   | succ i =>
     have e:(i+1)*w=w+i*w:=by rw[zL,zZ,yo]
     have:=A3E (R:=R) (w:=w) (i:=i) (j:=j) (fun r hr'=>hr r (by simp[hr'])) (by simpa using hi) hj;simp only[ze]at this;rw[e,zQ (by omega),h1,show w+i*w+j-w=i*w+j by omega,this];simp
theorem A4J:∀ {R:List (List Int)} {w i j:Nat} (v:Int),(∀ r∈R,r.length=w)->i<R.length->j<w->R.flatten.set (i*w+j) v=(R.set i ((R.getD i []).set j v)).flatten
 | [],_,_,_,_,_,h,_=>absurd h (by simp)
 | r :: R,w,i,j,v,hr,hi,hj=>by
   have h1:=hr r (by simp);cases i with
   | zero=>simp only[zB,Nat.zero_mul,Nat.zero_add];rw[List.set_append_left _ _ (by omega)];simp
   | succ i =>
     have e:(i+1)*w=w+i*w:=by rw[zL,zZ,yo]
     have:=A4J (R:=R) (w:=w) (i:=i) (j:=j) v (fun r hr'=>hr r (by simp[hr'])) (by simpa using hi) hj;simp only[zB,List.set_cons_succ];rw[e,List.set_append_right _ _ (by omega),h1,show w+i*w+j-w=i*w+j by omega,this];simp
theorem A1g:∀ {R:List (List Int)} {w:Nat},(∀ r∈R,r.length=w)->R.flatten.length=R.length*w
 | [],_,_=>by simp
 | r::R,w,hr=>by
   have:=A1g (R:=R) (w:=w) fun r hr'=>hr r (by simp[hr']);simp only[zB,zg,zk,hr r (by simp),this];rw[zL,zZ,yo]
theorem A0t {h w i j:Nat} (hh:h≤4096) (hw:w≤256) (hi:i<h) (hj:j<w):zi.wrap (zi.wrap ((i:Int)*(w:Int))+(j:Int))=((i*w+j:Nat):Int)/\i*w+j<h*w:=by
 have h1:(i+1)*w≤h*w:=zP w hi;have h2:h*w≤4096*256:=zN hh hw;have e:(i+1)*w=i*w+w:=by rw[zL,zZ]
 have e2:(i:Int)*(w:Int)=((i*w:Nat):Int):=by simp
 rw[e2,A0q (x:=((i*w:Nat):Int)) (by omega) (by omega),A0q (by omega) (by omega)];omega
def inv_ (p a:Int):Int:=a ^ (p-2).toNat%p
def A0p (R:List (List Int)) (t a:Nat):List (List Int):=(R.set t (R.getD a [])).set a (R.getD t [])
def A3h (p:Int) (w t c:Nat) (R:List (List Int)):List (List Int):=R.set t (addL p (inv_ p ((R.getD t []).getD c 0)) (zf w 0) (R.getD t []))
def A0f (p:Int) (t c:Nat) (R:List (List Int)) (i:Nat):List Int:=if i=t∨(R.getD i []).getD c 0=0 then R.getD i []else addL p (p-(R.getD i []).getD c 0) (R.getD i []) (R.getD t [])
def A2G (p:Int) (t c:Nat) (R:List (List Int)):List (List Int):=(zd R.length).map (A0f p t c R)
def pivA (R:List (List Int)) (t c:Nat):Nat:=t+(R.drop t).findIdx fun r=>r.getD c 0 !=0
def A0W (p:Int) (w c:Nat) (s:List (List Int)×List Int):List (List Int)×List Int :=
 if pivA s.1 s.2.length c<s.1.length then(A2G p s.2.length c (A3h p w s.2.length c (A0p s.1 s.2.length (pivA s.1 s.2.length c))),s.2++[(c:Int)])else s
theorem A5p {p:Int} (hp:2≤p) (a:Int):0≤inv_ p a/\inv_ p a≤p-1:=by
 have h1:=Int.emod_nonneg (a ^ (p-2).toNat) (show p≠0 by omega);have h2:=Int.emod_lt_of_pos (a ^ (p-2).toNat) (show 0<p by omega);unfold inv_;omega
theorem A4D {p:Int} {h w:Nat} {R:List (List Int)} (o:RowsOk p h w R) {t a:Nat} (ht:t<h) (ha:a<h):RowsOk p h w (A0p R t a):=(o.set (o.at ha) t).set (o.at ht) a
theorem A3m {R:List (List Int)} {t:Nat} (ht:t<R.length):A0p R t t=R:=by
 have e:R.set t (R.getD t [])=R:=by rw[A0y ht];exact yg ht
 rw[A0p,e,e]
theorem A3L {p:Int} {h w:Nat} {R:List (List Int)} (hp:2≤p) (o:RowsOk p h w R) (t c:Nat):RowsOk p h w (A3h p w t c R):=o.set ⟨by rw[A0n,zh],A3p hp _ _⟩ t
theorem elim_ok {p:Int} {h w:Nat} {R:List (List Int)} (hp:2≤p) (o:RowsOk p h w R) (t c:Nat):RowsOk p h w (A2G p t c R):=by
 refine⟨by simp[A2G,o.len],fun r hr=>?_⟩;unfold A2G at hr;obtain⟨i,hi,rfl⟩:=zm.1 hr;have hi:=zl.1 hi;have:=o.at (i:=i) (by rw[<-o.len];exact hi);unfold A0f;split
 . exact this
 . exact⟨by rw[A0n];exact this.1,A3p hp _ _⟩
theorem step_ok {p:Int} {h w c:Nat} {s:List (List Int)×List Int} (hp:2≤p) (o:RowsOk p h w s.1) (hl:s.2.length≤h):RowsOk p h w (A0W p w c s).1/\(A0W p w c s).2.length≤h:=by
 unfold A0W;split
 . rename_i hlt;rw[o.len]at hlt;have ht:s.2.length<h:=Nat.lt_of_le_of_lt (yq _ _) hlt;exact⟨elim_ok hp (A3L hp (A4D o ht hlt) _ _) _ _,by rw[zg,zk,zn];omega⟩
 . exact⟨o,hl⟩
theorem A5J {p:Int} {w c:Nat} {s:List (List Int)×List Int} (h:s.1.length≤s.2.length):A0W p w c s=s:=if_neg (by unfold pivA;omega)
theorem A3c (R:List (List Int)) (t c:Nat) (ht:t≤R.length):t≤pivA R t c/\pivA R t c≤R.length/\(∀ i,t≤i->i<pivA R t c->(R.getD i []).getD c 0=0)/\(pivA R t c<R.length->(R.getD (pivA R t c) []).getD c 0≠0):=by
 unfold pivA;generalize hj:(R.drop t).findIdx (fun r=>r.getD c 0 !=0)=j;have hle:j≤(R.drop t).length:=by rw[<-hj];exact List.findIdx_le_length
 rw[zr]at hle;have hd:∀ i,t+i<R.length->(R.drop t).getD i []=R.getD (t+i) []:=fun i hi=>by simp[ze]
 refine⟨yq _ _,by omega,fun i h1 h2=>?_,fun h=>?_⟩
 . have hlt:i-t<(R.drop t).findIdx (fun r=>r.getD c 0 !=0):=by omega
   have:=List.not_of_lt_findIdx hlt;have e:=hd (i-t) (by omega);rw[show t+(i-t)=i by omega,A0y (by rw[zr];omega)]at e;rw[e]at this;simpa using this
 . have hlt:j<(R.drop t).length:=by rw[zr];omega
   have h3:=List.findIdx_getElem (w:=by rw[hj];exact hlt) (p:=fun r:List Int=>r.getD c 0 !=0) (xs:=R.drop t);have e:=hd j h;rw[A0y hlt]at e;simp only[hj,e]at h3;simpa using h3
def mix {A:Type} (n:Nat) (f g:Nat->A) (i:Nat):List A:=(zd n).map fun q=>if q<i then f q else g q
theorem A4k {A:Type} (n:Nat) (f g:Nat->A) (i:Nat):(mix n f g i).length=n:=by simp[mix]
theorem A1S {A:Type} (n:Nat) (f g:Nat->A):mix n f g 0=(zd n).map g:=zC fun q _=>if_neg (by omega)
theorem A2x {A:Type} (n:Nat) (f g:Nat->A):mix n f g n=(zd n).map f:=zC fun q hq=>if_pos (zl.1 hq)
theorem A1L {A:Type} {n:Nat} (f g:Nat->A) (i:Nat) {q:Nat} (d:A) (hq:q<n):(mix n f g i).getD q d=if q<i then f q else g q:=A0H _ d hq
theorem A2v {A:Type} {n:Nat} (f g:Nat->A) {i:Nat} (hi:i<n):(mix n f g i).set i (f i)=mix n f g (i+1):=by
 refine zx (by simp[mix]) fun q h1 h2=>?_;rw[List.getElem_set];simp only[mix,yc,z9];by_cases e:i=q
 . subst e;rw[if_pos rfl,if_pos (by omega)]
 . rw[if_neg e];by_cases l:q<i
   . rw[if_pos l,if_pos (by omega)]
   . rw[if_neg l,if_neg (by omega)]
theorem A2S {A:Type} (n:Nat) {f g:Nat->A} {i:Nat} (h:f i=g i):mix n f g (i+1)=mix n f g i:=zC fun q _=>by
 by_cases e:q=i
 . subst e;rw[if_pos (by omega),if_neg (by omega),h]
 . by_cases l:q<i
   . rw[if_pos (by omega),if_pos l]
   . rw[if_neg (by omega),if_neg l]
theorem A1T (R:List (List Int)):(zd R.length).map (fun q=>R.getD q [])=R:=by
 refine zx (by simp) fun q h1 h2=>?_;simp only[yc,z9];exact A0y h2
theorem A4A (r:List Int):(zd r.length).map (fun q=>r.getD q 0)=r:=by
 refine zx (by simp) fun q h1 h2=>?_;simp only[yc,z9];exact A0y h2
theorem A1P (p:Int) (t c:Nat) (R:List (List Int)):A0f p t c R t=R.getD t []:=if_pos (.inl rfl)
theorem A4r {p:Int} {h w:Nat} (hp:2≤p/\p≤251) (hh:h≤4096) (hw:w≤256) {R:List (List Int)} (o:RowsOk p h w R) {t c:Nat} (ht:t<h) (hc:c<w) (det:Int) (piv:List Int) :
   Goes (fun k=>Ae0.l17 k (w:Int) p det (t:Int) (w:Int) (c:Int) (h:Int) 0 R piv (c:Int)) (fun k=>Ae0.l17 k (w:Int) p det (t:Int) (w:Int) (c:Int) (h:Int) (h:Int) (A2G p t c R) piv (c:Int)):=by
 have hlen:=o.len;obtain⟨s,hs,hg⟩:=Goes.loop (R:=(List Int×Int×Unit)×(List (List Int)×Unit)) (fun k i (s:List (List Int))=>Ae0.l17 k (w:Int) p det (t:Int) (w:Int) (c:Int) (h:Int) (i:Int) s piv (c:Int)) h (fun i s=>s=mix h (A0f p t c R) (fun q=>R.getD q []) i) (fun i s hi h2=>⟨_,rfl,Goes.succ fun k=>by
   have ri:=o.at hi;have rt:=o.at ht;have g1:s.getD i []=R.getD i []:=by rw[h2,A1L _ _ _ _ hi,if_neg (by omega)]
   have g2:s.getD t []=R.getD t []:=by
     rw[h2,A1L _ _ _ _ ht];split
     . exact A1P p t c R
     . rfl
   have hsl:s.length=h:=by rw[h2,A4k]
   have hx:=A0B ri.2 (i:=c) (by omega);rw[Ae0.l17_eq,if_pos (ltI.2 hi),if_pos (idxI.2 (by omega))];simp only[zc,g1,g2];by_cases e:i=t
   . subst e;rw[if_neg (by simp),A0x (by omega),h2,A2S h (A1P p i c R)]
   . rw[if_pos (by simp;omega),if_pos (idxI.2 (by omega))];by_cases z:(R.getD i []).getD c 0=0
     . rw[if_neg (by rw[z];decide),A0x (by omega),h2,A2S h (show A0f p t c R i=R.getD i []from if_pos (.inr z))]
     . rw[if_pos (by rw[bne_iff_ne];exact z),if_pos (idxI.2 (by omega)),if_pos (idxI.2 (by omega)),A0q (by omega) (by omega),Ai3.val _ _ _ _ hp (by omega) ri.2 rt.2 (by omega) (by omega)];simp only[za];have e2:A0f p t c R i=addL p (p-(R.getD i []).getD c 0) (R.getD i []) (R.getD t []):=if_neg (by rintro(h|h)<;>contradiction);rw[if_pos (idxI.2 (by omega)),A0x (by omega),<-e2,h2,A2v (A0f p t c R) (fun q=>R.getD q []) hi]⟩) 0 R (zj _) (by rw[A1S,<-hlen,A1T])
 rw[hs,A2x]at hg;have e:A2G p t c R=(zd h).map (A0f p t c R):=by rw[A2G,hlen]
 rw[e];exact hg
theorem A4s {p:Int} {h w:Nat} (hp:2≤p/\p≤251) (hh:h≤4096) (hw:w≤256) {R:List (List Int)} (o:RowsOk p h w R) {c:Nat} (hc:c<w) (det:Int) (piv:List Int) (hl:piv.length≤h) :
   ∃ det',Goes (fun k=>Ae0.l4 k (w:Int) p det (w:Int) (c:Int) R piv) (fun k=>Ae0.l4 k (w:Int) p det' (w:Int) ((c+1:Nat):Int) (A0W p w c (R,piv)).1 (A0W p w c (R,piv)).2):=by
 have hlen:=o.len;have hcut:cutL R (piv.length:Int) (R.length:Int)=R.drop piv.length:=by simp only[cutL,zc,z3]
 obtain⟨r,hr,hr'⟩:=Ah2.val (R.drop piv.length) (Ar9.cloG ((c:Int),())) (fun r=>r.getD c 0 !=0) (fun x hx=>by
   have:=(o.row x (List.mem_of_mem_drop hx)).1;show(Ar9.F (x,(c:Int),())).map (·.1)=_;rw[Ar9.eq,Ar9.T,if_pos (idxI.2 (by omega))];simp only[zc];rfl) (by rw[zr];omega)
 have hstart:∀ k,Ae0.l4 (k+1) (w:Int) p det (w:Int) (c:Int) R piv=_:=fun k=>by
   rw[Ae0.l4_eq,if_pos (ltI.2 hc),if_pos (by omega),hcut,hr]
 rcases hr' with⟨e,hall⟩|⟨j,hj,e,hj1,hj2⟩
 . refine⟨0,Goes.succ fun k=>?_⟩;have hno:¬ pivA R piv.length c<R.length:=by
     unfold pivA;have:(R.drop piv.length).findIdx (fun r=>r.getD c 0 !=0)=(R.drop piv.length).length:=List.findIdx_eq_length.2 fun x hx=>hall x hx;rw[this,zr];omega
   have hs:A0W p w c (R,piv)=(R,piv):=if_neg hno;rw[hstart];simp only[za,e];rw[if_pos (by decide),A0x (by omega),hs]
 . rw[zr]at hj;have hjj:(R.drop piv.length).findIdx (fun r=>r.getD c 0 !=0)=j:=by
     have hlt:j<(R.drop piv.length).length:=by rw[zr];omega
     refine(List.findIdx_eq hlt).2 ⟨by rw[<-A0y (d:=[]) hlt];exact hj1,fun i hi=>?_⟩;have:=hj2 i hi;rw[A0y (xs:=R.drop piv.length) (i:=i) (d:=[]) (by omega)]at this;exact this
   have hpa:pivA R piv.length c=piv.length+j:=by rw[pivA,hjj]
   have ht:piv.length<h:=by omega
   have ha:piv.length+j<h:=by omega
   have o2:=A4D o ht ha;have hl2:=o2.len;have r2:=o2.at ht;have hs:A0W p w c (R,piv)=(A2G p piv.length c (A3h p w piv.length c (A0p R piv.length (piv.length+j))),piv++[(c:Int)]):=by
     rw[A0W,if_pos (by show pivA R piv.length c<R.length;omega)];simp only[hpa]
   have hx:=A0B r2.2 (i:=c) (by omega);have hiv:=A5p hp.1 (((A0p R piv.length (piv.length+j)).getD piv.length []).getD c 0);have hin:Am5.F (((A0p R piv.length (piv.length+j)).getD piv.length []).getD c 0,p,())=some ((inv_ p (((A0p R piv.length (piv.length+j)).getD piv.length []).getD c 0),()),()):=Am5.val _ _ hp hx;have hzero:A0I 0 (p-1) (zf w (0:Int)):=fun x hx=>by rw[(zK.1 hx).2];omega
   have hadd:=Ai3.val (zf w 0) ((A0p R piv.length (piv.length+j)).getD piv.length []) (inv_ p (((A0p R piv.length (piv.length+j)).getD piv.length []).getD c 0)) p hp hiv hzero r2.2 (by rw[zh];omega) (by rw[zh];omega);have o3:=A3L (h:=h) hp.1 o2 piv.length c;have hfin:∀ d:Int,Goes (fun k=>Ae0.l17 k (w:Int) p d (piv.length:Int) (w:Int) (c:Int) (h:Int) 0 (A3h p w piv.length c (A0p R piv.length (piv.length+j))) piv (c:Int)) (fun k=>Ae0.l4 k (w:Int) p d (w:Int) ((c+1:Nat):Int) (A0W p w c (R,piv)).1 (A0W p w c (R,piv)).2):=fun d=>by
     refine(A4r hp hh hw o3 ht hc d piv).trans (Goes.succ fun k=>?_);rw[Ae0.l17_eq,if_neg (by simp),if_pos (by simp only[zk,zn,bigA];omega),A0x (by omega),hs]
   by_cases j0:j=0
   . subst j0;have hsw:A0p R piv.length (piv.length+0)=R:=A3m (by omega);rw[hsw]at hin hadd hfin;refine⟨(zi.wrap (det*((R.getD piv.length []).getD c 0))).tmod p,Goes.trans (Goes.succ fun k=>?_) (hfin _)⟩;rw[hstart];simp only[za,e];rw[if_neg (by decide),if_neg (by decide),if_pos (idxI.2 (by omega))];simp only[zc];have hrw:=(o.at ht).1;rw[if_pos (idxI.2 (by omega)),if_neg (by omega),if_pos (by simp only[bigN];omega),if_pos (idxI.2 (by omega)),hin];simp only[za];rw[hadd];simp only[za];rw[if_pos (idxI.2 (by omega)),zA,hlen];rfl
   . refine⟨(zi.wrap ((zi.wrap ((zi.wrap (0-det)).tmod p+p)).tmod p*(((A0p R piv.length (piv.length+j)).getD piv.length []).getD c 0))).tmod p,Goes.trans (Goes.succ fun k=>?_) (hfin _)⟩;rw[hstart];simp only[za,e];rw[if_neg (by simp only[decide_eq_true_eq];omega),if_pos (by simp only[decide_eq_true_eq];omega)];have ew:zi.wrap ((piv.length:Int)+(j:Int))=((piv.length+j:Nat):Int):=by rw[A0q (by omega) (by omega)];omega
     simp only[ew,zc];have hl3:(R.set piv.length (R.getD (piv.length+j) [])).length=h:=by rw[zA];exact hlen
     have esw:(R.set piv.length (R.getD (piv.length+j) [])).set (piv.length+j) (R.getD piv.length [])=A0p R piv.length (piv.length+j):=rfl;rw[if_pos (idxI.2 (by omega)),if_pos (idxI.2 (by omega)),if_pos (idxI.2 (by omega)),if_pos (idxI.2 (by omega)),At0.eq,At0.T,if_neg (by omega),if_neg (by omega)];simp only[za,esw];rw[if_pos (idxI.2 (by omega)),if_pos (idxI.2 (by omega)),if_neg (by omega),if_pos (by simp only[bigN];omega),if_pos (idxI.2 (by omega)),hin];simp only[za];rw[hadd];simp only[za];rw[if_pos (idxI.2 (by omega)),zA,hl2];rfl
def gjN (p:Int) (w:Nat) (R:List (List Int)):Nat->List (List Int)×List Int
 | 0=>(R,[])
 | c+1=>A0W p w c (gjN p w R c)
theorem A4p {p:Int} {h w:Nat} {R:List (List Int)} (hp:2≤p) (o:RowsOk p h w R):∀ c,RowsOk p h w (gjN p w R c).1/\(gjN p w R c).2.length≤h
 | 0=>⟨o,zj _⟩
 | c+1=>by obtain⟨h1,h2⟩:=A4p hp o c;exact step_ok hp h1 h2
theorem Ae0.val {p:Int} {h w:Nat} (hp:2≤p/\p≤251) (hh:h≤4096) (hw:w≤256) {R:List (List Int)} (o:RowsOk p h w R):∃ det,Ae0.F (R,(w:Int),p,())=some (((gjN p w R w).2,det,()),((gjN p w R w).1,())):=by
 obtain⟨⟨det,s⟩,hs,hg⟩:=Goes.loop (R:=(List Int×Int×Unit)×(List (List Int)×Unit)) (fun k i (s:Int×(List (List Int)×List Int))=>Ae0.l4 k (w:Int) p s.1 (w:Int) (i:Int) s.2.1 s.2.2) w (fun i s=>s.2=gjN p w R i) (fun i s hi h2=>by
   obtain⟨o',hl'⟩:=A4p hp.1 o i;rw[<-h2]at o' hl';obtain⟨d,hd⟩:=A4s hp hh hw o' hi s.1 s.2.2 hl';exact⟨(d,A0W p w i s.2),by simp only[gjN,h2],hd⟩) 0 (1,(R,[])) (zj _) rfl
 have hs:s=gjN p w R w:=hs;refine⟨det,Ae0.of _ _ _ (Ev.of_eq (hg _ ((Ev.const _).succ fun k=>?_)) fun k=>rfl)⟩;rw[Ae0.l4_eq,if_neg (by simp),hs]
theorem mod_any {n p:Int} (hp:2≤p/\p≤251):(zi.wrap (n.tmod p+p)).tmod p=n%p:=by
 have hb:-p<n.tmod p/\n.tmod p<p:=by
   by_cases h:0≤n
   . rw[A2J h];have:=A1a (a:=n) hp.1;omega
   . have e:n.tmod p=-((-n).tmod p):=by rw[Int.neg_tmod];omega
     have h2:=A1a (a:=-n) hp.1;rw[e,A2J (by omega)];omega
 have e:n.tmod p=n-p*n.tdiv p:=by have:=Int.tmod_add_mul_tdiv n p;omega
 rw[A0q (by omega) (by omega),A2J (by omega),Int.add_emod_right,e,Int.sub_emod,Int.mul_emod_right,Int.sub_zero,yi]
theorem sub_val {p a f b:Int} (hp:2≤p/\p≤251) (ha:0≤a/\a≤p-1) (hf:0≤f/\f≤p-1) (hb:0≤b/\b≤p-1):As3.F (zi.wrap (a-zi.wrap (f*b)),p,())=some (((a+(p-f)*b)%p,()),()):=by
 have hm:=A1f hp hf hb;rw[A0q (x:=f*b) (by omega) (by omega),A0q (x:=a-f*b) (by omega) (by omega),As3.eq,As3.T,if_neg (by omega),if_neg (by omega),mod_any hp];have e:a+(p-f)*b=(a-f*b)+p*b:=by rw[Int.sub_mul];omega
 rw[e,Int.add_mul_emod_self_left]
theorem RowsOk.flat {p:Int} {h w:Nat} {R:List (List Int)} (o:RowsOk p h w R) {i j:Nat} (hi:i<h) (hj:j<w):R.flatten.getD (i*w+j) 0=(R.getD i []).getD j 0:=A3E (fun r hr=>(o.row r hr).1) (by rw[o.len];exact hi) hj
theorem RowsOk.flatSet {p:Int} {h w:Nat} {R:List (List Int)} (o:RowsOk p h w R) {i j:Nat} (v:Int) (hi:i<h) (hj:j<w):R.flatten.set (i*w+j) v=(R.set i ((R.getD i []).set j v)).flatten:=A4J v (fun r hr=>(o.row r hr).1) (by rw[o.len];exact hi) hj
theorem RowsOk.flatLen {p:Int} {h w:Nat} {R:List (List Int)} (o:RowsOk p h w R):R.flatten.length=h*w:=by rw[A1g fun r hr=>(o.row r hr).1,o.len]
theorem A3M {R:List (List Int)} {i:Nat} {x:List Int} (hi:i<R.length):(R.set i x).getD i []=x:=by simp[ze,hi]
theorem A3N {R:List (List Int)} {i j:Nat} {x:List Int} (h:i≠j):(R.set i x).getD j []=R.getD j []:=by simp[ze,zy,h]
theorem A3a {p:Int} {w:Nat} {f g:Nat->Int} (hf:∀ q,q<w->0≤f q/\f q≤p-1) (hg:∀ q,q<w->0≤g q/\g q≤p-1) (i:Nat):(mix w f g i).length=w/\A0I 0 (p-1) (mix w f g i):=by
 refine⟨A4k _ _ _ _,fun x hx=>?_⟩;unfold mix at hx;obtain⟨q,hq,rfl⟩:=zm.1 hx;have hq:=zl.1 hq;split
 . exact hf q hq
 . exact hg q hq
theorem RowsOk.cell {p:Int} {h w:Nat} {R:List (List Int)} (o:RowsOk p h w R) {i:Nat} (hi:i<h) (q:Nat) (hq:q<w):0≤(R.getD i []).getD q 0/\(R.getD i []).getD q 0≤p-1:=A0B (o.at hi).2 (by rw[(o.at hi).1];exact hq)
theorem A1U {p:Int} {h w:Nat} {R:List (List Int)} (o:RowsOk p h w R) {i:Nat} (hi:i<h):(zd w).map (fun q=>(R.getD i []).getD q 0)=R.getD i []:=by
 have:=A4A (R.getD i [])
 rwa [(o.at hi).1]at this
theorem A2T {R:List (List Int)} {i:Nat} (hi:i<R.length):R.set i (R.getD i [])=R:=by rw[A0y hi];exact yg hi
section
variable {p:Int} {h w:Nat} (hp:2≤p/\p≤251) (hh:h≤4096) (hw:w≤256) (xs:List Int) (e1 e2 e3:Int) (x18:List Int)
include hp hh hw
theorem A4f {R:List (List Int)} (o:RowsOk p h w R) {t:Nat} (ht:t<h) {c:Nat} (inv det:Int) (hi:0≤inv/\inv≤p-1) (piv:List Int) :
   Goes (fun k=>Aa1.l26 k p (h:Int) (w:Int) xs p (w:Int) det (t:Int) (c:Int) inv 0 e1 e2 e3 x18 p (h:Int) (w:Int) R.flatten piv)
     (fun k=>Aa1.l30 k p (h:Int) (w:Int) xs p (w:Int) det (t:Int) (c:Int) 0 e1 e2 e3 x18 p (h:Int) (w:Int) (R.set t (addL p inv (zf w 0) (R.getD t []))).flatten piv):=by
 have hlen:=o.len;have hf:∀ q,q<w->0≤((zf w (0:Int)).getD q 0+inv*(R.getD t []).getD q 0)%p/\((zf w (0:Int)).getD q 0+inv*(R.getD t []).getD q 0)%p≤p-1:=fun q hq=>A1a hp.1;obtain⟨s,hs,hg⟩:=Goes.loop (R:=((Int×Int×Int×List Int)×List Int×Int×Unit)×Unit) (fun k j (s:List (List Int))=>Aa1.l26 k p (h:Int) (w:Int) xs p (w:Int) det (t:Int) (c:Int) inv (j:Int) e1 e2 e3 x18 p (h:Int) (w:Int) s.flatten piv) w (fun j s=>s=R.set t (mix w (fun q=>((zf w (0:Int)).getD q 0+inv*(R.getD t []).getD q 0)%p) (fun q=>(R.getD t []).getD q 0) j)) (fun j s hj h2=>⟨_,rfl,Goes.succ fun k=>by
   have os:RowsOk p h w s:=by rw[h2];exact o.set (A3a hf (fun q hq=>o.cell ht q hq) j) t
   obtain⟨i1,i2⟩:=A0t hh hw ht hj;have hsl:=os.flatLen;have hst:s.getD t []=mix w (fun q=>((zf w (0:Int)).getD q 0+inv*(R.getD t []).getD q 0)%p) (fun q=>(R.getD t []).getD q 0) j:=by rw[h2,A3M (by omega)]
   have hget:s.flatten.getD (t*w+j) 0=(R.getD t []).getD j 0:=by rw[os.flat ht hj,hst,A1L _ _ _ _ hj,if_neg (by omega)]
   have hval:(zi.wrap ((R.getD t []).getD j 0*inv)).tmod p=((zf w (0:Int)).getD j 0+inv*(R.getD t []).getD j 0)%p:=by
     have hc:=o.cell ht j hj;have hm:=A1f hp hc hi;rw[A0q (by omega) (by omega),A2J (by omega),Int.mul_comm];have:(zf w (0:Int)).getD j 0=0:=by simp[ze,zG,hj]
     rw[this,yl]
   rw[Aa1.l26_eq,if_pos (ltI.2 hj),i1,if_pos (idxI.2 (by omega)),if_neg (by omega),if_pos (idxI.2 (by omega))];simp only[zc];rw[hget,hval,os.flatSet _ ht hj,hst,A2v (fun q=>((zf w (0:Int)).getD q 0+inv*(R.getD t []).getD q 0)%p) (fun q=>(R.getD t []).getD q 0) hj,A0x (by omega),h2,z6]⟩) 0 R (zj _) (by rw[A1S,A1U o ht,A2T (by omega)])
 refine hg.trans (Goes.succ fun k=>?_);rw[Aa1.l26_eq,if_neg (by simp),hs,A2x];have:addL p inv (zf w 0) (R.getD t [])=(zd w).map fun q=>((zf w (0:Int)).getD q 0+inv*(R.getD t []).getD q 0)%p:=by rw[addL,zh]
 rw[this]
theorem A5f {R:List (List Int)} (o:RowsOk p h w R) {t i:Nat} (ht:t<h) (hi:i<h) (hne:i≠t) {c:Nat} (f det:Int) (hf:0≤f/\f≤p-1) (piv:List Int) :
   Goes (fun k=>Aa1.l35 k p (h:Int) (w:Int) xs p (w:Int) det (t:Int) (c:Int) (i:Int) f 0 e1 e2 e3 x18 p (h:Int) (w:Int) R.flatten piv)
     (fun k=>Aa1.l30 k p (h:Int) (w:Int) xs p (w:Int) det (t:Int) (c:Int) ((i+1:Nat):Int) e1 e2 e3 x18 p (h:Int) (w:Int) (R.set i (addL p (p-f) (R.getD i []) (R.getD t []))).flatten piv):=by
 have hlen:=o.len;have hfm:∀ q,q<w->0≤((R.getD i []).getD q 0+(p-f)*(R.getD t []).getD q 0)%p/\((R.getD i []).getD q 0+(p-f)*(R.getD t []).getD q 0)%p≤p-1:=fun q hq=>A1a hp.1;obtain⟨s,hs,hg⟩:=Goes.loop (R:=((Int×Int×Int×List Int)×List Int×Int×Unit)×Unit) (fun k j (s:List (List Int))=>Aa1.l35 k p (h:Int) (w:Int) xs p (w:Int) det (t:Int) (c:Int) (i:Int) f (j:Int) e1 e2 e3 x18 p (h:Int) (w:Int) s.flatten piv) w (fun j s=>s=R.set i (mix w (fun q=>((R.getD i []).getD q 0+(p-f)*(R.getD t []).getD q 0)%p) (fun q=>(R.getD i []).getD q 0) j)) (fun j s hj h2=>⟨_,rfl,Goes.succ fun k=>by
   have os:RowsOk p h w s:=by rw[h2];exact o.set (A3a hfm (fun q hq=>o.cell hi q hq) j) i
   obtain⟨i1,i2⟩:=A0t hh hw hi hj;obtain⟨t1,t2⟩:=A0t hh hw ht hj;have hsl:=os.flatLen;have hsi:s.getD i []=mix w (fun q=>((R.getD i []).getD q 0+(p-f)*(R.getD t []).getD q 0)%p) (fun q=>(R.getD i []).getD q 0) j:=by rw[h2,A3M (by omega)]
   have g1:s.flatten.getD (i*w+j) 0=(R.getD i []).getD j 0:=by rw[os.flat hi hj,hsi,A1L _ _ _ _ hj,if_neg (by omega)]
   have g2:s.flatten.getD (t*w+j) 0=(R.getD t []).getD j 0:=by rw[os.flat ht hj,h2,A3N hne]
   rw[Aa1.l35_eq,if_pos (ltI.2 hj),i1,t1,if_pos (idxI.2 (by omega)),if_pos (idxI.2 (by omega))];simp only[zc];rw[g1,g2,sub_val hp (o.cell hi j hj) hf (o.cell ht j hj)];simp only[za];rw[if_pos (idxI.2 (by omega)),os.flatSet _ hi hj,hsi,A2v (fun q=>((R.getD i []).getD q 0+(p-f)*(R.getD t []).getD q 0)%p) (fun q=>(R.getD i []).getD q 0) hj,A0x (by omega),h2,z6]⟩) 0 R (zj _) (by rw[A1S,A1U o hi,A2T (by omega)])
 refine hg.trans (Goes.succ fun k=>?_);rw[Aa1.l35_eq,if_neg (by simp),hs,A2x,A0x (by omega)];have:addL p (p-f) (R.getD i []) (R.getD t [])=(zd w).map fun q=>((R.getD i []).getD q 0+(p-f)*(R.getD t []).getD q 0)%p:=by rw[addL,(o.at hi).1]
 rw[this]
theorem A4e {R:List (List Int)} (o:RowsOk p h w R) {t c:Nat} (ht:t<h) (hc:c<w) (det:Int) (piv:List Int) :
   Goes (fun k=>Aa1.l30 k p (h:Int) (w:Int) xs p (w:Int) det (t:Int) (c:Int) 0 e1 e2 e3 x18 p (h:Int) (w:Int) R.flatten piv)
     (fun k=>Aa1.l30 k p (h:Int) (w:Int) xs p (w:Int) det (t:Int) (c:Int) (h:Int) e1 e2 e3 x18 p (h:Int) (w:Int) (A2G p t c R).flatten piv):=by
 have hlen:=o.len;have hok:∀ i,RowsOk p h w (mix h (A0f p t c R) (fun q=>R.getD q []) i):=fun i=>⟨A4k _ _ _ _,fun r hr=>by
   unfold mix at hr;obtain⟨q,hq,rfl⟩:=zm.1 hr;have hq:=zl.1 hq;have:=o.at hq;unfold A0f;split
   . split
     . exact this
     . exact⟨by rw[A0n];exact this.1,A3p hp.1 _ _⟩
   . exact this⟩
 obtain⟨s,hs,hg⟩:=Goes.loop (R:=((Int×Int×Int×List Int)×List Int×Int×Unit)×Unit) (fun k i (s:List (List Int))=>Aa1.l30 k p (h:Int) (w:Int) xs p (w:Int) det (t:Int) (c:Int) (i:Int) e1 e2 e3 x18 p (h:Int) (w:Int) s.flatten piv) h (fun i s=>s=mix h (A0f p t c R) (fun q=>R.getD q []) i) (fun i s hi h2=>⟨_,rfl,by
   have os:RowsOk p h w s:=by rw[h2];exact hok i
   obtain⟨i1,i2⟩:=A0t hh hw hi hc;have hsl:=os.flatLen;have g1:s.getD i []=R.getD i []:=by rw[h2,A1L _ _ _ _ hi,if_neg (by omega)]
   have g2:s.getD t []=R.getD t []:=by
     rw[h2,A1L _ _ _ _ ht];split
     . exact A1P p t c R
     . rfl
   have hcell:s.flatten.getD (i*w+c) 0=(R.getD i []).getD c 0:=by rw[os.flat hi hc,g1]
   have E:∀ k,Aa1.l30 (k+1) p (h:Int) (w:Int) xs p (w:Int) det (t:Int) (c:Int) (i:Int) e1 e2 e3 x18 p (h:Int) (w:Int) s.flatten piv=_:=fun k=>by
     rw[Aa1.l30_eq,if_pos (ltI.2 hi),i1,if_pos (idxI.2 (by omega)),A0x (show i<4611686018427387904 by omega),zc,hcell]
   by_cases e:i=t
   . subst e;rw[<-A2S h (f:=A0f p i c R) (g:=fun q=>R.getD q []) (A1P p i c R)]at h2;refine Goes.succ fun k=>?_;rw[E,if_pos (by simp),h2]
   . by_cases z:(R.getD i []).getD c 0=0
     . rw[<-A2S h (f:=A0f p t c R) (g:=fun q=>R.getD q []) (show A0f p t c R i=R.getD i []from if_pos (.inr z))]at h2;refine Goes.succ fun k=>?_;rw[E,if_neg (by simp only[beq_iff_eq];omega),if_pos (by rw[z];decide),h2]
     . have ea:A0f p t c R i=addL p (p-(R.getD i []).getD c 0) (R.getD i []) (R.getD t []):=if_neg (by rintro(h|h)<;>contradiction);have hx:=o.cell hi c hc;have hrow:=A5f hp hh hw xs e1 e2 e3 x18 os ht hi e (c:=c) ((R.getD i []).getD c 0) det hx piv;rw[g1,g2,<-ea,h2,A2v (A0f p t c R) (fun q=>R.getD q []) hi,<-h2]at hrow;refine Goes.trans (Goes.succ fun k=>?_) hrow;rw[E,if_neg (by simp only[beq_iff_eq];omega),if_neg (by rw[beq_iff_eq];exact z)]⟩) 0 R (zj _) (by rw[A1S,<-hlen,A1T])
 have e:A2G p t c R=(zd h).map (A0f p t c R):=by rw[A2G,hlen]
 rw[hs,A2x]at hg;rw[e];exact hg
theorem A5G {R:List (List Int)} (o:RowsOk p h w R) {t a:Nat} (ht:t<h) (ha:a<h) (hne:t≠a) (c:Nat) (det:Int) (piv:List Int) :
   Goes (fun k=>Aa1.l17 k p (h:Int) (w:Int) xs p (w:Int) det (t:Int) (c:Int) (a:Int) 0 e1 e2 e3 x18 p (h:Int) (w:Int) R.flatten piv)
     (fun k=>Aa1.l17 k p (h:Int) (w:Int) xs p (w:Int) det (t:Int) (c:Int) (a:Int) (w:Int) e1 e2 e3 x18 p (h:Int) (w:Int) (A0p R t a).flatten piv):=by
 have _:=hp;have hlen:=o.len;obtain⟨s,hs,hg⟩:=Goes.loop (R:=((Int×Int×Int×List Int)×List Int×Int×Unit)×Unit) (fun k j (s:List (List Int))=>Aa1.l17 k p (h:Int) (w:Int) xs p (w:Int) det (t:Int) (c:Int) (a:Int) (j:Int) e1 e2 e3 x18 p (h:Int) (w:Int) s.flatten piv) w (fun j s=>s=(R.set t (mix w (fun q=>(R.getD a []).getD q 0) (fun q=>(R.getD t []).getD q 0) j)).set a (mix w (fun q=>(R.getD t []).getD q 0) (fun q=>(R.getD a []).getD q 0) j)) (fun j s hj h2=>⟨_,rfl,Goes.succ fun k=>by
   have os:RowsOk p h w s:=by rw[h2];exact(o.set (A3a (fun q hq=>o.cell ha q hq) (fun q hq=>o.cell ht q hq) j) t).set (A3a (fun q hq=>o.cell ht q hq) (fun q hq=>o.cell ha q hq) j) a
   obtain⟨i1,i2⟩:=A0t hh hw ht hj;obtain⟨a1,a2⟩:=A0t hh hw ha hj;have hsl:=os.flatLen;have st:s.getD t []=mix w (fun q=>(R.getD a []).getD q 0) (fun q=>(R.getD t []).getD q 0) j:=by rw[h2,A3N (Ne.symm hne),A3M (by omega)]
   have sa:s.getD a []=mix w (fun q=>(R.getD t []).getD q 0) (fun q=>(R.getD a []).getD q 0) j:=by rw[h2,A3M (by rw[zA];omega)]
   have g1:s.flatten.getD (t*w+j) 0=(R.getD t []).getD j 0:=by rw[os.flat ht hj,st,A1L _ _ _ _ hj,if_neg (by omega)]
   have g2:s.flatten.getD (a*w+j) 0=(R.getD a []).getD j 0:=by rw[os.flat ha hj,sa,A1L _ _ _ _ hj,if_neg (by omega)]
   have f1:s.flatten.set (a*w+j) ((R.getD t []).getD j 0)=(s.set a (mix w (fun q=>(R.getD t []).getD q 0) (fun q=>(R.getD a []).getD q 0) (j+1))).flatten:=by rw[os.flatSet _ ha hj,sa,A2v (fun q=>(R.getD t []).getD q 0) (fun q=>(R.getD a []).getD q 0) hj]
   have os2:RowsOk p h w (s.set a (mix w (fun q=>(R.getD t []).getD q 0) (fun q=>(R.getD a []).getD q 0) (j+1))):=os.set (A3a (fun q hq=>o.cell ht q hq) (fun q hq=>o.cell ha q hq) (j+1)) a;have f2:(s.set a (mix w (fun q=>(R.getD t []).getD q 0) (fun q=>(R.getD a []).getD q 0) (j+1))).flatten.set (t*w+j) ((R.getD a []).getD j 0)=((R.set t (mix w (fun q=>(R.getD a []).getD q 0) (fun q=>(R.getD t []).getD q 0) (j+1))).set a (mix w (fun q=>(R.getD t []).getD q 0) (fun q=>(R.getD a []).getD q 0) (j+1))).flatten:=by
     rw[os2.flatSet _ ht hj,A3N (Ne.symm hne),st,A2v (fun q=>(R.getD a []).getD q 0) (fun q=>(R.getD t []).getD q 0) hj,h2,z6,List.set_comm _ _ (Ne.symm hne),z6]
   have hl2:=os2.flatLen;rw[Aa1.l17_eq,if_pos (ltI.2 hj),i1,a1,if_pos (idxI.2 (by omega)),if_pos (idxI.2 (by omega)),if_pos (idxI.2 (by omega))];simp only[zc,g1,g2,f1];rw[if_pos (idxI.2 (by omega)),f2,A0x (by omega)]⟩) 0 R (zj _) (by rw[A1S,A1S,A1U o ht,A1U o ha,A2T (by omega),A2T (by omega)])
 rw[hs,A2x,A2x,A1U o ht,A1U o ha]at hg;exact hg
theorem A5E {R:List (List Int)} (o:RowsOk p h w R) {t c:Nat} (ht:t≤h) (hc:c<w) (det:Int) (piv:List Int) :
   Goes (fun k=>Aa1.l11 k p (h:Int) (w:Int) xs p (w:Int) det (t:Int) (c:Int) (t:Int) e1 e2 e3 x18 p (h:Int) (w:Int) R.flatten piv)
     (fun k=>Aa1.l11 k p (h:Int) (w:Int) xs p (w:Int) det (t:Int) (c:Int) ((pivA R t c:Nat):Int) e1 e2 e3 x18 p (h:Int) (w:Int) R.flatten piv):=by
 have _:=hp;have hlen:=o.len;obtain⟨p1,p2,p3,-⟩:=A3c R t c (by omega);obtain⟨s,hs,hg⟩:=Goes.loop (R:=((Int×Int×Int×List Int)×List Int×Int×Unit)×Unit) (fun k i (_:Unit)=>Aa1.l11 k p (h:Int) (w:Int) xs p (w:Int) det (t:Int) (c:Int) (i:Int) e1 e2 e3 x18 p (h:Int) (w:Int) R.flatten piv) (pivA R t c) (fun i _=>t≤i) (fun i s hi h2=>⟨(),by omega,Goes.succ fun k=>by
   obtain⟨i1,i2⟩:=A0t hh hw (show i<h by omega) hc;have hsl:=o.flatLen;rw[Aa1.l11_eq,if_pos (ltI.2 (by omega)),i1,if_pos (idxI.2 (by omega)),zc,o.flat (by omega) hc,p3 i h2 hi,if_pos (by decide),A0x (by omega)]⟩) t () p1 (zp _)
 exact hg
theorem A5F {R:List (List Int)} (o:RowsOk p h w R) {c:Nat} (hc:c<w) (det:Int) (piv:List Int) (hl:piv.length<h) :
   ∃ det',Goes (fun k=>Aa1.l8 k p (h:Int) (w:Int) xs p (w:Int) det (piv.length:Int) (c:Int) e1 e2 e3 x18 p (h:Int) (w:Int) R.flatten piv)
     (fun k=>Aa1.l8 k p (h:Int) (w:Int) xs p (w:Int) det' ((A0W p w c (R,piv)).2.length:Int) ((c+1:Nat):Int) e1 e2 e3 x18 p (h:Int) (w:Int) (A0W p w c (R,piv)).1.flatten (A0W p w c (R,piv)).2):=by
 have hlen:=o.len;obtain⟨p1,p2,p3,p4⟩:=A3c R piv.length c (by omega);have start:Goes (fun k=>Aa1.l8 k p (h:Int) (w:Int) xs p (w:Int) det (piv.length:Int) (c:Int) e1 e2 e3 x18 p (h:Int) (w:Int) R.flatten piv) (fun k=>Aa1.l11 k p (h:Int) (w:Int) xs p (w:Int) det (piv.length:Int) (c:Int) ((pivA R piv.length c:Nat):Int) e1 e2 e3 x18 p (h:Int) (w:Int) R.flatten piv):=Goes.trans (Goes.succ fun k=>by
   rw[Aa1.l8_eq,if_pos (ltI.2 hc),if_pos (ltI.2 hl)]) (A5E hp hh hw xs e1 e2 e3 x18 o (yk hl) hc det piv)
 by_cases hpv:pivA R piv.length c<R.length
 . have hnz:=p4 hpv;have ha:pivA R piv.length c<h:=by omega
   have hs:A0W p w c (R,piv)=(A2G p piv.length c (A3h p w piv.length c (A0p R piv.length (pivA R piv.length c))),piv++[(c:Int)]):=if_pos hpv;have o2:=A4D o hl ha;have hx:=o2.cell hl c hc;have hiv:=A5p hp.1 (((A0p R piv.length (pivA R piv.length c)).getD piv.length []).getD c 0);have hin:Ai0.F (((A0p R piv.length (pivA R piv.length c)).getD piv.length []).getD c 0,p,())=some ((inv_ p (((A0p R piv.length (pivA R piv.length c)).getD piv.length []).getD c 0),()),()):=Ai0.val _ _ hp hx;have o3:=A3L (h:=h) hp.1 o2 piv.length c;obtain⟨c1,c2⟩:=A0t hh hw hl hc;have hfl:=o2.flat hl hc;have hfll:=o2.flatLen;have hfin:∀ d:Int,Goes (fun k=>Aa1.l26 k p (h:Int) (w:Int) xs p (w:Int) d (piv.length:Int) (c:Int) (inv_ p (((A0p R piv.length (pivA R piv.length c)).getD piv.length []).getD c 0)) 0 e1 e2 e3 x18 p (h:Int) (w:Int) (A0p R piv.length (pivA R piv.length c)).flatten piv)
       (fun k=>Aa1.l8 k p (h:Int) (w:Int) xs p (w:Int) d ((A0W p w c (R,piv)).2.length:Int) ((c+1:Nat):Int) e1 e2 e3 x18 p (h:Int) (w:Int) (A0W p w c (R,piv)).1.flatten (A0W p w c (R,piv)).2):=fun d=>by
     refine(A4f hp hh hw xs e1 e2 e3 x18 o2 hl (c:=c) _ d hiv piv).trans ((A4e hp hh hw xs e1 e2 e3 x18 o3 hl hc d piv).trans (Goes.succ fun k=>?_));rw[Aa1.l30_eq,if_neg (by simp),if_pos (by simp only[zk,zn,bigA];omega),A0x (by omega),A0x (by omega),hs];simp only[zg,zk,zn,Nat.zero_add]
   by_cases e:pivA R piv.length c=piv.length
   . have hsw:A0p R piv.length (pivA R piv.length c)=R:=by rw[e];exact A3m (by omega)
     rw[hsw]at hin hfin hfl hfll;refine⟨(zi.wrap (det*(R.getD piv.length []).getD c 0)).tmod p,start.trans (Goes.trans (Goes.succ fun k=>?_) (hfin _))⟩;rw[e]at hnz ⊢;rw[Aa1.l11_eq,if_pos (ltI.2 hl),c1,if_pos (idxI.2 (by omega)),zc,hfl,if_neg (by rw[beq_iff_eq];exact hnz),if_neg (by simp only[beq_iff_eq];omega),if_neg (by simp),if_pos (idxI.2 (by omega)),if_neg (by omega),hin];rfl
   . refine⟨(zi.wrap (zi.wrap (p-det)*((A0p R piv.length (pivA R piv.length c)).getD piv.length []).getD c 0)).tmod p,start.trans (Goes.trans (B:=fun k=>Aa1.l17 k p (h:Int) (w:Int) xs p (w:Int) (zi.wrap (p-det)) (piv.length:Int) (c:Int) ((pivA R piv.length c:Nat):Int) 0 e1 e2 e3 x18 p (h:Int) (w:Int) R.flatten piv) (Goes.succ fun k=>?_) ((A5G hp hh hw xs e1 e2 e3 x18 o hl ha (Ne.symm e) c (zi.wrap (p-det)) piv).trans (Goes.trans (Goes.succ fun k=>?_) (hfin _))))⟩
     . obtain⟨d1,d2⟩:=A0t hh hw ha hc;have hf0:=o.flat ha hc;have hfl0:=o.flatLen;rw[Aa1.l11_eq,if_pos (ltI.2 ha),d1,if_pos (idxI.2 (by omega)),zc,hf0,if_neg (by rw[beq_iff_eq];exact hnz),if_neg (by simp only[beq_iff_eq];omega),if_pos (by rw[bne_iff_ne];omega)]
     . rw[Aa1.l17_eq,if_neg (by simp),c1,if_pos (idxI.2 (by omega)),if_neg (by omega),zc,hfl,hin];rfl
 . have hs:A0W p w c (R,piv)=(R,piv):=if_neg hpv;refine⟨det,start.trans (Goes.succ fun k=>?_)⟩;rw[Aa1.l11_eq,if_neg (by simp only[decide_eq_true_eq];omega),if_pos (by simp only[beq_iff_eq];omega),A0x (by omega),hs]
end
theorem Aa1.val {p:Int} {h w:Nat} (hp:2≤p/\p≤251) (hh:h≤4096) (hw:w≤256) {R:List (List Int)} (o:RowsOk p h w R):∃ det,Aa1.F ((p,((h:Int),((w:Int),R.flatten))),())=some (((p,(h:Int),(w:Int),(gjN p w R w).1.flatten),(gjN p w R w).2,det,()),()):=by
 have hfl:=o.flatLen;have h1:h*w≤4096*256:=zN hh hw;have run:∀ i,i≤w->∀ det,∃ det',Goes (fun k=>Aa1.l8 k p (h:Int) (w:Int) R.flatten p (w:Int) det ((gjN p w R (w-i)).2.length:Int) ((w-i:Nat):Int) 0 0 0 [] p (h:Int) (w:Int) (gjN p w R (w-i)).1.flatten (gjN p w R (w-i)).2) (fun _=>some (((p,(h:Int),(w:Int),(gjN p w R w).1.flatten),(gjN p w R w).2,det',()),())):=by
   intro i;induction i with
   | zero =>
     intro _ det;refine⟨det,Goes.succ fun k=>?_⟩;rw[Nat.sub_zero,Aa1.l8_eq,if_neg (by simp)]
   | succ i ih =>
     intro hi det;obtain⟨o',hl'⟩:=A4p hp.1 o (w-(i+1));have e:w-i=(w-(i+1))+1:=by omega
     by_cases hfull:(gjN p w R (w-(i+1))).2.length<h
     . obtain⟨d1,g1⟩:=A5F hp hh hw R.flatten 0 0 0 [] o' (c:=w-(i+1)) (by omega) det _ hfull;obtain⟨d2,g2⟩:=ih (by omega) d1;rw[e]at g2;exact⟨d2,g1.trans g2⟩
     . have stay:∀ j,gjN p w R (w-(i+1)+j)=gjN p w R (w-(i+1)):=by
         intro j;induction j with
         | zero=>rfl
         | succ j ihj =>
           show A0W p w _ (gjN p w R (w-(i+1)+j))=_;rw[ihj];exact A5J (by rw[o'.len];omega)
       have hw2:gjN p w R w=gjN p w R (w-(i+1)):=by have:=stay (i+1);rwa [show w-(i+1)+(i+1)=w by omega]at this
       refine⟨det,Goes.succ fun k=>?_⟩;rw[Aa1.l8_eq,if_pos (ltI.2 (by omega)),if_neg (by simp only[decide_eq_true_eq];omega),hw2]
 obtain⟨det,g⟩:=run w (zp _) 1;rw[yn]at g;refine⟨det,Aa1.of _ _ _ _ (Ev.of_eq (g _ (Ev.const _)) fun k=>?_)⟩;rw[Aa1.T,Aa3.val _ (by omega)];rfl
theorem rows_ok {m:MatV} (h:MatOk m) {R C:Nat} (hr:m.2.1=(R:Int)) (hc:m.2.2.1=(C:Int)) (hl:m.2.2.2.length=R*C):RowsOk m.1 R C (A0m m.2.2.2 R C):=by
 refine⟨by simp[A0m],fun r hr'=>?_⟩;unfold A0m at hr';obtain⟨i,hi,rfl⟩:=zm.1 hr';exact⟨A0P hl (zl.1 hi),fun x hx=>h.2.2.2.2 x (A1o hx)⟩
theorem A2h {w:Nat} {R:List (List Int)} (h:∀ r∈R,r.length=w) {i:Nat} (hi:i<R.length):rowL R.flatten w i=R.getD i []:=by
 have hl:R.flatten.length=R.length*w:=by
   clear hi;induction R with
   | nil=>simp
   | cons r R ih=>rw[zB,zg,ih fun x hx=>h x (by simp[hx]),h r (by simp),zk,zL];omega
 have h1:=A0P hl hi;have h2:=h _ (A0z [] hi);refine zx (by rw[h1,h2]) fun j hj hj'=>?_;have e1:=A1A (xs:=R.flatten) (C:=w) (i:=i) (k:=j) (by omega);rw[A3E h hi (by omega),A0y hj,A0y hj']at e1;exact e1
theorem A3g {w:Nat} {R:List (List Int)} (h:∀ r∈R,r.length=w):A0m R.flatten R.length w=R:=by
 refine zx (by rw[A0h]) fun i hi hi'=>?_;have e:=A2w R.flatten (R:=R.length) (C:=w) (i:=i) hi';rw[A2h h hi',A0y hi,A0y hi']at e;exact e
theorem A4I {w:Nat}:∀ {R:List (List Int)},(∀ r∈R,r.length≤w)->R.flatten.length≤R.length*w
 | [],_=>by simp
 | r::R,h=>by
   have:=A4I (R:=R) fun x hx=>h x (by simp[hx]);have:=h r (by simp);rw[zB,zg,zk,zL];omega
theorem A1j {w:Nat} {R:List (List Int)} (h:∀ r∈R,r.length≤w) (i:Nat):(R.take i).flatten.length≤R.length*w:=by
 have:=A4I (R:=R.take i) fun x hx=>h x (List.mem_of_mem_take hx);rw[z4]at this;exact ym this (zP w (Nat.min_le_right _ _))
theorem A1v {R:List (List Int)} {i:Nat} (hi:i<R.length):(R.take (i+1)).flatten=(R.take i).flatten++R.getD i []:=by
 rw[zY,zE hi,zW,List.flatten_append,A0y hi];simp
theorem Aa8.val {w:Nat} (R:List (List Int)) (hn:R.length≤4096) (hw:w≤256) (h:∀ r∈R,r.length≤w):Aa8.F (R,())=some ((R.flatten,()),()):=by
 have hb:R.length*w≤4096*256:=zN hn hw;refine Aa8.of _ ?_;obtain⟨s,hs,hg⟩:=Goes.loop (R:=((List Int×Unit)×Unit)) (fun k i (s:Int)=>Aa8.l3 k R s R (R.length:Int) (i:Int)) R.length (fun i s=>s=(((R.take i).flatten.length:Nat):Int)) (fun i s hi h2=>⟨_,rfl,Goes.succ fun k=>by
   have h3:=A1j h i;have h4:=h _ (A0z [] hi);have e:s+((R.getD i []).length:Int)=(((R.take (i+1)).flatten.length:Nat):Int):=by rw[A1v hi,zg,h2];simp
   have h5:=A1j h (i+1);rw[Aa8.l3_eq,if_pos (ltI.2 hi),if_pos (idxI.2 hi),zc,e,A0q (by omega) (by omega),if_neg (by simp only[decide_eq_true_eq];omega),A0x (by omega)]⟩) 0 0 (zj _) (by simp)
 refine Ev.of_eq (hg _ ?_) fun k=>by rw[Aa8.T];rfl
 obtain⟨t,ht,hg2⟩:=Goes.loop (R:=((List Int×Unit)×Unit)) (fun k i (s:List Int)=>Aa8.l11 k R (R.length:Int) (i:Int) s) R.length (fun i s=>s=(R.take i).flatten) (fun i s hi h2=>⟨_,rfl,Goes.succ fun k=>by
   have h3:=A1j h (i+1);rw[A1v hi,zg]at h3;rw[Aa8.l11_eq,if_pos (ltI.2 hi),if_pos (idxI.2 hi),zc,h2,if_pos (by simp only[bigA];omega),A0x (by omega),A1v hi]⟩) 0 [] (zj _) (by simp)
 refine Ev.succ (hg2 _ ((Ev.const _).succ fun k=>?_)) fun k=>?_
 . rw[Aa8.l11_eq,if_neg (by simp),ht,z3]
 . have h3:=A1j h R.length;rw[Aa8.l3_eq,if_neg (by simp),hs,if_pos (by simp only[bigN];omega)];rfl
theorem Al5.val {p:Int} {w:Nat} (hw:w≤256) {R:List (List Int)} (hn:R.length≤4096) (h:∀ r∈R,r.length≤w):Al5.F (p,(w:Int),R,())=some (((p,(R.length:Int),(w:Int),R.flatten),()),()):=by
 have hb:R.length*w≤4096*256:=zN hn hw;refine Al5.of _ _ _ ?_;obtain⟨t,ht,hg2⟩:=Goes.loop (R:=(((Int×Int×Int×List Int)×Unit)×Unit)) (fun k i (s:List Int)=>Al5.l3 k R (i:Int) 0 0 0 [] p (R.length:Int) (w:Int) s) R.length (fun i s=>s=(R.take i).flatten) (fun i s hi h2=>⟨_,rfl,Goes.succ fun k=>by
   have h3:=A1j h (i+1);rw[A1v hi,zg]at h3;rw[Al5.l3_eq,if_pos (ltI.2 hi),if_pos (idxI.2 hi),zc,h2,if_pos (by simp only[bigA];omega),A0x (by omega),A1v hi]⟩) 0 [] (zj _) (by simp)
 refine Ev.of_eq (hg2 _ ((Ev.const _).succ fun k=>?_)) fun k=>rfl;rw[Al5.l3_eq,if_neg (by simp),ht,z3]
def augR (R:List (List Int)) (b:List Int):List (List Int):=(zd R.length).map fun i=>R.getD i []++[b.getD i 0]
theorem A5m {p:Int} {h w:Nat} {R:List (List Int)} (o:RowsOk p h w R) {b:List Int} (hb:b.length=h) (hi:A0I 0 (p-1) b):RowsOk p h (w+1) (augR R b):=by
 refine⟨by simp[augR,o.len],fun r hr=>?_⟩;unfold augR at hr;obtain⟨i,hi',rfl⟩:=zm.1 hr;have hi':=zl.1 hi';rw[o.len]at hi';obtain⟨h1,h2⟩:=o.at hi';refine⟨by rw[zg,h1];rfl,fun x hx=>?_⟩;rcases zw.1 hx with hx|hx
 . exact h2 x hx
 . rw[yj.1 hx];exact hi _ (A0z 0 (by omega))
theorem A5o {p:Int} {w:Nat} {R:List (List Int)}:∀ c,∀ x∈(gjN p w R c).2,∃ j:Nat,j<c/\x=(j:Int):=by
 intro c;induction c with
 | zero=>intro x hx;cases hx
 | succ c ih =>
   intro x hx;rw[gjN]at hx;unfold A0W at hx;split at hx
   . rcases zw.1 hx with hx|hx
     . obtain⟨j,h1,h2⟩:=ih x hx;exact⟨j,by omega,h2⟩
     . exact⟨c,by omega,yj.1 hx⟩
   . obtain⟨j,h1,h2⟩:=ih x hx;exact⟨j,by omega,h2⟩
def solF (w:Nat) (E:List (List Int)) (P:List Int):Nat->Nat->List Int->List Int×Bool
 | 0,_,x=>(x,true)
 | j+1,i,x=>if P.getD i 0=(w:Int)then([],false)else solF w E P j (i+1) (x.set (P.getD i 0).toNat ((E.getD i []).getD w 0))
def solV (p:Int) (w:Nat) (R:List (List Int)) (b:List Int):List Int×Bool:=solF w (gjN p (w+1) (augR R b) (w+1)).1 (gjN p (w+1) (augR R b) (w+1)).2 (gjN p (w+1) (augR R b) (w+1)).2.length 0 (zf w 0)
theorem A3O {w:Nat} {E:List (List Int)} {P:List Int}:∀ j i x,x.length=w->(solF w E P j i x).2=true->(solF w E P j i x).1.length=w:=by
 intro j;induction j with
 | zero=>intro i x h _;exact h
 | succ j ih =>
   intro i x h h2;unfold solF at h2 ⊢;split
   . rename_i hc;rw[if_pos hc]at h2;cases h2
   . rename_i hc;rw[if_neg hc]at h2;exact ih _ _ (by simpa using h) h2
theorem A3i {w:Nat} {E:List (List Int)} {P:List Int} (j i:Nat) (x:List Int) (c:Nat) (hc:P.getD i 0=(c:Int)) (hcw:c<w):solF w E P (j+1) i x=solF w E P j (i+1) (x.set c ((E.getD i []).getD w 0)):=by
 rw[solF,if_neg (by omega),hc,zc]
theorem Ae9.fill {w h:Nat} {p:Int} {E:List (List Int)} {P:List Int} (o:RowsOk p h (w+1) E) (hl:P.length≤h) (hh:h≤4096) (hw:w≤255) (hP:∀ x∈P,∃ j:Nat,j<w+1/\x=(j:Int)) (x18 x19:Int) (x21:List Int):∀ j i x,i+j=P.length->x.length=w →
   Ev (fun k=>Ae9.l10 k (P.length:Int) (i:Int) x18 x19 (w:Int) x21 E x P) (((solF w E P j i x).1,(solF w E P j i x).2,()),()):=by
 intro j;induction j with
 | zero =>
   intro i x hi hx;refine(Ev.const _).succ fun k=>?_;rw[Ae9.l10_eq,if_neg (by simp only[decide_eq_true_eq];omega)];rfl
 | succ j ih =>
   intro i x hi hx;have hip:i<P.length:=by omega
   obtain⟨c,c1,c2⟩:=hP _ (A0z 0 hip);have oa:=o.at (show i<h by omega);by_cases hc:P.getD i 0=(w:Int)
   . refine(Ev.const _).succ fun k=>?_;rw[Ae9.l10_eq,if_pos (ltI.2 hip),if_pos (idxI.2 hip)];simp only[zc];rw[if_pos (by rw[beq_iff_eq];exact hc),solF,if_pos hc]
   . have hcw:c<w:=by rw[c2]at hc;omega
     rw[A3i j i x c c2 hcw];refine(ih (i+1) (x.set c ((E.getD i []).getD w 0)) (by omega) (by simpa using hx)).succ fun k=>?_;rw[Ae9.l10_eq,if_pos (ltI.2 hip),if_pos (idxI.2 hip)];simp only[zc];rw[if_neg (by rw[beq_iff_eq];exact hc),if_pos (idxI.2 (by rw[o.len];omega)),if_pos (idxI.2 (by rw[oa.1];omega)),c2];simp only[zc];rw[if_pos (idxI.2 (by omega)),A0x (by omega)]
theorem Ae9.val {p:Int} {h w:Nat} (hp:2≤p/\p≤251) (hh:h≤4096) (hw:w≤255) {R:List (List Int)} (o:RowsOk p h w R) {b:List Int} (hb:b.length=h) (hbi:A0I 0 (p-1) b):Ae9.F ((p,(h:Int),(w:Int),R.flatten),b,())=some (((solV p w R b).1,(solV p w R b).2,()),()):=by
 have oa:=A5m o hb hbi;obtain⟨det,hd⟩:=Ae0.val hp hh (show w+1≤256 by omega) oa;have hg:=A4p hp.1 oa (w+1);have fl:R.flatten.length=h*w:=by rw[A1g fun r hr=>(o.row r hr).1,o.len]
 have hrows:Ad8.F ((p,((h:Int),((w:Int),R.flatten))),())=some ((R,()),()):=by
   have:=Ad8.val p h w R.flatten hh (by omega) fl
   rwa [show A0m R.flatten h w=R by rw[<-o.len];exact A3g fun r hr=>(o.row r hr).1]at this
 have g:=Goes.fillG (R:=(List Int×Bool×Unit)×Unit) (fun k i s=>Ae9.l3 k b (R.length:Int) (i:Int) p (h:Int) (w:Int) R.flatten s) R.length [] R rfl (fun i=>R.getD i []++[b.getD i 0]) fun i s hi hs he=>Goes.succ fun k=>by
   have oi:=o.at (show i<h by rw[<-o.len];exact hi);rw[Ae9.l3_eq,if_pos (ltI.2 hi),if_pos (idxI.2 (by omega)),if_pos (idxI.2 (by rw[hb,<-o.len];exact hi))];simp only[zc];rw[he,if_pos (by simp only[zk,zn,oi.1,bigA];omega),if_pos (idxI.2 (by omega)),if_pos trivial,A0x (by have:=o.len;omega)]
 refine Ae9.of _ _ _ _ _ (Ev.of_eq (g _ (Ev.succ (Ae9.fill hg.1 hg.2 hh hw (A5o (w+1)) p (h:Int) R.flatten _ 0 (zf w 0) (by omega) (by simp)) fun k=>?_)) fun k=>?_)
 . rw[Ae9.l3_eq,if_neg (by simp),A0x (by omega)];rw[show(zd R.length).map (fun i=>R.getD i []++[b.getD i 0])=augR R b from rfl];have hd':Ae0.F (augR R b,((w+1:Nat):Int),p,())=_:=hd;rw[hd'];simp only[za];rw[if_pos (by simp only[bigN];omega)];simp only[zc];rfl
 . rw[Ae9.T,hrows];rfl
theorem An4.val {p:Int} {h w:Nat} (hh:h≤4096) (hw:w≤255) {R:List (List Int)} (o:RowsOk p h w R) {b:List Int} (hb:b.length=h):An4.F ((p,((h:Int),((w:Int),R.flatten))),(p,((h:Int),((1:Int),b))),())=some (((p,(h:Int),((w+1:Nat):Int),(augR R b).flatten),()),()):=by
 have fl:R.flatten.length=h*w:=by rw[A1g fun r hr=>(o.row r hr).1,o.len]
 refine An4.of _ _ _ _ _ _ _ _ ?_;have bl:∀ i,i≤h->((zd i).flatMap fun i=>R.getD i []++[b.getD i 0]).length≤4096*256:=fun i hi=>by
   have:∀ r∈(zd i).map (fun i=>R.getD i []++[b.getD i 0]),r.length=w+1:=fun r hr=>by
     obtain⟨j,hj,rfl⟩:=zm.1 hr;have:=zl.1 hj;rw[zg,(o.at (show j<h by omega)).1];rfl
   rw[yr,A1g this,zo,zq];exact zN (by omega) (by omega)
 obtain⟨y,hy,hg⟩:=Goes.loop (R:=(MatV×Unit)×Unit) (fun k i (y:List Int)=>An4.l3 k p (h:Int) (w:Int) R.flatten p (h:Int) 1 b (i:Int) 0 0 0 [] p (h:Int) (zi.wrap ((w:Int)+1)) y) h (fun i y=>y=(zd i).flatMap fun i=>R.getD i []++[b.getD i 0]) (fun i y hi h2=>⟨_,rfl,Goes.succ fun k=>by
   obtain⟨w1,w2,w3,w4⟩:=A4C (R:=h) (C:=w) hh (by omega) hi;obtain⟨v1,v2,v3,v4⟩:=A4C (R:=h) (C:=1) hh (by omega) hi;have v1:zi.wrap ((i:Int)*1)=_:=v1;have v2:zi.wrap (zi.wrap ((i:Int)+1)*1)=_:=v2;have r1:cutL R.flatten ((i*w:Nat):Int) (((i+1)*w:Nat):Int)=R.getD i []:=by
     have:=A2h (fun r hr=>(o.row r hr).1) (show i<R.length by rw[o.len];exact hi);rw[<-this,cutL,zc,zc];rfl
   have r2:cutL b ((i*1:Nat):Int) (((i+1)*1:Nat):Int)=[b.getD i 0]:=by
     rw[cutL,zc,zc,Nat.mul_one,Nat.mul_one,List.drop_take,show i+1-i=1 by omega,List.drop_eq_getElem_cons (show i<b.length by omega),A0y (show i<b.length by omega)];rfl
   have hb1:=bl i (by omega);have hb2:=bl (i+1) hi;have e1:(zd (i+1)).flatMap (fun i=>R.getD i []++[b.getD i 0])=((zd i).flatMap fun i=>R.getD i []++[b.getD i 0])++(R.getD i []++[b.getD i 0]):=by
     rw[zv,zR];simp
   rw[e1]at hb2;simp only[zg]at hb2;rw[An4.l3_eq,if_pos (ltI.2 hi),w1,w2,if_pos (by rw[fl];omega),r1,if_pos (by rw[h2];simp only[bigA];omega)];simp only[];rw[v1,v2,if_pos (by rw[hb];omega),r2,if_pos (by rw[h2];simp only[zg,bigA];omega)];rw[A0x (by omega),h2,e1,zD]⟩) 0 [] (zj _) rfl
 refine Ev.of_eq (hg _ ((Ev.const _).succ fun k=>?_)) fun k=>rfl;rw[An4.l3_eq,if_neg (by simp),hy,A0x (by omega),augR,o.len,<-yr]
theorem Ah5.fill {w h:Nat} {p:Int} {E:List (List Int)} {P:List Int} (o:RowsOk p h (w+1) E) (hl:P.length≤h) (hh:h≤4096) (hw:w≤255) (hP:∀ x∈P,∃ j:Nat,j<w+1/\x=(j:Int)) (i8 i9 i13 i14 i17 i18 i19:Int) (x11 x16:List Int):∀ j i x,i+j=P.length->x.length=w →
   Ev (fun k=>Ah5.l6 k i8 i9 (w:Int) x11 (i:Int) i13 i14 ((w+1:Nat):Int) x16 i17 i18 i19 E.flatten P x) (((solF w E P j i x).1,(solF w E P j i x).2,()),()):=by
 intro j;induction j with
 | zero =>
   intro i x hi hx;refine(Ev.const _).succ fun k=>?_;rw[Ah5.l6_eq,if_neg (by simp only[decide_eq_true_eq];omega)];rfl
 | succ j ih =>
   intro i x hi hx;have hip:i<P.length:=by omega
   obtain⟨c,c1,c2⟩:=hP _ (A0z 0 hip);by_cases hc:P.getD i 0=(w:Int)
   . refine(Ev.const _).succ fun k=>?_;rw[Ah5.l6_eq,if_pos (ltI.2 hip),if_pos (idxI.2 hip)];simp only[zc];rw[if_pos (by rw[beq_iff_eq];exact hc),solF,if_pos hc]
   . have hcw:c<w:=by rw[c2]at hc;omega
     obtain⟨q1,q2⟩:=A0t (h:=h) (w:=w+1) (i:=i) (j:=w) hh (by omega) (by omega) (by omega);rw[A3i j i x c c2 hcw];refine(ih (i+1) (x.set c ((E.getD i []).getD w 0)) (by omega) (by simpa using hx)).succ fun k=>?_;rw[Ah5.l6_eq,if_pos (ltI.2 hip),if_pos (idxI.2 hip)];simp only[zc];rw[if_neg (by rw[beq_iff_eq];exact hc),if_pos (idxI.2 hip),q1,if_pos (idxI.2 (by rw[o.flatLen];exact q2)),c2];simp only[zc];rw[if_pos (idxI.2 (by omega)),o.flat (show i<h by omega) (show w<w+1 by omega),A0x (by omega)]
theorem Ah5.val {p:Int} {h w:Nat} (hp:2≤p/\p≤251) (hh:h≤4096) (hw:w≤255) {R:List (List Int)} (o:RowsOk p h w R) {b:List Int} (hb:b.length=h) (hbi:A0I 0 (p-1) b):Ah5.F ((p,(h:Int),(w:Int),R.flatten),b,())=some (((solV p w R b).1,(solV p w R b).2,()),()):=by
 have oa:=A5m o hb hbi;obtain⟨det,hd⟩:=Aa1.val hp hh (show w+1≤256 by omega) oa;have hg:=A4p hp.1 oa (w+1);refine Ah5.of _ _ _ _ _ (Ev.of_eq (Ah5.fill hg.1 hg.2 hh hw (A5o (w+1)) p (h:Int) p (h:Int) p (h:Int) ((w+1:Nat):Int) R.flatten (augR R b).flatten _ 0 (zf w 0) (by omega) (by simp)) fun k=>?_);rw[Ah5.T,An4.val hh hw o hb];simp only[za];rw[hd];simp only[za];rw[if_pos (by simp only[bigN];omega)];rfl
theorem A5U {A:Type} (f:Nat->A) {g:Nat->Nat} {t:Nat->List A}:∀ n,(∀ i,i<n->t i=(zd (g i)).map fun a=>f ((zd i).foldl (fun acc j=>acc+g j) 0+a))->(zd n).flatMap t=(zd ((zd n).foldl (fun acc j=>acc+g j) 0)).map f:=by
 intro n;induction n with
 | zero=>intro _;rfl
 | succ n ih =>
   intro h;rw[zv,zR,ih fun i hi=>h i (by omega),ya];simp only[List.flatMap_cons,List.flatMap_nil,z5,yu,yw];rw[h n (by omega),List.range_add,zz,yp];rfl
theorem A4K {s:ShfV} (h:A0j s) (d:Int):∀ n,n≤(A0w s.1 d s.1.length).length->(((zd n).foldl (fun acc j=>acc+(A2I s d j).toNat) 0:Nat):Int)=sumN (A2I s d) n:=by
 intro n;induction n with
 | zero=>intro _;rfl
 | succ n ih =>
   intro hn;obtain⟨e,h1,h2,h3,h4,h5⟩:=A5C h (show n<_ from hn);have st:=A3j h h2;have:=ih (by omega);rw[zv,ya,sumN,<-this,h5];simp only[yu,yw];omega
theorem A2r {s:ShfV} (ho:A0j s):A0K s=A0m (cobM s 0).2.2.2 (A0v s 1).toNat (A0v s 0).toNat:=by
 have key:=A5U (rowL (cobM s 0).2.2.2 (A0v s 0).toNat) (g:=fun j=>(A2I s 1 j).toNat) (t:=A1x s) (A0Q s).length fun n hn=>by
   obtain⟨e,h1,h2,h3,h4,h5⟩:=A5C ho hn;have hf:=A4K ho 1 n (yk hn);have q:(A0Q s).getD n 0=(e:Int):=h1;rw[A1x,q,zc,h5];refine zC fun a ha=>?_;have ha:=zl.1 ha;have:=A4z ho (k:=0) (by omega) hn q ha;rw[<-this];congr 1;have:(A0T s e).toNat=(zd n).foldl (fun acc j=>acc+(A2I s 1 j).toNat) 0:=by omega
   rw[this]
 have hN:=A4K ho 1 (A0Q s).length (zp _);have e:(zd (A0Q s).length).foldl (fun acc j=>acc+(A2I s 1 j).toNat) 0=(A0v s 1).toNat:=by
   have:=A3v ho 1;have h2:(A0Q s).length=(A0w s.1 1 s.1.length).length:=rfl;rw[<-h2]at this;omega
 rw[A0K,key,e];rfl
theorem A2O {s:ShfV} (ho:A0j s):RowsOk s.2.1 (A0v s 1).toNat (A0v s 0).toNat (A0K s):=by
 have hM:=A3s ho 0;have h1:=A0A ho 1;have h0:=A0A ho 0;have hl:(cobM s 0).2.2.2.length=(A0v s 1).toNat*(A0v s 0).toNat:=by
   show(wr _ _).length=_;rw[A0c,zh];rfl
 rw[A2r ho];exact rows_ok (m:=cobM s 0) hM (show A0v s (0+1)=_ by rw[zU h1.1];rfl) (show A0v s 0=_ by rw[zU h0.1]) hl
def spA (N l:Nat) (ys:List Int):List Int:=zf l 0++(ys++zf (N-l-ys.length) 0)
theorem A5D {N l:Nat} {ys:List Int} (h:l+ys.length≤N):(spA N l ys).length=N:=by
 simp only[spA,zg,zh];omega
theorem A5s {p:Int} (hp:2≤p) {N l:Nat} {ys:List Int} (h:A0I 0 (p-1) ys):A0I 0 (p-1) (spA N l ys):=fun x hx=>by
 simp only[spA,zw,zK]at hx;rcases hx with⟨-,rfl⟩|hx|⟨-,rfl⟩
 . omega
 . exact h x hx
 . omega
theorem A5R {N l:Nat} {ys:List Int} (h:l+ys.length≤N):a8G (zf N (0:Int)) (l:Int) (N:Int) ys=spA N l ys:=by
 have e:((N:Int)-(l:Int)).toNat=N-l:=by omega
 unfold a8G spA;rw[e,zc,List.take_replicate,Nat.min_eq_left (show l≤N by omega),zt (show ys.length≤N-l by omega),List.drop_replicate,show N-(l+ys.length)=N-l-ys.length by omega]
theorem Ag7.val {p:Int} {R C:Nat} {xs:List Int} (hR:R≤4096) (hC:C≤255) (hx:xs.length=R*C) {N l:Nat} (hN:N≤255) (hl:l+C≤N):Ag7.F ((p,(R:Int),(C:Int),xs),(l:Int),(N:Int),())=some (((A0m xs R C).map (spA N l),()),()):=by
 have hrows:Ad8.F ((p,((R:Int),((C:Int),xs))),())=some ((A0m xs R C,()),()):=Ad8.val p R C xs hR (by omega) hx;refine Ag7.of _ _ _ _ _ _ ?_;have g:=Goes.push (R:=(List (List Int)×Unit)×Unit) (fun k i v=>Ag7.l3 k (l:Int) (N:Int) ((A0m xs R C).length:Int) (i:Int) v (A0m xs R C)) (A0m xs R C).length (fun i=>spA N l ((A0m xs R C).getD i [])) fun i v hi hv=>Goes.succ fun k=>by
   have hi2:i<R:=by rwa [A0h]at hi
   have hlen:((A0m xs R C).getD i []).length=C:=by rw[A2w _ hi2,A0P hx hi2]
   rw[Ag7.l3_eq,if_pos (ltI.2 hi),if_pos (idxI.2 hi),if_pos (by simp only[bigN];omega)];simp only[zc,zh];rw[if_pos (by omega),if_pos (by omega),A5R (by omega),if_pos (A1D hv (by rw[A0h]at hi;omega)),A0x (by rw[A0h]at hi;omega)]
 refine Ev.of_eq (g _ ((Ev.const _).succ fun k=>?_)) fun k=>by rw[Ag7.T,hrows];rfl
 rw[Ag7.l3_eq,if_neg (by simp)];have:(zd (A0m xs R C).length).map (fun i=>spA N l ((A0m xs R C).getD i []))=(A0m xs R C).map (spA N l):=by
   conv=>rhs;rw[<-A1T (A0m xs R C)]
   rw[yp];rfl
 rw[this]
theorem A4W {A B:List (List Int)} (hA:A.length≤4096) (hB:B.length≤4096):Aa2.F ([A,B],())=some ((A++B,()),()):=by
 have t1:(1:Int).toNat=1:=rfl;have h0:∀ k,Aa2.l3 (k+1) [A,B] 0 [A,B] 2 0=Aa2.l3 k [A,B] (A.length:Int) [A,B] 2 1:=fun k=>by
   rw[Aa2.l3_eq,if_pos (by decide),if_pos ⟨by decide,by simp only[zk,zn];omega⟩];simp only[zX,zu,yl];rw[A0q (by omega) (by omega),if_neg (by simp only[decide_eq_true_eq];omega),show zi.wrap (1:Int)=1 by decide]
 have h1:∀ k,Aa2.l3 (k+1) [A,B] (A.length:Int) [A,B] 2 1=Aa2.l3 k [A,B] ((A.length:Int)+B.length) [A,B] 2 2:=fun k=>by
   rw[Aa2.l3_eq,if_pos (by decide),if_pos ⟨by decide,by simp only[zk,zn];omega⟩];simp only[t1,zS,zu];rw[A0q (by omega) (by omega),if_neg (by simp only[decide_eq_true_eq];omega),show zi.wrap (1+1:Int)=2 by decide]
 have h2:∀ k,Aa2.l3 (k+1) [A,B] ((A.length:Int)+B.length) [A,B] 2 2=Aa2.l11 k [A,B] 2 0 []:=fun k=>by
   rw[Aa2.l3_eq,if_neg (by decide),if_pos (by simp only[bigN];omega)];rfl
 have h3:∀ k,Aa2.l11 (k+1) [A,B] 2 0 []=Aa2.l11 k [A,B] 2 1 A:=fun k=>by
   rw[Aa2.l11_eq,if_pos (by decide),if_pos ⟨by decide,by simp only[zk,zn];omega⟩];simp only[zX,zu,zn,yt];rw[if_pos (by simp only[bigA];omega),show zi.wrap (0+1:Int)=1 by decide]
 have h4:∀ k,Aa2.l11 (k+1) [A,B] 2 1 A=Aa2.l11 k [A,B] 2 2 (A++B):=fun k=>by
   rw[Aa2.l11_eq,if_pos (by decide),if_pos ⟨by decide,by simp only[zk,zn];omega⟩];simp only[t1,zS,zu];rw[if_pos (by simp only[bigA];omega),show zi.wrap (1+1:Int)=2 by decide]
 have h5:∀ k,Aa2.l11 (k+1) [A,B] 2 2 (A++B)=some ((A++B,()),()):=fun k=>by
   rw[Aa2.l11_eq,if_neg (by decide)]
 have e5:Ev (fun k=>Aa2.l11 k [A,B] 2 2 (A++B)) ((A++B,()),()):=(Ev.const _).succ h5;have e4:Ev (fun k=>Aa2.l11 k [A,B] 2 1 A) ((A++B,()),()):=e5.succ h4;have e3:Ev (fun k=>Aa2.l11 k [A,B] 2 0 []) ((A++B,()),()):=e4.succ h3;have e2:Ev (fun k=>Aa2.l3 k [A,B] ((A.length:Int)+B.length) [A,B] 2 2) ((A++B,()),()):=e3.succ h2;have e1:Ev (fun k=>Aa2.l3 k [A,B] (A.length:Int) [A,B] 2 1) ((A++B,()),()):=e2.succ h1;have e0:Ev (fun k=>Aa2.l3 k [A,B] 0 [A,B] 2 0) ((A++B,()),()):=e1.succ h0;exact Aa2.of _ (e0.of_eq fun k=>rfl)
theorem Ah7.val {s:ShfV} {p:List (List Int)} (h:A0j s) (hc:CplxOk p) (hi:IsIn p s.1) {j:Nat} (hj:j<nv p):Ah7.F (s,vpl s p,((A0C s.1 (p.getD j []):Nat):Int),())=some ((A0T (rstS s p) j,()),()):=by
 have hn:=hc.1;have hn':=h.1.1;have hl:=h.2.2.1.1;have ht:=A0b h hc hi;obtain⟨n1,n2,-⟩:=A1z hc;have hall:=ht.2.2.1.2.1;have hstl:(rstS s p).2.2.1.length=p.length:=ht.2.2.1.1;have hst:∀ i,i<p.length->(rstS s p).2.2.1.getD i 0=s.2.2.1.getD (A0C s.1 (p.getD i [])) 0:=fun i hi'=>by
   show(A0J s p (vts p)).getD i 0=_;rw[A0s s hc,stIn,A0H _ 0 hi']
 have hidx:∀ i,i<p.length->A0C s.1 (p.getD i [])<s.1.length:=fun i hi'=>(A0D (hi _ (A0z [] hi'))).1;have hcol:A0T (rstS s p) j=psum p (rstS s p).2.2.1 0 j:=by
   have hj1:((rstS s p).1.getD j []).length=1:=(n2 j hj).2;rw[A0T,hj1];rfl
 refine Ah7.of s.1 s.2.1 s.2.2.1 s.2.2.2 _ _ ?_;obtain⟨y,hy,hg⟩:=Goes.loop (R:=(Int×Unit)×Unit) (fun k i (y:Int)=>Ah7.l3 k s.1 s.2.1 s.2.2.1 s.2.2.2 (vpl s p) ((A0C s.1 (p.getD j []):Nat):Int) y (i:Int)) j (fun i y=>y=psum p (rstS s p).2.2.1 0 i) (fun i y hi' h2=>⟨_,rfl,Goes.succ fun k=>by
   have b:=A2j (c:=p) (d:=0) hall i (by omega);have g:=A0B hall (show i<(rstS s p).2.2.1.length by omega);have hl1:=(n2 i (by omega)).2;have hm:=A4L h.1 hc hi hi' (show j<p.length by omega);have hii:=hidx i (by omega);have hst':=hst i (by omega);rw[Ah7.l3_eq,if_pos (ltI.2 (by rw[A0Z];omega)),if_pos (idxI.2 (by rw[A0Z];omega))];simp only[zc];rw[A3R s p (by omega),if_pos (by rw[bne_iff_ne];omega),if_pos (idxI.2 (by rw[A0Z];omega)),if_pos (idxI.2 (by omega))];simp only[zc,psum];rw[A0x (by omega),h2,<-hst',A0q (by omega) (by omega),if_pos (by omega)]⟩) 0 0 (zj _) rfl
 refine Ev.of_eq (hg _ ((Ev.const _).succ fun k=>?_)) fun k=>by rw[Ah7.T];rfl
 rw[Ah7.l3_eq,if_pos (ltI.2 (by rw[A0Z];omega)),if_pos (idxI.2 (by rw[A0Z];omega))];simp only[zc];rw[A3R s p hj,if_neg (by simp),hy,hcol]
def tieR (N c1 c2:Nat) (p:Int):List Int:=((zf N 0).set c1 1).set c2 (p-1)
theorem A5h (N c1 c2:Nat) (p:Int):(tieR N c1 c2 p).length=N:=by simp[tieR]
theorem tieR_in {N c1 c2:Nat} {p:Int} (hp:2≤p):A0I 0 (p-1) (tieR N c1 c2 p):=fun x hx=>by
 unfold tieR at hx;rcases zT hx with hx|rfl
 . rcases zT hx with hx|rfl
   . rw[(zK.1 hx).2];omega
   . omega
 . omega
noncomputable def nN (s:ShfV) (p:List (List Int)):Nat:=(A0v (rstS s p) 0).toNat
noncomputable def stB (s:ShfV) (a b:List (List Int)) (i:Nat):Nat:=(s.2.2.1.getD (A0C s.1 ((both a b).getD i [])) 0).toNat
noncomputable def cP (s:ShfV) (a b p:List (List Int)) (i:Nat):Nat:=(A0T (rstS s p) (A0C p ((both a b).getD i []))).toNat
noncomputable def A1H (s:ShfV) (a b:List (List Int)) (i:Nat):List (List Int):=(zd (stB s a b i)).map fun q=>tieR (nN s a+nN s b) (cP s a b a i+q) (nN s a+cP s a b b i+q) s.2.1
noncomputable def topR (s:ShfV) (a b:List (List Int)):List (List Int):=(A0K (rstS s a)).map (spA (nN s a+nN s b) 0)++(A0K (rstS s b)).map (spA (nN s a+nN s b) (nN s a))
noncomputable def sysR (s:ShfV) (a b:List (List Int)):List (List Int):=topR s a b++(zd (nv (both a b))).flatMap (A1H s a b)
noncomputable def sysB (s:ShfV) (a b:List (List Int)) (z:List Int):List Int:=zf (topR s a b).length 0++z
structure VertB (s:ShfV) (a b:List (List Int)) (i:Nat):Prop where
 lt:i<(both a b).length
 one:((both a b).getD i []).length=1
 ja:A0C a ((both a b).getD i [])<nv a
 ga:a.getD (A0C a ((both a b).getD i [])) []=(both a b).getD i []
 jb:A0C b ((both a b).getD i [])<nv b
 gb:b.getD (A0C b ((both a b).getD i [])) []=(both a b).getD i []
 js:A0C s.1 ((both a b).getD i [])<s.1.length
 st:((stB s a b i:Nat):Int)=s.2.2.1.getD (A0C s.1 ((both a b).getD i [])) 0
 st3:stB s a b i≤3
 sta:(rstS s a).2.2.1.getD (A0C a ((both a b).getD i [])) 0=((stB s a b i:Nat):Int)
 ca:A0T (rstS s a) (A0C a ((both a b).getD i []))=((cP s a b a i:Nat):Int)
 cb:A0T (rstS s b) (A0C b ((both a b).getD i []))=((cP s a b b i:Nat):Int)
 ba:cP s a b a i+stB s a b i≤nN s a
 bb:cP s a b b i+stB s a b i≤nN s b
theorem A4g {s:ShfV} {a b:List (List Int)} (c:CovAt s a b) {i:Nat} (hi:i<nv (both a b)):VertB s a b i:=by
 have hB:=A4m c.ha c.hb;obtain⟨n1,n2,-⟩:=A1z hB;have h1:=(n2 i hi).2;have hm:(both a b).getD i []∈both a b:=A0z [] (by omega);have part:∀ p,CplxOk p->IsIn p s.1->(both a b).getD i []∈p->A0C p ((both a b).getD i [])<nv p/\p.getD (A0C p ((both a b).getD i [])) []=(both a b).getD i []/\(rstS s p).2.2.1.getD (A0C p ((both a b).getD i [])) 0=s.2.2.1.getD (A0C s.1 ((both a b).getD i [])) 0/\0≤A0T (rstS s p) (A0C p ((both a b).getD i []))/\A0T (rstS s p) (A0C p ((both a b).getD i []))+s.2.2.1.getD (A0C s.1 ((both a b).getD i [])) 0≤A0v (rstS s p) 0:=fun p hp hip hmp=>by
   obtain⟨i1,i2⟩:=A0D hmp;have hnp:A0C p ((both a b).getD i [])<nv p:=(A1z hp).2.2 _ i1 (by rw[i2];exact h1);have ht:=A0b c.s1.1 hp hip;have hst:(rstS s p).2.2.1.getD (A0C p ((both a b).getD i [])) 0=s.2.2.1.getD (A0C s.1 ((both a b).getD i [])) 0:=by
     show(A0J s p (vts p)).getD _ 0=_;rw[A0s s hp,stIn,A0H _ 0 i1,i2]
   have hb:=A1C ht (show A0C p ((both a b).getD i [])<(rstS s p).1.length from i1);have hd:((rstS s p).1.getD (A0C p ((both a b).getD i [])) []).length=1:=by
     show(p.getD _ []).length=1;rw[i2];exact h1
   rw[hd,hst]at hb;exact⟨hnp,i2,hst,hb⟩
 obtain⟨a1,a2,a3,a4,a5⟩:=part a c.ha c.ia (both_in.1 _ hm);obtain⟨b1,b2,b3,b4,b5⟩:=part b c.hb c.ib (both_in.2 _ hm);have js:=(A0D (c.ia _ (both_in.1 _ hm))).1;have st:=A3j c.s1.1 js;have e:((stB s a b i:Nat):Int)=s.2.2.1.getD (A0C s.1 ((both a b).getD i [])) 0:=st.1;refine⟨by omega,h1,a1,a2,b1,b2,js,e,st.2,by rw[a3,e],?_,?_,?_,?_⟩
 . unfold cP;omega
 . unfold cP;omega
 . unfold cP nN;omega
 . unfold cP nN;omega
theorem A5X {A:Type} {f:Nat->List A} {g:Nat->Int}:∀ n,(∀ i,i<n->((f i).length:Int)=g i)->(((zd n).flatMap f).length:Int)=sumN g n:=by
 intro n;induction n with
 | zero=>intro _;rfl
 | succ n ih =>
   intro h;have h1:=ih fun i hi=>h i (by omega);have h2:=h n (by omega);rw[zv,zR,zg,sumN,<-h1,<-h2];simp
theorem A4Q {s:ShfV} {a b:List (List Int)} (c:CovAt s a b):(((zd (nv (both a b))).flatMap (A1H s a b)).length:Int)=A0v (rstS s (both a b)) 0:=by
 obtain⟨hB,iB⟩:=A2U c;have ht:=A0b c.s1.1 hB iB;obtain⟨n1,n2,-⟩:=A1z hB;rw[A3v ht];refine A5X _ fun i hi=>?_;have V:=A4g c hi;have e:(A0w (rstS s (both a b)).1 0 (rstS s (both a b)).1.length).getD i 0=(i:Int):=(n2 i hi).1;have e2:(rstS s (both a b)).2.2.1.getD i 0=s.2.2.1.getD (A0C s.1 ((both a b).getD i [])) 0:=by
   show(A0J s (both a b) (vts (both a b))).getD i 0=_;rw[A0s s hB,stIn,A0H _ 0 V.lt]
 rw[A1H,zo,zq,A2I,e,zc,e2];exact V.st
theorem A1l {s:ShfV} {p:List (List Int)} (h:A0j s) (hp:CplxOk p) (hip:IsIn p s.1):nN s p≤32/\((nN s p:Nat):Int)=A0v (rstS s p) 0:=by
 have:=A0A (A0b h hp hip) 0;unfold nN;omega
theorem A5L {s:ShfV} {a b:List (List Int)} (c:CovAt s a b):(topR s a b).length≤64/\∀ r∈topR s a b,r.length=nN s a+nN s b/\A0I 0 (s.2.1-1) r:=by
 have oa:=A2O (A0b c.s1.1 c.ha c.ia);have ob:=A2O (A0b c.s1.1 c.hb c.ib);have ba:=A0A (A0b c.s1.1 c.ha c.ia) 1;have bb:=A0A (A0b c.s1.1 c.hb c.ib) 1;have hp:=c.s1.1.2.1.1;refine⟨by rw[topR,zg,zo,zo,oa.len,ob.len];omega,fun r hr=>?_⟩;rcases zw.1 hr with hr|hr
 . obtain⟨y,hy,rfl⟩:=zm.1 hr;obtain⟨h1,h2⟩:=oa.row y hy;exact⟨A5D (by rw[h1];unfold nN;omega),A5s hp.1 h2⟩
 . obtain⟨y,hy,rfl⟩:=zm.1 hr;obtain⟨h1,h2⟩:=ob.row y hy;exact⟨A5D (by rw[h1];unfold nN;omega),A5s hp.1 h2⟩
theorem A5t {s:ShfV} {a b:List (List Int)} {z:List Int} (c:OneAt s a b z):∃ h,h≤96/\RowsOk s.2.1 h (nN s a+nN s b) (sysR s a b)/\(sysB s a b z).length=h/\A0I 0 (s.2.1-1) (sysB s a b z):=by
 have hp:=c.s1.1.2.1.1;obtain⟨t1,t2⟩:=A5L c.toCovAt;have tl:=A4Q c.toCovAt;have zb:=A0A (A0b c.s1.1 c.hB c.iB) 0;have hz:=c.hz;refine⟨_,?_,⟨rfl,fun r hr=>?_⟩,?_,fun x hx=>?_⟩
 . rw[sysR,zg];omega
 . rcases zw.1 hr with hr|hr
   . exact t2 r hr
   . obtain⟨i,hi,hr⟩:=zF.1 hr;unfold A1H at hr;obtain⟨q,hq,rfl⟩:=zm.1 hr;exact⟨A5h _ _ _ _,tieR_in hp.1⟩
 . have hz1:=hz.1;rw[sysB,sysR,zg,zg,zh];omega
 . rcases zw.1 hx with hx|hx
   . rw[(zK.1 hx).2];omega
   . exact hz.2 x hx
theorem Aq4.val (m:MatV) (l:Int) (h0:0≤l) (h1:l≤1048576) (hx:m.2.2.2.length≤maxLen):∃ r,Aq4.F (m,l,())=some ((r,()),())/\(r=-1∨0≤r/\r≤l/\SmM m):=by
 obtain⟨a,b,c,xs⟩:=m;obtain⟨r,h2,h3⟩:=Af3.val xs l h0 h1 hx;rw[Aq4.eq,Aq4.T,h2];simp only[za];rcases h3 with rfl|⟨a,b,c⟩
 . exact⟨-1,by rw[if_pos (by simp)],.inl rfl⟩
 . exact⟨r,by rw[if_neg (by simp;omega)],.inr ⟨a,b,c⟩⟩
theorem Aj1.val (xs:List MatV) (l:Int) (h0:0≤l) (h1:l≤1048576) (hx:xs.length≤maxLen) (hr:∀ x∈xs,x.2.2.2.length≤maxLen):∃ r,Aj1.F (xs,l,())=some ((r,()),())/\(r=-1∨0≤r/\r≤l/\SmMs xs):=by
 have:xs.length≤9223372036854775807:=hx;by_cases h:l<xs.length
 . exact⟨-1,Aj1.of _ _ ((Ev.const _).of_eq fun k=>by rw[Aj1.T,A0q (by omega) (by omega),if_pos (by simp;omega)]),.inl rfl⟩
 obtain⟨r,hv,h2⟩:=A5K (fun k i s=>Aj1.l5 k xs s (i:Int)) xs (0,0,0,[]) SmM (fun i s hi s0 s1=>by
   have E:=fun k=>Aj1.l5_eq k xs s (i:Int);obtain⟨r,hr1,hr2⟩:=Aq4.val (xs.getD i (0,0,0,[])) s s0 s1 (hr _ (A0z _ hi));simp only[if_pos (ltI.2 hi),if_pos (idxI.2 hi),zc,hr1,za,A0x (show i<4611686018427387904 by omega)]at E;rcases hr2 with rfl|⟨a,b,c⟩
   . exact .inr fun k=>by rw[E,if_pos (by simp)]
   . exact .inl ⟨r,a,b,c,fun k=>by rw[E,if_neg (by simp;omega)]⟩) (fun k l=>by rw[Aj1.l5_eq,if_neg (by simp)]) (l-xs.length) (by omega) (by omega)
 refine⟨r,Aj1.of _ _ (hv.of_eq fun k=>by rw[Aj1.T,A0q (by omega) (by omega),if_neg (by simp;omega)];rfl),?_⟩;rcases h2 with h2|⟨a,b,c⟩
 . exact .inl h2
 . exact .inr ⟨a,by omega,by omega,c⟩
theorem Aq5.val (m:MatV) (h:SmM m):Aq5.F (m,())=some ((m,()),()):=by
 obtain⟨a,b,c,xs⟩:=m;have hs:xs.length≤1048576:=h;rw[Aq5.eq,Aq5.T,Ac0.val xs (by omega)];rfl
theorem Ak9.val (xs:List MatV) (h:SmMs xs):Ak9.F (xs,())=some ((xs,()),()):=by
 have hl:=h.1;refine Ak9.of xs ?_;have:=Goes.fill (L:=fun k i ys=>Ak9.l3 k xs (i:Int) ys) xs (0,0,0,[]) (fun k i ys hi hy=>by
   rw[Ak9.l3_eq,if_pos (ltI.2 hi),if_pos (idxI.2 hi)];simp only[zc,Aq5.val _ (h.2 _ (A0z (0,0,0,[]) hi)),za];rw[if_pos (by omega),A0x (by omega)]) (zf xs.length (0,0,0,[])) (by simp)
 refine Ev.of_eq (this _ ((Ev.const _).succ fun k=>?_)) fun k=>?_
 . rw[Ak9.l3_eq,if_neg (by simp)]
 . rw[Ak9.T,if_pos (by simp only[bigN];omega)];rfl
theorem Aq1.same (m n:MatV) (h:SmM m):∃ b,Aq1.F (m,n,())=some ((b,()),())/\(b=true↔m=n):=by
 obtain⟨a,b,c,xs⟩:=m;obtain⟨a',b',c',ys⟩:=n;have hs:xs.length≤1048576:=h;obtain⟨e,he,he'⟩:=Aa5.val xs ys (by omega);rw[Aq1.eq,Aq1.T,he];simp only[za,yh];by_cases h1:a=a'
 . by_cases h2:b=b'
   . by_cases h3:c=c'
     . rw[if_neg (by simp[h1]),if_neg (by simp[h2]),if_neg (by simp[h3])];exact⟨e,by cases e<;>rfl,by simp[h1,h2,h3,he']⟩
     . exact⟨false,by rw[if_neg (by simp[h1]),if_neg (by simp[h2]),if_pos (by simp[h3])],by simp[h3]⟩
   . exact⟨false,by rw[if_neg (by simp[h1]),if_pos (by simp[h2])],by simp[h2]⟩
 . exact⟨false,by rw[if_pos (by simp[h1])],by simp[h1]⟩
theorem Ai9.same (xs ys:List MatV) (h:SmMs xs):∃ b,Ai9.F (xs,ys,())=some ((b,()),())/\(b=true↔xs=ys):=by
 have hn:=h.1;by_cases hl:xs.length=ys.length
 . obtain⟨b,hb,hb'⟩:=A1B (fun k i=>Ai9.l4 k xs ys (i:Int)) xs ys (0,0,0,[]) hl (fun i hi=>by
     obtain⟨c,hc,hc'⟩:=Aq1.same (xs.getD i (0,0,0,[])) (ys.getD i (0,0,0,[])) (h.2 _ (A0z _ hi));exact⟨c,hc',fun k=>by rw[Ai9.l4_eq,if_pos (ltI.2 hi),if_pos (idxI.2 hi),if_pos (idx2 (hl▸hi))];simp only[zc,hc,za];rw[A0x (by omega)]⟩) (fun k=>by rw[Ai9.l4_eq,if_neg (by simp)])
   exact⟨b,Ai9.of _ _ (hb.of_eq fun k=>by rw[Ai9.T,if_neg (by simp[hl])];rfl),hb'⟩
 . exact⟨false,Ai9.of _ _ ((Ev.const _).of_eq fun k=>by rw[Ai9.T,if_pos (by simp;omega)]),by simp;intro e;exact hl (by rw[e])⟩
theorem shf_wf {s:ShfV} (h:wfT (.pair (.sl (.sl (.int .i64))) (.pair (.int .i64) (.pair (.sl (.int .i64)) (.sl (.pair (.int .i64) (.pair (.int .i64) (.pair (.int .i64) (.sl (.int .i64))))))))) s):s.1.length≤maxLen/\(∀ x∈s.1,x.length≤maxLen)/\s.2.2.1.length≤maxLen/\s.2.2.2.length≤maxLen/\∀ x∈s.2.2.2,x.2.2.2.length≤maxLen:=by
 obtain⟨a,p,b,c⟩:=s;obtain⟨⟨h1,h2⟩,_,⟨h3,_⟩,h4,h5⟩:=h;exact⟨h1,fun x hx=>(h2 x hx).1,h3,h4,fun x hx=>(h5 x hx).2.2.2.1⟩
theorem An9.val (s:ShfV) (l:Int) (h0:0≤l) (h1:l≤1048576) (w1:s.1.length≤maxLen) (w2:∀ x∈s.1,x.length≤maxLen) (w3:s.2.2.1.length≤maxLen) (w4:s.2.2.2.length≤maxLen) (w5:∀ x∈s.2.2.2,x.2.2.2.length≤maxLen):∃ r,An9.F (s,l,())=some ((r,()),())/\(r=-1∨0≤r/\r≤l/\SmSh s):=by
 obtain⟨a,p,b,c⟩:=s;obtain⟨r1,e1,k1⟩:=Ah1.val a l h0 h1 w1 w2;rw[An9.eq,An9.T,e1];simp only[za];rcases k1 with rfl|⟨a1,b1,c1⟩
 . exact⟨-1,by rw[if_pos (by simp)],.inl rfl⟩
 rw[if_neg (by simp;omega)];obtain⟨r2,e2,k2⟩:=Af3.val b r1 a1 (by omega) w3;rw[e2];simp only[za];rcases k2 with rfl|⟨a2,b2,c2⟩
 . exact⟨-1,by rw[if_pos (by simp)],.inl rfl⟩
 rw[if_neg (by simp;omega)];obtain⟨r3,e3,k3⟩:=Aj1.val c r2 a2 (by omega) w4 w5;rw[e3];simp only[za];rcases k3 with rfl|⟨a3,b3,c3⟩
 . exact⟨-1,by rw[if_pos (by simp)],.inl rfl⟩
 exact⟨r3,by rw[if_neg (by simp;omega)],.inr ⟨a3,by omega,c1,c2,c3⟩⟩
theorem Ak0.val (s:ShfV) (h:SmSh s):Ak0.F (s,())=some ((s,()),()):=by
 obtain⟨a,p,b,c⟩:=s;obtain⟨h1,h2,h3⟩:=h;have h2':b.length≤1048576:=h2;rw[Ak0.eq,Ak0.T,Ae2.val a h1,Ac0.val b (by omega),Ak9.val c h3];rfl
theorem Aq2.same (s t:ShfV) (h:SmSh s):∃ b,Aq2.F (s,t,())=some ((b,()),())/\(b=true↔s=t):=by
 obtain⟨a,p,b,c⟩:=s;obtain⟨a',p',b',c'⟩:=t;obtain⟨h1,h2,h3⟩:=h;have h2':b.length≤1048576:=h2;obtain⟨v1,e1,k1⟩:=Ag9.same a a' h1;obtain⟨v2,e2,k2⟩:=Aa5.val b b' (by omega);obtain⟨v3,e3,k3⟩:=Ai9.same c c' h3;rw[Aq2.eq,Aq2.T,e1,e2,e3];simp only[za,yh];by_cases hp:p=p'
 . rw[show(p !=p')=false by simp[hp]];refine⟨v1&&v2&&v3,by cases v1<;>cases v2<;>cases v3<;>rfl,?_⟩;simp only[Bool.and_eq_true,k1,k2,k3,hp,true_and,and_assoc]
 . rw[show(p !=p')=true by simp[hp]];exact⟨false,by cases v1<;>rfl,by simp[hp]⟩
def A2o (ys:List Int) (k:Int):Prop:=∀ j,j<ys.length->ys.getD j 0=k+j
theorem Ab4.val (xs:List Int) (k0:Int) (h0:0≤k0) (h1:k0+xs.length≤4611686018427387904):∃ ys,Ab4.F (xs,k0,())=some ((k0+xs.length,()),(ys,()))/\ys.length=xs.length/\A2o ys k0:=by
 obtain⟨⟨v,ys⟩,⟨hv,hl,hm⟩,hg⟩:=Goes.loop (R:=(Int×Unit)×(List Int×Unit)) (fun k i (s:Int×List Int)=>Ab4.l2 k s.1 (i:Int) s.2) xs.length (fun i s=>s.1=k0+i/\s.2.length=xs.length/\∀ j,j<i->s.2.getD j 0=k0+j)
   (fun i s hi ⟨h2,h3,h4⟩=>⟨(s.1+1,s.2.set i s.1),⟨by simp only[];omega,by simp[h3],fun j hj=>by
     simp only[ze,zy];by_cases hij:i=j
     . subst hij;simp[h3,hi,h2]
     . have:=h4 j (by omega);simp only[ze]at this;simp[hij,this]⟩,Goes.succ fun k=>by
     rw[Ab4.l2_eq,if_pos (by simp;omega),if_pos (by omega),A0q (by omega) (by omega),A0x (by omega)];simp only[zc]⟩) 0 (k0,xs) (zj _) ⟨by simp,rfl,fun j hj=>by omega⟩
 simp only[]at hv hl hm;refine⟨ys,Ab4.of _ _ ((hg _ ((Ev.const _).succ fun k=>?_)).of_eq fun k=>rfl),hl,fun j hj=>hm j (by omega)⟩;rw[Ab4.l2_eq,if_neg (by simp;omega),hv]
theorem Ah8.val (ys:List Int) (k0:Int) (h0:0≤k0) (h1:k0+ys.length≤4611686018427387904) (hm:A2o ys k0):Ah8.F (ys,k0,())=some ((k0+ys.length,()),()):=by
 obtain⟨v,hv,hg⟩:=Goes.loop (R:=(Int×Unit)×Unit) (fun k i (s:Int)=>Ah8.l2 k ys s (i:Int)) ys.length (fun i s=>s=k0+i)
   (fun i s hi h2=>⟨s+1,by omega,Goes.succ fun k=>by
     rw[Ah8.l2_eq,if_pos (ltI.2 hi),if_pos (idxI.2 hi),if_neg (by simp only[zc];rw[hm i hi,h2];simp),A0q (by omega) (by omega),A0x (by omega)]⟩) 0 k0 (zj _) (by simp)
 refine Ah8.of _ _ ((hg _ ((Ev.const _).succ fun k=>?_)).of_eq fun k=>rfl);rw[Ah8.l2_eq,if_neg (by simp),hv]
def mkI (n:Nat) (k:Int):List Int:=(zd n).map fun(j:Nat)=>k+(j:Int)
theorem A4Y (n:Nat) (k:Int):(mkI n k).length=n:=by simp[mkI]
theorem A4Z (n:Nat) (k:Int):A2o (mkI n k) k:=fun j hj=>by
 rw[A4Y]at hj;simp[mkI,ze,hj]
theorem mkI_of {ys:List Int} {k:Int} (h:A2o ys k):ys=mkI ys.length k:=by
 refine zx (by simp[mkI]) fun i h1 h2=>?_;rw[<-A0y (d:=0) h1,<-A0y (d:=0) h2,h i h1,A4Z _ _ i h2]
def mkM (m:MatV) (k:Int):MatV:=(k,k+1,k+1+1,mkI m.2.2.2.length (k+1+1+1))
def szM (m:MatV):Nat:=3+m.2.2.2.length
def offM (ms:List MatV) (i:Nat):Nat:=((ms.take i).map szM).sum
theorem A1m {ms:List MatV} {i:Nat} (h:i<ms.length):offM ms (i+1)=offM ms i+szM (ms.getD i (0,0,0,[])):=by
 unfold offM;rw[zY,zE h,zW,zz,yv,A0y h];simp
theorem offM_le {ms:List MatV} {i j:Nat} (h:i≤j):offM ms i≤offM ms j:=by
 induction h with
 | refl=>exact zp _
 | @step m _ ih =>
   by_cases hm:m<ms.length
   . rw[zV,A1m hm];omega
   . have:offM ms (m+1)=offM ms m:=by unfold offM;rw[zt (by omega),zt (by omega)]
     rw[zV,this];exact ih
theorem offM_bd {ms:List MatV} (h:SmMs ms):offM ms ms.length≤1048579*1048576:=by
 have key:∀ i,i≤ms.length->offM ms i≤1048579*i:=by
   intro i;induction i with
   | zero=>intro _;simp[offM]
   | succ i ih =>
     intro hi;have h1:=ih (by omega);have h2:(ms.getD i (0,0,0,[])).2.2.2.length≤1048576:=h.2 _ (A0z _ (by omega));rw[A1m (by omega),szM];omega
 have:=key ms.length (zp _);have:=h.1;omega
theorem A5e {α:Type} (l:List α) (i:Nat) (x y:α):(l.set i x).set i y=l.set i y:=by rw[z6]
theorem A1h {α:Type} (l:List α) (i:Nat) (x d:α) (h:i<l.length):(l.set i x).getD i d=x:=by simp[ze,h]
theorem Am8.val (ms:List MatV) (k0:Int) (h0:0≤k0) (hx:ms.length<4611686018427387904) (h1:k0+offM ms ms.length≤4611686018427387904) :
   ∃ ys,Am8.F (ms,k0,())=some ((k0+offM ms ms.length,()),(ys,()))/\ys.length=ms.length/\∀ j,j<ms.length->ys.getD j (0,0,0,[])=mkM (ms.getD j (0,0,0,[])) (k0+offM ms j):=by
 obtain⟨⟨v,ys⟩,⟨hv,hl,hm,-⟩,hg⟩:=Goes.loop (R:=(Int×Unit)×(List MatV×Unit)) (fun k i (s:Int×List MatV)=>Am8.l2 k s.1 (i:Int) s.2) ms.length
   (fun i s=>s.1=k0+offM ms i/\s.2.length=ms.length/\(∀ j,j<i->s.2.getD j (0,0,0,[])=mkM (ms.getD j (0,0,0,[])) (k0+offM ms j))/\∀ j,i≤j->s.2.getD j (0,0,0,[])=ms.getD j (0,0,0,[]))
   (fun i s hi ⟨h2,h3,h4,h5⟩=>by
     have hle:=offM_le (ms:=ms) (show i+1≤ms.length by omega);rw[A1m hi,szM]at hle;obtain⟨m,hm⟩:∃ m,ms.getD i (0,0,0,[])=m:=⟨_,rfl⟩;rw[hm]at hle;obtain⟨ys,e1,e2,e3⟩:=Ab4.val m.2.2.2 (s.1+1+1+1) (by omega) (by omega);have e4:ys=mkI m.2.2.2.length (s.1+1+1+1):=by rw[<-e2];exact mkI_of e3
     have w1:zi.wrap (s.1+1)=s.1+1:=A0q (by omega) (by omega);have w2:zi.wrap (s.1+1+1)=s.1+1+1:=A0q (by omega) (by omega);have w3:zi.wrap (s.1+1+1+1)=s.1+1+1+1:=A0q (by omega) (by omega);have hsi:s.2.getD i (0,0,0,[])=m:=by rw[h5 i (zp _),hm]
     have hil:i<s.2.length:=by omega
     refine⟨(s.1+1+1+1+m.2.2.2.length,s.2.set i (mkM m s.1)),⟨by simp only[];rw[A1m hi,hm,szM];omega,by simp[h3],fun j hj=>?_,fun j hj=>?_⟩,Goes.succ fun k=>?_⟩
     . by_cases hij:i=j
       . subst hij;simp only[];rw[A1h _ _ _ _ hil,hm,h2]
       . have:=h4 j (by omega);simp only[ze,zy]at this ⊢;rw[if_neg hij];exact this
     . have:=h5 j (by omega);simp only[ze,zy]at this ⊢;rw[if_neg (by omega)];exact this
     . rw[Am8.l2_eq,if_pos (by simp;omega),if_pos (by omega)];simp only[zc,hsi,A5e,A1h _ _ _ _ hil,zA,w1,w2,w3];rw[if_pos (by omega),if_pos (by omega),if_pos (by omega),e1];simp only[za];rw[A0x (by omega),e4];rfl) 0 (k0,ms) (zj _) ⟨by simp[offM],rfl,fun j hj=>by omega,fun _ _=>rfl⟩
 simp only[]at hv hl hm;refine⟨ys,Am8.of _ _ ((hg _ ((Ev.const _).succ fun k=>?_)).of_eq fun k=>rfl),hl,hm⟩;rw[Am8.l2_eq,if_neg (by simp;omega),hv]
def offs (xs:List (List Int)) (i:Nat):Nat:=((xs.take i).map List.length).sum
theorem A1n {xs:List (List Int)} {i:Nat} (h:i<xs.length):offs xs (i+1)=offs xs i+(xs.getD i []).length:=by
 unfold offs;rw[zY,zE h,zW,zz,yv,A0y h];simp
theorem offs_le {xs:List (List Int)} {i j:Nat} (h:i≤j):offs xs i≤offs xs j:=by
 induction h with
 | refl=>exact zp _
 | @step m _ ih =>
   by_cases hm:m<xs.length
   . rw[zV,A1n hm];omega
   . have:offs xs (m+1)=offs xs m:=by unfold offs;rw[zt (by omega),zt (by omega)]
     rw[zV,this];exact ih
theorem Am7.val (xs:List (List Int)) (k0:Int) (h0:0≤k0) (hx:xs.length<4611686018427387904) (h1:k0+offs xs xs.length≤4611686018427387904) :
   ∃ ys,Am7.F (xs,k0,())=some ((k0+offs xs xs.length,()),(ys,()))/\ys.length=xs.length/\∀ j,j<xs.length->(ys.getD j []).length=(xs.getD j []).length/\A2o (ys.getD j []) (k0+offs xs j):=by
 obtain⟨⟨v,ys⟩,⟨hv,hl,hm,-⟩,hg⟩:=Goes.loop (R:=(Int×Unit)×(List (List Int)×Unit)) (fun k i (s:Int×List (List Int))=>Am7.l2 k s.1 (i:Int) s.2) xs.length
   (fun i s=>s.1=k0+offs xs i/\s.2.length=xs.length/\(∀ j,j<i->(s.2.getD j []).length=(xs.getD j []).length/\A2o (s.2.getD j []) (k0+offs xs j))/\∀ j,i≤j->s.2.getD j []=xs.getD j [])
   (fun i s hi ⟨h2,h3,h4,h5⟩=>by
     have hle:=offs_le (xs:=xs) (show i+1≤xs.length by omega);rw[A1n hi]at hle;obtain⟨ys,e1,e2,e3⟩:=Ab4.val (s.2.getD i []) s.1 (by omega) (by rw[h5 i (zp _),h2];omega);rw[h5 i (zp _)]at e1 e2;refine⟨(s.1+(xs.getD i []).length,s.2.set i ys),⟨by simp only[];rw[A1n hi];omega,by simp[h3],fun j hj=>?_,fun j hj=>?_⟩,Goes.succ fun k=>?_⟩
     . simp only[ze,zy];by_cases hij:i=j
       . subst hij;simp only[h3,hi,if_true,Option.getD_some];exact⟨by rw[e2,ze],by rw[<-h2];exact e3⟩
       . have:=h4 j (by omega);simp only[ze]at this;simpa[hij]using this
     . have:=h5 j (by omega);simp only[ze,zy]at this ⊢;rw[if_neg (by omega)];exact this
     . rw[Am7.l2_eq,if_pos (by simp;omega),if_pos (by omega)];simp only[zc,h5 i (zp _),e1,za];rw[A0x (by omega)]) 0 (k0,xs) (zj _) ⟨by simp[offs],rfl,fun j hj=>by omega,fun _ _=>rfl⟩
 simp only[]at hv hl hm;refine⟨ys,Am7.of _ _ ((hg _ ((Ev.const _).succ fun k=>?_)).of_eq fun k=>rfl),hl,hm⟩;rw[Am7.l2_eq,if_neg (by simp;omega),hv]
theorem offs_bd {xs:List (List Int)} (h:SmL xs):offs xs xs.length≤1048576*1048576:=by
 have key:∀ i,i≤xs.length->offs xs i≤1048576*i:=by
   intro i;induction i with
   | zero=>intro _;simp[offs]
   | succ i ih =>
     intro hi;have h1:=ih (by omega);have h2:(xs.getD i []).length≤1048576:=h.2 _ (A0z _ (by omega));rw[A1n (by omega)];omega
 have:=key xs.length (zp _);have:=h.1;omega
theorem Ah0.some (c:List (List Int)) (k0:Int) (h:SmL c) (h0:0≤k0) (h1:k0≤1152921504606846976):∃ v ys,Ah0.F (c,k0,())=some ((v,()),(ys,()))/\k0≤v/\v≤k0+1099511627776:=by
 have b:=offs_bd h;have hl:=h.1;obtain⟨ys,e,_⟩:=Am7.val c k0 h0 (by omega) (by omega);rw[Ah0.eq,Ah0.T,e];exact⟨k0+((offs c c.length:Nat):Int),_,rfl,by omega,by omega⟩
theorem Aq3.some (s:ShfV) (k0:Int) (h:SmSh s) (h0:0≤k0) (h1:k0≤576460752303423488):∃ v ys,Aq3.F (s,k0,())=some ((v,()),(ys,()))/\k0≤v/\v≤k0+8796093022208:=by
 obtain⟨c,p,st,ms⟩:=s;obtain⟨hc,hst,hms⟩:=h;have hst:st.length≤1048576:=hst;have hml:=hms.1;have b:=offM_bd hms;obtain⟨v1,y1,e1,a1,b1⟩:=Ah0.some c k0 hc h0 (by omega);obtain⟨y2,e2,_⟩:=Ab4.val st v1 (by omega) (by omega);obtain⟨y3,e3,_⟩:=Am8.val ms (v1+st.length) (by omega) (by have:ms.length≤1048576:=hml;omega) (by have:offM ms ms.length≤1048579*1048576:=b;omega);rw[Aq3.eq,Aq3.T,e1];simp only[za,e2,e3];have:offM ms ms.length≤1048579*1048576:=b;exact⟨_,_,rfl,by omega,by omega⟩
theorem Ab4.some (xs:List Int) (k0:Int) (h:xs.length≤1048576) (h0:0≤k0) (h1:k0≤1152921504606846976):∃ v ys,Ab4.F (xs,k0,())=some ((v,()),(ys,()))/\k0≤v/\v≤k0+1048576:=by
 obtain⟨ys,e,_⟩:=Ab4.val xs k0 h0 (by omega);exact⟨_,_,e,by omega,by omega⟩
theorem A5n {s:List (List Int)} (h:wfT (.sl (.sl (.int .i64))) s):s.length≤maxLen/\∀ x∈s,x.length≤maxLen:=⟨h.1,fun x hx=>(h.2 x hx).1⟩
def splR (n:Nat) (r:List Int×Bool):List Int×List Int×Int:=if r.2=true then(r.1.take n,r.1.drop n,0)else([],[],3)
noncomputable def A0S (s:ShfV) (a b:List (List Int)) (z:List Int):List Int×List Int×Int:=if oneC s a b z=0 then splR (nN s a) (solV s.2.1 (nN s a+nN s b) (sysR s a b) (sysB s a b z))else([],[],oneC s a b z)
theorem A4H (x:List Int) (n:Nat):cutL x 0 (n:Int)=x.take n:=by rw[cutL,zc];rfl
theorem A3U (x:List Int) (n:Nat):cutL x (n:Int) (x.length:Int)=x.drop n:=by rw[cutL,zc,zc,z3]
theorem Ad0.last {s:ShfV} {a b:List (List Int)} {z:List Int} (hz:oneC s a b z=0):((Ap6.F (s.2.1,((nN s a+nN s b:Nat):Int),sysR s a b,())).bind fun r41=>(Ae9.F (r41.1.1,sysB s a b z,())).bind fun r42=>if (!r42.1.2.1)=true then some (([],([],((3:Int),()))),())else if 0≤(0:Int)/\(0:Int)≤(nN s a:Int)/\(nN s a:Int)≤(r42.1.1.length:Int)then(Ab2.F (cutL r42.1.1 (0:Int) (nN s a:Int),())).bind fun r43=>if 0≤(nN s a:Int)/\(nN s a:Int)≤(r42.1.1.length:Int)/\(r42.1.1.length:Int)≤(r42.1.1.length:Int)then(Ab2.F (cutL r42.1.1 (nN s a:Int) (r42.1.1.length:Int),())).bind fun r44=>some ((r43.1.1,(r44.1.1,((0:Int),()))),())else none else none)=some (((A0S s a b z).1,(A0S s a b z).2.1,(A0S s a b z).2.2,()),()):=by
 have c:=A5v hz;have hp:=c.s1.1.2.1.1;have na:=(A1l c.s1.1 c.ha c.ia).1;have nb:=(A1l c.s1.1 c.hb c.ib).1;obtain⟨h,h1,o,hb,hi⟩:=A5t c;have m:Ap6.F (s.2.1,((nN s a+nN s b:Nat):Int),sysR s a b,())=some (((s.2.1,(h:Int),((nN s a+nN s b:Nat):Int),(sysR s a b).flatten),()),()):=by
   rw[Ap6.eq,Ap6.T,Ak7.eq,Ak7.T,Aa8.val (w:=nN s a+nN s b) _ (by rw[o.len];omega) (by omega) fun r hr=>Nat.le_of_eq (o.row r hr).1,<-o.len];rfl
 rw[m];simp only[za];rw[Ae9.val hp (show h≤4096 by omega) (by omega) o hb hi];simp only[za];rw[A0S,if_pos hz];unfold splR;cases hs:(solV s.2.1 (nN s a+nN s b) (sysR s a b) (sysB s a b z)).2 with
 | false=>rw[if_pos (by simp),if_neg (by simp)]
 | true =>
   have hl:(solV s.2.1 (nN s a+nN s b) (sysR s a b) (sysB s a b z)).1.length=nN s a+nN s b:=A3O _ _ _ (by simp) hs;rw[if_neg (by simp),if_pos (by omega),A4H,A3U,Ab2.val _ (by rw[z4];omega)];simp only[za];rw[if_pos (by omega),Ab2.val _ (by rw[zr];omega)];simp only[za];simp only[if_true]
theorem Ad0.ties {s:ShfV} {a b:List (List Int)} {z:List Int} (c:OneAt s a b z) (n:Int) (g:List Int) {i:Nat} (hi:i<nv (both a b)) (v:List (List Int)) (hv:v.length+3≤bigA) :
   Goes (fun k=>Ad0.l15 k (nN s a:Int) ((nN s a+nN s b:Nat):Int) ((A0C a ((both a b).getD i []):Nat):Int) ((A0C b ((both a b).getD i []):Nat):Int) n (i:Int) ((stB s a b i:Nat):Int) 0 s.1 s.2.1 s.2.2.1 s.2.2.2 a b (rstS s a).1 (rstS s a).2.1 (rstS s a).2.2.1 (rstS s a).2.2.2 (rstS s b).1 (rstS s b).2.1 (rstS s b).2.2.1 (rstS s b).2.2.2 v g (both a b))
     (fun k=>Ad0.l10 k (nN s a:Int) ((nN s a+nN s b:Nat):Int) n ((i+1:Nat):Int) s.1 s.2.1 s.2.2.1 s.2.2.2 a b (rstS s a).1 (rstS s a).2.1 (rstS s a).2.2.1 (rstS s a).2.2.2 (rstS s b).1 (rstS s b).2.1 (rstS s b).2.2.1 (rstS s b).2.2.2 (v++A1H s a b i) g (both a b)):=by
 have V:=A4g c.toCovAt hi;have hp:=c.s1.1.2.1.1;have na:=(A1l c.s1.1 c.ha c.ia).1;have nb:=(A1l c.s1.1 c.hb c.ib).1;have q1:=V.ba;have q2:=V.bb;have q3:=V.st3;have hn:=c.hB.1;have hlt:=V.lt;obtain⟨n1a,-,-⟩:=A1z c.ha;obtain⟨n1b,-,-⟩:=A1z c.hb;have f1:Ac6.F (((rstS s a).1,((rstS s a).2.1,((rstS s a).2.2.1,(rstS s a).2.2.2))),((A0C a ((both a b).getD i []):Nat):Int),())=some ((((cP s a b a i:Nat):Int),()),()):=by
   have:=Ac6.val (rstS s a) (A0b c.s1.1 c.ha c.ia) _ (show A0C a ((both a b).getD i [])<(rstS s a).1.length by show _<a.length;have:=V.ja;omega);rw[V.ca]at this;exact this
 have f2:Ac6.F (((rstS s b).1,((rstS s b).2.1,((rstS s b).2.2.1,(rstS s b).2.2.2))),((A0C b ((both a b).getD i []):Nat):Int),())=some ((((cP s a b b i:Nat):Int),()),()):=by
   have:=Ac6.val (rstS s b) (A0b c.s1.1 c.hb c.ib) _ (show A0C b ((both a b).getD i [])<(rstS s b).1.length by show _<b.length;have:=V.jb;omega);rw[V.cb]at this;exact this
 obtain⟨y,hy,hg⟩:=Goes.loop (R:=((List Int×List Int×Int×Unit)×Unit)) (fun k q (y:List (List Int))=>Ad0.l15 k (nN s a:Int) ((nN s a+nN s b:Nat):Int) ((A0C a ((both a b).getD i []):Nat):Int) ((A0C b ((both a b).getD i []):Nat):Int) n (i:Int) ((stB s a b i:Nat):Int) (q:Int) s.1 s.2.1 s.2.2.1 s.2.2.2 a b (rstS s a).1 (rstS s a).2.1 (rstS s a).2.2.1 (rstS s a).2.2.2 (rstS s b).1 (rstS s b).2.1 (rstS s b).2.2.1 (rstS s b).2.2.2 y g (both a b)) (stB s a b i) (fun q y=>y=v++(zd q).map fun q=>tieR (nN s a+nN s b) (cP s a b a i+q) (nN s a+cP s a b b i+q) s.2.1) (fun q y hq h2=>⟨_,rfl,Goes.succ fun k=>by
   have e1:((cP s a b a i:Nat):Int)+(q:Int)=((cP s a b a i+q:Nat):Int):=by omega
   have e2:((nN s a:Nat):Int)+((cP s a b b i:Nat):Int)=((nN s a+cP s a b b i:Nat):Int):=by omega
   have e3:((nN s a+cP s a b b i:Nat):Int)+(q:Int)=((nN s a+cP s a b b i+q:Nat):Int):=by omega
   have hl:y.length=v.length+q:=by rw[h2,zg,zo,zq]
   rw[Ad0.l15_eq,if_pos (ltI.2 hq),if_pos (by simp only[bigN];omega),f1];simp only[za];rw[e1,A0q (x:=((cP s a b a i+q:Nat):Int)) (by omega) (by omega),if_pos (idxI.2 (by rw[zh];omega)),f2];simp only[za];rw[e2,A0q (x:=((nN s a+cP s a b b i:Nat):Int)) (by omega) (by omega),e3,A0q (x:=((nN s a+cP s a b b i+q:Nat):Int)) (by omega) (by omega)];simp only[zc];rw[if_pos (idxI.2 (by rw[zA,zh];omega)),if_pos (by simp only[zk,zn];omega),A0x (by omega),A0q (x:=s.2.1-1) (by omega) (by omega),h2,zv,zz,zD];rfl⟩) 0 v (zj _) (by simp)
 refine hg.trans (Goes.succ fun k=>?_);rw[Ad0.l15_eq,if_neg (by simp),A0x (by omega),hy];rfl
theorem A4n {t:ShfV} (ho:A0j t):cobM t 0=(t.2.1,(((A0v t 1).toNat:Nat):Int),(((A0v t 0).toNat:Nat):Int),(cobM t 0).2.2.2):=by
 have h1:=A0A ho 1;have h0:=A0A ho 0;rw[zU h1.1,zU h0.1];rfl
theorem A2i {t:ShfV} (ho:A0j t) {N l:Nat} (hN:N≤255) (hl:l+(A0v t 0).toNat≤N):Ag7.F (cobM t 0,(l:Int),(N:Int),())=some (((A0K t).map (spA N l),()),()):=by
 have h1:=A0A ho 1;have h0:=A0A ho 0;have hx:(cobM t 0).2.2.2.length=(A0v t 1).toNat*(A0v t 0).toNat:=by
   show(wr _ _).length=_;rw[A0c,zh];rfl
 have:=Ag7.val (p:=t.2.1) (R:=(A0v t 1).toNat) (C:=(A0v t 0).toNat) (xs:=(cobM t 0).2.2.2) (by omega) (by omega) hx hN hl;rw[A4n ho,A2r ho];exact this
theorem Ad0.val (s:ShfV) (a b:List (List Int)) (z:List Int) (hs:SmSh s) (ha:SmL a) (hb:SmL b) (hz:z.length≤1048576):Ad0.F (s,a,b,z,())=some (((A0S s a b z).1,(A0S s a b z).2.1,(A0S s a b z).2.2,()),()):=by
 have a1:Ak3.F ((s.1,(s.2.1,(s.2.2.1,s.2.2.2))),a,b,z,())=_:=Ak3.val s a b z hs ha hb hz;have hT:∀ r,Ev (fun n=>Ad0.T n s.1 s.2.1 s.2.2.1 s.2.2.2 a b z) r->Ad0.F (s,a,b,z,())=some r:=fun r hr=>Ad0.of _ _ _ _ _ _ _ hr;refine hT _ ?_;by_cases h:oneC s a b z=0
 . have c:=A5v h;have hp:=c.s1.1.2.1.1;have oA:=A0b c.s1.1 c.ha c.ia;have oB:=A0b c.s1.1 c.hb c.ib;obtain⟨na,na'⟩:=A1l c.s1.1 c.ha c.ia;obtain⟨nb,nb'⟩:=A1l c.s1.1 c.hb c.ib;have hn:=c.hB.1;obtain⟨n1,n2,n3⟩:=A1z c.hB;obtain⟨t1,t2⟩:=A5L c.toCovAt;have tl:=A4Q c.toCovAt;have zb:=A0A (A0b c.s1.1 c.hB c.iB) 0;have hz1:=c.hz.1;have r1:Ag1.F ((s.1,(s.2.1,(s.2.2.1,s.2.2.2))),a,())=some ((rstS s a,()),()):=A2q c.s1.1 c.ha c.ia;have r2:Ag1.F ((s.1,(s.2.1,(s.2.2.1,s.2.2.2))),b,())=some ((rstS s b,()),()):=A2q c.s1.1 c.hb c.ib;have s1:Aa4.F (rstS s a,(0:Int),())=some ((((nN s a:Nat):Int),()),()):=by rw[na'];exact Aa4.val' (rstS s a) oA 0 (by omega)
   have s2:Aa4.F (rstS s b,(0:Int),())=some ((((nN s b:Nat):Int),()),()):=by rw[nb'];exact Aa4.val' (rstS s b) oB 0 (by omega)
   have m1:Ab1.F (rstS s a,(0:Int),())=_:=Ab1.val (rstS s a) oA 0 (by omega);have m2:Ab1.F (rstS s b,(0:Int),())=_:=Ab1.val (rstS s b) oB 0 (by omega);have p1:Ag7.F (cobM (rstS s a) 0,(0:Int),((nN s a+nN s b:Nat):Int),())=_:=A2i oA (N:=nN s a+nN s b) (l:=0) (by omega) (by show 0+nN s a≤_;omega);have p2:Ag7.F (cobM (rstS s b) 0,((nN s a:Nat):Int),((nN s a+nN s b:Nat):Int),())=_:=A2i oB (N:=nN s a+nN s b) (l:=nN s a) (by omega) (by show nN s a+nN s b≤_;omega);have lA:((A0K (rstS s a)).map (spA (nN s a+nN s b) 0)).length≤64/\((A0K (rstS s b)).map (spA (nN s a+nN s b) (nN s a))).length≤64:=by
     rw[topR,zg]at t1;omega
   have cc:=A4W (A:=(A0K (rstS s a)).map (spA (nN s a+nN s b) 0)) (B:=(A0K (rstS s b)).map (spA (nN s a+nN s b) (nN s a))) (by omega) (by omega);have c2:Aa8.F ([zf (topR s a b).length (0:Int),z],())=some ((sysB s a b z,()),()):=by
     rw[Aa8.val (w:=64) _ (by simp) (by omega) fun r hr=>by
       simp only[yx,List.not_mem_nil,or_false]at hr;rcases hr with rfl|rfl
       . rw[zh];omega
       . omega]
     simp only[zB,List.flatten_nil,z5];rfl
   obtain⟨y,hy,hg⟩:=Goes.loop (R:=((List Int×List Int×Int×Unit)×Unit)) (fun k i (y:List (List Int))=>Ad0.l10 k (nN s a:Int) ((nN s a+nN s b:Nat):Int) ((both a b).length:Int) (i:Int) s.1 s.2.1 s.2.2.1 s.2.2.2 a b (rstS s a).1 (rstS s a).2.1 (rstS s a).2.2.1 (rstS s a).2.2.2 (rstS s b).1 (rstS s b).2.1 (rstS s b).2.2.1 (rstS s b).2.2.2 y (sysB s a b z) (both a b)) (nv (both a b)) (fun i y=>y=topR s a b++(zd i).flatMap (A1H s a b)) (fun i y hi h2=>by
     have V:=A4g c.toCovAt hi;have fl:((zd i).flatMap (A1H s a b)).length≤3*i:=A2Q i fun j hj=>by rw[A1H,zo,zq];exact(A4g c.toCovAt (show j<nv (both a b)by omega)).st3
     have hyl:y.length+3≤bigA:=by rw[h2,zg];simp only[bigA];omega
     refine⟨_,?_,(Goes.succ fun k=>?_).trans (Ad0.ties c ((both a b).length:Int) (sysB s a b z) hi y hyl)⟩
     . rw[h2,A0F,zD]
     . rw[Ad0.l10_eq,if_pos (ltI.2 V.lt),if_pos (idxI.2 V.lt)];simp only[zc];rw[if_neg (by simp only[decide_eq_true_eq];have:=V.one;omega),A1V c.ha (both_in.1 _ (A0z [] V.lt))];simp only[za];rw[A1V c.hb (both_in.2 _ (A0z [] V.lt))];simp only[za];rw[if_pos (idxI.2 (by have:=V.ja;have h5:=oA.2.2.1.1;have h6:=(A1z c.ha).1;have h7:(rstS s a).1.length=a.length:=rfl;omega))];simp only[zc];rw[V.sta]) 0 (topR s a b) (zj _) (by simp)
   refine Ev.of_eq (hg _ ((Ev.const _).succ fun k=>?_)) fun k=>?_
   . have e:y=sysR s a b:=by rw[hy,sysR]
     rw[Ad0.l10_eq,e];by_cases hlt:nv (both a b)<(both a b).length
     . have h1:=(c.hB.2 _ hlt).1.1.1;have h2:((both a b).getD (nv (both a b)) []).length≠1:=fun h3=>absurd (n3 _ hlt h3) (Nat.lt_irrefl _);rw[if_pos (ltI.2 hlt),if_pos (idxI.2 hlt)];simp only[zc];rw[if_pos (by simp only[decide_eq_true_eq];omega)];exact Ad0.last h
     . rw[if_neg (by simp only[decide_eq_true_eq];omega)];exact Ad0.last h
   . rw[Ad0.T,a1];simp only[za];rw[if_neg (by simp[h]),r1];simp only[za];rw[r2];simp only[za];rw[s1];simp only[za];rw[s2];simp only[za];rw[m1];simp only[za];rw[show((nN s a:Nat):Int)+((nN s b:Nat):Int)=((nN s a+nN s b:Nat):Int)by omega,A0q (x:=((nN s a+nN s b:Nat):Int)) (by omega) (by omega),p1];simp only[za];rw[m2];simp only[za];rw[p2];simp only[za];rw[cc];simp only[za];rw[show(A0K (rstS s a)).map (spA (nN s a+nN s b) 0)++(A0K (rstS s b)).map (spA (nN s a+nN s b) (nN s a))=topR s a b from rfl,if_pos (by simp only[bigN];omega)];simp only[zc];rw[c2];simp only[za];rw[Ai7.val a b c.ha.small c.hb.small c.ha.sorted c.hb.sorted];rfl
 . refine(Ev.const _).of_eq fun n=>?_;rw[Ad0.T,a1];simp only[za];rw[if_pos (by simpa using h),A0S,if_neg h]
theorem Ac1.ties {s:ShfV} {a b:List (List Int)} {z:List Int} (c:OneAt s a b z) (g:List Int) {i:Nat} (hi:i<nv (both a b)) (v:List (List Int)) (hv:v.length+3≤bigA) :
   Goes (fun k=>Ac1.l28 k z (nN s a:Int) ((nN s a+nN s b:Nat):Int) (i:Int) 0 s.1 s.2.1 s.2.2.1 s.2.2.2 v g (vpl s (both a b)) (vpl s a) (vpl s b)) (fun k=>Ac1.l25 k z (nN s a:Int) ((nN s a+nN s b:Nat):Int) ((i+1:Nat):Int) s.1 s.2.1 s.2.2.1 s.2.2.2 (v++A1H s a b i) g (vpl s (both a b)) (vpl s a) (vpl s b)):=by
 have V:=A4g c.toCovAt hi;have hp:=c.s1.1.2.1.1;have na:=(A1l c.s1.1 c.ha c.ia).1;have nb:=(A1l c.s1.1 c.hb c.ib).1;have q1:=V.ba;have q2:=V.bb;have q3:=V.st3;have js:=V.js;have hn:=c.hB.1;have hlt:=V.lt;have hsl:=c.s1.1.2.2.1.1;have f1:Ah7.F ((s.1,(s.2.1,(s.2.2.1,s.2.2.2))),vpl s a,((A0C s.1 ((both a b).getD i []):Nat):Int),())=some ((((cP s a b a i:Nat):Int),()),()):=by
   have:=Ah7.val c.s1.1 c.ha c.ia V.ja;rw[V.ga,V.ca]at this;exact this
 have f2:Ah7.F ((s.1,(s.2.1,(s.2.2.1,s.2.2.2))),vpl s b,((A0C s.1 ((both a b).getD i []):Nat):Int),())=some ((((cP s a b b i:Nat):Int),()),()):=by
   have:=Ah7.val c.s1.1 c.hb c.ib V.jb;rw[V.gb,V.cb]at this;exact this
 have hx:i<(vpl s (both a b)).length:=by rw[A0Z];exact hi
 have hxv:=A3R s (both a b) hi;have hst:=V.st;obtain⟨y,hy,hg⟩:=Goes.loop (R:=((List Int×List Int×Int×Unit)×Unit)) (fun k q (y:List (List Int))=>Ac1.l28 k z (nN s a:Int) ((nN s a+nN s b:Nat):Int) (i:Int) (q:Int) s.1 s.2.1 s.2.2.1 s.2.2.2 y g (vpl s (both a b)) (vpl s a) (vpl s b)) (stB s a b i) (fun q y=>y=v++(zd q).map fun q=>tieR (nN s a+nN s b) (cP s a b a i+q) (nN s a+cP s a b b i+q) s.2.1) (fun q y hq h2=>⟨_,rfl,Goes.succ fun k=>by
   have e1:((cP s a b a i:Nat):Int)+(q:Int)=((cP s a b a i+q:Nat):Int):=by omega
   have e2:((nN s a:Nat):Int)+((cP s a b b i:Nat):Int)=((nN s a+cP s a b b i:Nat):Int):=by omega
   have e3:((nN s a+cP s a b b i:Nat):Int)+(q:Int)=((nN s a+cP s a b b i+q:Nat):Int):=by omega
   have hl:y.length=v.length+q:=by rw[h2,zg,zo,zq]
   rw[Ac1.l28_eq,if_pos (idxI.2 hx)];simp only[zc,hxv];rw[if_pos (idxI.2 (by omega)),<-hst,if_pos (ltI.2 hq),if_pos (by simp only[bigN];omega),if_pos (idxI.2 hx),f1];simp only[za];rw[e1,A0q (x:=((cP s a b a i+q:Nat):Int)) (by omega) (by omega),if_pos (idxI.2 (by rw[zh];omega)),if_pos (idxI.2 hx),f2];simp only[za];rw[e2,A0q (x:=((nN s a+cP s a b b i:Nat):Int)) (by omega) (by omega),e3,A0q (x:=((nN s a+cP s a b b i+q:Nat):Int)) (by omega) (by omega)];simp only[zc];rw[if_pos (idxI.2 (by rw[zA,zh];omega)),if_pos (by simp only[zk,zn];omega),A0x (by omega),A0q (x:=s.2.1-1) (by omega) (by omega),h2,zv,zz,zD];rfl⟩) 0 v (zj _) (by simp)
 refine hg.trans (Goes.succ fun k=>?_);rw[Ac1.l28_eq,if_pos (idxI.2 hx)];simp only[zc,hxv];rw[if_pos (idxI.2 (by omega)),<-hst,if_neg (by simp),A0x (by omega),hy];rfl
theorem Ac1.last {s:ShfV} {a b:List (List Int)} {z:List Int} (h:oneC s a b z=0):((Al5.F (s.2.1,((nN s a+nN s b:Nat):Int),sysR s a b,())).bind fun r79=>(Ah5.F (r79.1.1,sysB s a b z,())).bind fun r80=>if (!r80.1.2.1)=true then some (([],([],((3:Int),()))),())else if 0≤(0:Int)/\(0:Int)≤(nN s a:Int)/\(nN s a:Int)≤(r80.1.1.length:Int)then(Aa3.F (cutL r80.1.1 (0:Int) (nN s a:Int),())).bind fun r81=>if 0≤(nN s a:Int)/\(nN s a:Int)≤(r80.1.1.length:Int)/\(r80.1.1.length:Int)≤(r80.1.1.length:Int)then(Aa3.F (cutL r80.1.1 (nN s a:Int) (r80.1.1.length:Int),())).bind fun r82=>some ((r81.1.1,(r82.1.1,((0:Int),()))),())else none else none)=some (((A0S s a b z).1,(A0S s a b z).2.1,(A0S s a b z).2.2,()),()):=by
 have c:=A5v h;have hp:=c.s1.1.2.1.1;have na:=(A1l c.s1.1 c.ha c.ia).1;have nb:=(A1l c.s1.1 c.hb c.ib).1;obtain⟨h',h1,o,hb,hi⟩:=A5t c;have m:=Al5.val (p:=s.2.1) (w:=nN s a+nN s b) (by omega) (R:=sysR s a b) (by rw[o.len];omega) fun r hr=>Nat.le_of_eq (o.row r hr).1;rw[o.len]at m;rw[m];simp only[za];rw[Ah5.val hp (show h'≤4096 by omega) (by omega) o hb hi];simp only[za];rw[A0S,if_pos h];unfold splR;cases hs:(solV s.2.1 (nN s a+nN s b) (sysR s a b) (sysB s a b z)).2 with
 | false=>rw[if_pos (by simp),if_neg (by simp)]
 | true =>
   have hl:(solV s.2.1 (nN s a+nN s b) (sysR s a b) (sysB s a b z)).1.length=nN s a+nN s b:=A3O _ _ _ (by simp) hs;rw[if_neg (by simp),if_pos (by omega),A4H,A3U,Aa3.val _ (by rw[z4];omega)];simp only[za];rw[if_pos (by omega),Aa3.val _ (by rw[zr];omega)];simp only[za];simp only[if_true]
theorem Ac1.val (s:ShfV) (a b:List (List Int)) (z:List Int) (hs:SmSh s) (ha:SmL a) (hb:SmL b) (hz:z.length≤1048576):Ac1.F (s,a,b,z,())=some (((A0S s a b z).1,(A0S s a b z).2.1,(A0S s a b z).2.2,()),()):=by
 have a1:Am0.F ((s.1,(s.2.1,(s.2.2.1,s.2.2.2))),a,b,z,())=_:=Am0.val s a b z hs ha hb hz;have hT:∀ r,Ev (fun n=>Ac1.T n s.1 s.2.1 s.2.2.1 s.2.2.2 a b z) r->Ac1.F (s,a,b,z,())=some r:=fun r hr=>Ac1.of _ _ _ _ _ _ _ hr;refine hT _ ?_;by_cases h:oneC s a b z=0
 . have c:=A5v h;have hp:=c.s1.1.2.1.1;have oA:=A0b c.s1.1 c.ha c.ia;have oB:=A0b c.s1.1 c.hb c.ib;obtain⟨na,na'⟩:=A1l c.s1.1 c.ha c.ia;obtain⟨nb,nb'⟩:=A1l c.s1.1 c.hb c.ib;have hn:=c.hB.1;obtain⟨n1,n2,n3⟩:=A1z c.hB;obtain⟨t1,t2⟩:=A5L c.toCovAt;have zb:=A0A (A0b c.s1.1 c.hB c.iB) 0;have hz1:=c.hz.1;have b1:=A0A oA 1;have b2:=A0A oB 1;have okA:=A2O oA;have okB:=A2O oB;have r1:Ae8.F ((s.1,(s.2.1,(s.2.2.1,s.2.2.2))),a,())=some ((rstS s a,()),()):=Ae8.val hs c.ha.small c.s1 c.ha c.ia;have r2:Ae8.F ((s.1,(s.2.1,(s.2.2.1,s.2.2.2))),b,())=some ((rstS s b,()),()):=Ae8.val hs c.hb.small c.s1 c.hb c.ib;have s1:Ac4.F (rstS s a,())=some ((((nN s a:Nat):Int),()),()):=by
     have:=Ad7.val' (rstS s a) oA 0 (by omega);rw[na',show Ac4.F (rstS s a,())=Ac4.T (rstS s a).1 (rstS s a).2.1 (rstS s a).2.2.1 (rstS s a).2.2.2 from Ac4.eq _ _ _ _,Ac4.T,this];rfl
   have s2:Ac4.F (rstS s b,())=some ((((nN s b:Nat):Int),()),()):=by
     have:=Ad7.val' (rstS s b) oB 0 (by omega);rw[nb',show Ac4.F (rstS s b,())=Ac4.T (rstS s b).1 (rstS s b).2.1 (rstS s b).2.2.1 (rstS s b).2.2.2 from Ac4.eq _ _ _ _,Ac4.T,this];rfl
   have m1:=Ad9.val (rstS s a) oA;have m2:Ad9.F (((rstS s b).1,((rstS s b).2.1,((rstS s b).2.2.1,(rstS s b).2.2.2))),())=_:=Ad9.val (rstS s b) oB;have vB:Af6.F ((s.1,(s.2.1,(s.2.2.1,s.2.2.2))),both a b,())=_:=Af6.val c.s1.1 c.hB c.iB;have vA:Af6.F ((s.1,(s.2.1,(s.2.2.1,s.2.2.2))),a,())=_:=Af6.val c.s1.1 c.ha c.ia;have vb:Af6.F ((s.1,(s.2.1,(s.2.2.1,s.2.2.2))),b,())=_:=Af6.val c.s1.1 c.hb c.ib;have sp1:∀ i,i<(A0K (rstS s a)).length->(A0K (rstS s a)).getD i []++zf (nN s b) 0=spA (nN s a+nN s b) 0 ((A0K (rstS s a)).getD i []):=fun i hi=>by
     have hl:((A0K (rstS s a)).getD i []).length=nN s a:=(okA.row _ (A0z [] hi)).1;rw[spA,hl,show nN s a+nN s b-0-nN s a=nN s b by omega];rfl
   have sp2:∀ i,i<(A0K (rstS s b)).length->zf (nN s a) 0++(A0K (rstS s b)).getD i []=spA (nN s a+nN s b) (nN s a) ((A0K (rstS s b)).getD i []):=fun i hi=>by
     have hl:((A0K (rstS s b)).getD i []).length=nN s b:=(okB.row _ (A0z [] hi)).1;rw[spA,hl,show nN s a+nN s b-nN s a-nN s b=0 by omega];simp
   have map_range:∀ (L:List (List Int)) (f:List Int->List Int),(zd L.length).map (fun i=>f (L.getD i []))=L.map f:=fun L f=>by
     conv=>rhs;rw[<-A1T L]
     rw[yp];rfl
   have lens:(A0K (rstS s a)).length≤64/\(A0K (rstS s b)).length≤64:=by rw[okA.len,okB.len];omega
   have g1:=Goes.push (R:=(List Int×List Int×Int×Unit)×Unit) (fun k i v=>Ac1.l11 k z (nN s a:Int) ((nN s a+nN s b:Nat):Int) (i:Int) s.1 s.2.1 s.2.2.1 s.2.2.2 a b (rstS s b).1 (rstS s b).2.1 (rstS s b).2.2.1 (rstS s b).2.2.2 v (A0K (rstS s a))) (A0K (rstS s a)).length (fun i=>spA (nN s a+nN s b) 0 ((A0K (rstS s a)).getD i [])) fun i v hi hv=>Goes.succ fun k=>by
     have hl:((A0K (rstS s a)).getD i []).length=nN s a:=(okA.row _ (A0z [] hi)).1;have e1:((nN s a+nN s b:Nat):Int)-((nN s a:Nat):Int)=((nN s b:Nat):Int):=by omega
     rw[Ac1.l11_eq,if_pos (ltI.2 hi),if_pos (idxI.2 hi)];simp only[zc];rw[Aa3.val _ (by omega)];simp only[za];rw[e1,A0q (x:=((nN s b:Nat):Int)) (by omega) (by omega)];simp only[zc];rw[if_pos ⟨by omega,by simp only[bigA];omega⟩,sp1 i hi,if_pos (A1D hv (by omega)),A0x (by omega)]
   rw[map_range (A0K (rstS s a)) (spA (nN s a+nN s b) 0)]at g1;obtain⟨y2,hy2,g2⟩:=Goes.loop (R:=((List Int×List Int×Int×Unit)×Unit)) (fun k i (v:List (List Int))=>Ac1.l16 k z (nN s a:Int) ((nN s a+nN s b:Nat):Int) (i:Int) s.1 s.2.1 s.2.2.1 s.2.2.2 a b v (A0K (rstS s b))) (A0K (rstS s b)).length (fun i v=>v=(A0K (rstS s a)).map (spA (nN s a+nN s b) 0)++(zd i).map fun i=>spA (nN s a+nN s b) (nN s a) ((A0K (rstS s b)).getD i [])) (fun i v hi h2=>⟨_,rfl,Goes.succ fun k=>by
     have hl:((A0K (rstS s b)).getD i []).length=nN s b:=(okB.row _ (A0z [] hi)).1;have hvl:v.length≤128:=by rw[h2,zg,zo,zo,zq];omega
     rw[Ac1.l16_eq,if_pos (ltI.2 hi),if_pos (by simp only[bigN];omega),if_pos (idxI.2 hi)];simp only[zc];rw[if_pos (by rw[zh];simp only[bigA];omega),sp2 i hi,if_pos (by simp only[zk,zn,bigA];omega),A0x (by omega),h2,zv,zz,zD];rfl⟩) 0 ((A0K (rstS s a)).map (spA (nN s a+nN s b) 0)) (zj _) (by simp)
   have hy2':y2=topR s a b:=by rw[hy2,map_range (A0K (rstS s b)) (spA (nN s a+nN s b) (nN s a))];rfl
   obtain⟨y,hy,g3⟩:=Goes.loop (R:=((List Int×List Int×Int×Unit)×Unit)) (fun k i (y:List (List Int))=>Ac1.l25 k z (nN s a:Int) ((nN s a+nN s b:Nat):Int) (i:Int) s.1 s.2.1 s.2.2.1 s.2.2.2 y (zf (topR s a b).length 0) (vpl s (both a b)) (vpl s a) (vpl s b)) (nv (both a b)) (fun i y=>y=topR s a b++(zd i).flatMap (A1H s a b)) (fun i y hi h2=>by
     have fl:((zd i).flatMap (A1H s a b)).length≤3*i:=A2Q i fun j hj=>by rw[A1H,zo,zq];exact(A4g c.toCovAt (show j<nv (both a b)by omega)).st3
     have hyl:y.length+3≤bigA:=by rw[h2,zg];simp only[bigA];omega
     refine⟨_,?_,(Goes.succ fun k=>?_).trans (Ac1.ties c (zf (topR s a b).length 0) hi y hyl)⟩
     . rw[h2,A0F,zD]
     . rw[Ac1.l25_eq,if_pos (ltI.2 (by rw[A0Z];exact hi))]) 0 (topR s a b) (zj _) (by simp)
   refine Ev.of_eq (g1 _ ((g2 _ ((g3 _ ((Ev.const _).succ fun k=>?_)).succ fun k=>?_)).succ fun k=>?_)) fun k=>?_
   . have e:y=sysR s a b:=by rw[hy,sysR]
     rw[Ac1.l25_eq,if_neg (by rw[A0Z];simp),if_pos (by rw[zh];simp only[bigA];omega),e];exact Ac1.last h
   . rw[Ac1.l16_eq,if_neg (by simp),if_pos (by rw[hy2'];simp only[bigN];omega),Ac5.val a b c.ha.small c.hb.small];simp only[za];rw[vB];simp only[za];rw[vA];simp only[za];rw[vb,hy2'];simp only[za,zc];rfl
   . rw[Ac1.l11_eq,if_neg (by simp),m2];rfl
   . rw[Ac1.T,a1];simp only[za];rw[if_neg (by simp[h]),r1];simp only[za];rw[r2];simp only[za];rw[s1];simp only[za];rw[s2];simp only[za];rw[m1];simp only[za];rw[show((nN s a:Nat):Int)+((nN s b:Nat):Int)=((nN s a+nN s b:Nat):Int)by omega,A0q (x:=((nN s a+nN s b:Nat):Int)) (by omega) (by omega)];rfl
 . refine(Ev.const _).of_eq fun n=>?_;rw[Ac1.T,a1];simp only[za];rw[if_pos (by simpa using h),A0S,if_neg h]
theorem A3l (s:ShfV) (a b:List (List Int)) (z:List Int):(A0S s a b z).1.length≤1048576/\(A0S s a b z).2.1.length≤1048576:=by
 unfold A0S;split
 . rename_i h;have c:=A5v h;have na:=(A1l c.s1.1 c.ha c.ia).1;have nb:=(A1l c.s1.1 c.hb c.ib).1;unfold splR;split
   . rename_i hs;have hl:(solV s.2.1 (nN s a+nN s b) (sysR s a b) (sysB s a b z)).1.length=nN s a+nN s b:=A3O _ _ _ (by simp) hs;rw[z4,zr];omega
   . simp
 . simp
theorem A4t (xs:List Int) (n:Int) (h0:0≤n) (h1:n+xs.length≤4611686018427387904):∃ ys,Ab4.F (xs,n,())=some ((n+xs.length,()),(ys,()))/\Ah8.F (ys,n,())=some ((n+xs.length,()),()):=by
 obtain⟨ys,h2,h3,h4⟩:=Ab4.val xs n h0 h1;exact⟨ys,h2,by rw[Ah8.val ys n h0 (by omega) h4,h3]⟩
theorem An8.pure (d:Ins An8.sig.ps) (h:wfIns An8.sig.ps d):∃ mu,An8.F d=some ((true,()),mu):=by
 obtain⟨d0,d1,d2,d3,⟨⟩⟩:=d;obtain⟨hw0,hw1,hw2,hw3,_⟩:=h;obtain⟨w0a,w0b,w0c,w0d,w0e⟩:=shf_wf hw0;obtain⟨w1a,w1b⟩:=A5n hw1;obtain⟨w2a,w2b⟩:=A5n hw2;refine⟨(),?_⟩;have hT:An8.F (d0,d1,d2,d3,())=An8.T d0.1 d0.2.1 d0.2.2.1 d0.2.2.2 d1 d2 d3:=An8.eq _ _ _ _ _ _ _;rw[hT,An8.T];by_cases hl3:d3.length≤1048576
 . rw[if_neg (by simp;omega)];obtain⟨r0,e0,k0⟩:=An9.val d0 1048576 (by omega) (by omega) w0a w0b w0c w0d w0e;have e0:An9.F ((d0.1,(d0.2.1,(d0.2.2.1,d0.2.2.2))),1048576,())=_:=e0;rw[e0];simp only[za];rcases k0 with rfl|⟨a0,b0,c0⟩
   . rw[if_pos (by simp)]
   rw[if_neg (by simp;omega)];obtain⟨r1,e1,k1⟩:=Ah1.val d1 r0 a0 (by omega) w1a w1b;rw[e1];simp only[za];rcases k1 with rfl|⟨a1,b1,c1⟩
   . rw[if_pos (by simp)]
   rw[if_neg (by simp;omega)];obtain⟨r2,e2,k2⟩:=Ah1.val d2 r1 a1 (by omega) w2a w2b;rw[e2];simp only[za];rcases k2 with rfl|⟨a2,b2,c2⟩
   . rw[if_pos (by simp)]
   rw[if_neg (by simp;omega)];have t0:Ak0.F ((d0.1,(d0.2.1,(d0.2.2.1,d0.2.2.2))),())=_:=Ak0.val d0 c0;obtain⟨f0,g0,g0'⟩:=Aq2.same d0 d0 c0;obtain rfl:f0=true:=g0'.2 rfl;obtain⟨v0,s0,m0,ma0,mb0⟩:=Aq3.some d0 1 c0 (by omega) (by omega);have t1:=Ae2.val d1 c1;obtain⟨f1,g1,g1'⟩:=Ag9.same d1 d1 c1;obtain rfl:f1=true:=g1'.2 rfl;obtain⟨v1,s1,m1,ma1,mb1⟩:=Ah0.some d1 v0 c1 (by omega) (by omega);have t2:=Ae2.val d2 c2;obtain⟨f2,g2,g2'⟩:=Ag9.same d2 d2 c2;obtain rfl:f2=true:=g2'.2 rfl;obtain⟨v2,s2,m2,ma2,mb2⟩:=Ah0.some d2 v1 c2 (by omega) (by omega);have t3:=Ac0.val d3 (by omega);have g3:=Aa5.refl d3 (by omega);obtain⟨v3,s3,m3,ma3,mb3⟩:=Ab4.some d3 v2 hl3 (by omega) (by omega);have hs:=A3l d0 d1 d2 d3;have gr:=Aa5.refl (A0S d0 d1 d2 d3).1 (by omega);have gr2:=Aa5.refl (A0S d0 d1 d2 d3).2.1 (by omega);obtain⟨ys,n1,n2⟩:=A4t (A0S d0 d1 d2 d3).1 1 (by omega) (by omega);obtain⟨zs,n3,n4⟩:=A4t (A0S d0 d1 d2 d3).2.1 (1+(A0S d0 d1 d2 d3).1.length) (by omega) (by omega);have q1:¬ v3<0:=by omega
   have q2:¬ (1+((A0S d0 d1 d2 d3).1.length:Int))<0:=by omega
   have q3:¬ (1+((A0S d0 d1 d2 d3).1.length:Int)+((A0S d0 d1 d2 d3).2.1.length:Int))<0:=by omega
   simp[t0,g0,m0,t1,g1,m1,t2,g2,m2,t3,g3,m3,Ac1.val d0 d1 d2 d3 c0 c1 c2 hl3,Ad0.val d0 d1 d2 d3 c0 c1 c2 hl3,gr,gr2,n1,n2,n3,n4,q1,q2,q3]
 . rw[if_pos (by simp;omega)]
end Go.Proofs.YtpdlhcgmejadnaaGreat
