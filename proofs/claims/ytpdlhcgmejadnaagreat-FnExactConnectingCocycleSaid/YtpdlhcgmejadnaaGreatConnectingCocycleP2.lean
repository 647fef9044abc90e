/- What the functions answer. -/
import Derived.Test.YtpdlhcgmejadnaaGreatConnectingCocycleP1
namespace Go.Proofs.YtpdlhcgmejadnaaGreat
open Go Go.Vm
set_option linter.unusedVariables false
set_option linter.unusedSimpArgs false
theorem Aa8.val (s:ShfV) (ho:A0v s) (k:Int) (hk:-1≤k/\k≤10):Aa8.F (s,k,())=some ((cobM s k,()),()):=by
 have hcl:=ho.1.1;have hp:=ho.2.1.1;obtain⟨c1,c2⟩:=A0E ho k;obtain⟨d1,d2⟩:=A0E ho (k+1);obtain⟨W,hW⟩:∃ W,(A0j s k).toNat=W:=⟨_,rfl⟩;obtain⟨H,hH⟩:∃ H,(A0j s (k+1)).toNat=H:=⟨_,rfl⟩;have eW:A0j s k=(W:Int):=by omega
 have eH:A0j s (k+1)=(H:Int):=by omega
 obtain⟨hs,ehs⟩:∃ hs,A0w s.1 (k+1) s.1.length=hs:=⟨_,rfl⟩;have hsl:hs.length≤48:=by rw[<-ehs];have:=A0D s.1 (k+1) s.1.length;omega
 have hsat:∀ m,m<hs.length->∃ j:Nat,hs.getD m 0=(j:Int)/\j<s.1.length/\((s.1.getD j []).length:Int)=k+2:=fun m hm=>by
   rw[<-ehs]at hm ⊢;obtain⟨j,a,b,c⟩:=A2k hm;exact⟨j,a,b,by omega⟩
 have hT:∀ r,Ev (fun n=>Aa8.T n s.1 s.2.1 s.2.2.1 s.2.2.2 k) r->Aa8.F (s,k,())=some r:=fun r hr=>Aa8.of _ _ _ _ _ hr;have w1:IntKind.i64.wrap (k+1)=k+1:=A0B (by omega) (by omega);have g1:Ab0.F ((s.1,(s.2.1,(s.2.2.1,s.2.2.2))),k+1,())=_:=Ab0.val' s ho (k+1) (by omega);have g2:Ab0.F ((s.1,(s.2.1,(s.2.2.1,s.2.2.2))),k,())=_:=Ab0.val' s ho k (by omega);have g3:=Ac5.val s.1 (k+1) (by omega) (by omega);rw[ehs]at g3;have hM:cobM s k=(s.2.1,(H:Int),(W:Int),wr (cobW s k) (List.replicate (H*W) 0)):=by rw[cobM,eH,eW];simp only[Int.toNat_natCast]
 rw[hM];refine hT _ (Ev.of_eq (N:=fun n=>Aa8.l3 n k (hs.length:Int) ((0:Nat):Int) s.1 s.2.1 s.2.2.1 s.2.2.2 0 0 0 [] s.2.1 (H:Int) (W:Int) (List.replicate (H*W) 0) hs) ?_ fun n=>?_)
 . by_cases hneg:k<0
   . have:cobW s k=[]:=by rw[cobW,if_pos hneg]
     rw[this];refine(Ev.const _).succ fun n=>?_;rw[Aa8.l3_eq];by_cases h0:0<hs.length
     . rw[if_pos (ltI.2 h0),if_pos (idxI.2 h0),if_pos (by simp only[decide_eq_true_eq];exact hneg)];rfl
     . rw[if_neg (by simp only[decide_eq_true_eq];omega)];rfl
   . have:cobW s k=(List.range hs.length).flatMap fun n=>A2h s W (hs.getD n 0).toNat:=by rw[cobW,if_neg hneg,ehs,hW]
     rw[this];have main:=Goes.writes (R:=((MatV×Unit)×Unit)) (fun n m x=>Aa8.l3 n k (hs.length:Int) (m:Int) s.1 s.2.1 s.2.2.1 s.2.2.2 0 0 0 [] s.2.1 (H:Int) (W:Int) x hs) hs.length (H*W) (fun n=>A2h s W (hs.getD n 0).toNat) (fun m x hm hx=>by
       obtain⟨h,e1,e2,e3⟩:=hsat m hm;have f4:(fcs s.1 h).length≤4:=by have:=A1y ho.1 e2;simp only[fcs,List.length_map];exact this
       have E3 := fun n=>Aa8.l3_eq n k (hs.length:Int) (m:Int) s.1 s.2.1 s.2.2.1 s.2.2.2 0 0 0 [] s.2.1 (H:Int) (W:Int) x hs;simp only[if_pos (ltI.2 hm),if_pos (idxI.2 hm),if_neg (show ¬ decide (k<0)=true by simp only[decide_eq_true_eq];exact hneg),Int.toNat_natCast,e1,Ab3.val s.1 ho.1 h e2,Option.bind_some]at E3;refine(Goes.succ E3).trans ?_;rw[e1,Int.toNat_natCast];refine(Goes.writes (R:=((MatV×Unit)×Unit)) (fun n i x=>Aa8.l7 n k (h:Int) (hs.length:Int) (m:Int) ((fcs s.1 h).length:Int) (i:Int) s.1 s.2.1 s.2.2.1 s.2.2.2 0 0 0 [] s.2.1 (H:Int) (W:Int) x hs (fcs s.1 h)) (fcs s.1 h).length (H*W) (A2T s W h) (fun i x hi hx=>by
         obtain⟨f,R,C,T,L,B⟩:=blk ho e2 e3 hi;rw[hW,hH]at B;have q1:Ab7.F ((s.1,(s.2.1,(s.2.2.1,s.2.2.2))),(h:Int),(i:Int),())=_:=Ab7.val s ho h i e2 hi;have q2:Ad0.F ((s.1,(s.2.1,(s.2.2.1,s.2.2.2))),(h:Int),())=_:=Ad0.val s ho h e2;have q3:Ad0.F ((s.1,(s.2.1,(s.2.2.1,s.2.2.2))),(f:Int),())=_:=Ad0.val s ho f B.flt;rw[B.top]at q2;rw[B.left]at q3;have E7:=fun n=>Aa8.l7_eq n k (h:Int) (hs.length:Int) (m:Int) ((fcs s.1 h).length:Int) (i:Int) s.1 s.2.1 s.2.2.1 s.2.2.2 0 0 0 [] s.2.1 (H:Int) (W:Int) x hs (fcs s.1 h);simp only[if_pos (ltI.2 hi),if_pos (idxI.2 hi),Int.toNat_natCast,B.at_,q1,q2,q3,Option.bind_some,B.rows,B.cols,B.prime]at E7;refine(Goes.succ E7).trans ?_;have ew:A2T s W h i=(List.range R).flatMap (A1l s W h i):=by rw[A2T,B.rows,Int.toNat_natCast]
         rw[ew];refine(Goes.writes (R:=((MatV×Unit)×Unit)) (fun n a x=>Aa8.l12 n k (h:Int) (i:Int) (T:Int) (L:Int) (hs.length:Int) (m:Int) ((fcs s.1 h).length:Int) (i:Int) (R:Int) (a:Int) s.1 s.2.1 s.2.2.1 s.2.2.2 0 0 0 [] s.2.1 (H:Int) (W:Int) x s.2.1 (R:Int) (C:Int) (A0q s h i).2.2.2 hs (fcs s.1 h)) R (H*W) (A1l s W h i) (fun a x ha hx=>by
           refine(Goes.succ fun n=>by rw[Aa8.l12_eq,if_pos (ltI.2 ha)]).trans ?_;have ew3:A1l s W h i a=(List.range C).flatMap fun b=>[((T+a)*W+L+b,((A0q s h i).2.2.2.getD (a*C+b) 0*sgn s.2.1 i)%s.2.1)]:=by
             rw[A1l,B.cols,B.top,B.fc_,B.left];simp only[Int.toNat_natCast];exact A1J _ _
           rw[ew3];refine(Goes.writes (R:=((MatV×Unit)×Unit)) (fun n b x=>Aa8.l15 n k (h:Int) (i:Int) (T:Int) (L:Int) (a:Int) (hs.length:Int) (m:Int) ((fcs s.1 h).length:Int) (i:Int) (R:Int) (a:Int) (C:Int) (b:Int) s.1 s.2.1 s.2.2.1 s.2.2.2 0 0 0 [] s.2.1 (H:Int) (W:Int) x s.2.1 (R:Int) (C:Int) (A0q s h i).2.2.2 hs (fcs s.1 h)) C (H*W) (fun b=>[((T+a)*W+L+b,((A0q s h i).2.2.2.getD (a*C+b) 0*sgn s.2.1 i)%s.2.1)]) (fun b x hb hx=>Goes.succ fun n=>by
             obtain⟨p1,p2⟩:=A4h B.bT B.bL B.bH B.bW ha hb;have bT:=B.bT;have bL:=B.bL;have bH:=B.bH;have bW:=B.bW;obtain⟨e5,e6⟩:=A0o (show R≤32 by omega) (show C≤32 by omega) ha hb;have hce:=B.cells;have hel:=A1t hp (A0A B.el (show a*C+b<(A0q s h i).2.2.2.length by omega)) (A4m hp i);have hat:Ai9.F ((s.2.1,((R:Int),((C:Int),(A0q s h i).2.2.2))),(a:Int),(b:Int),())=some (((A0q s h i).2.2.2.getD (a*C+b) 0,()),()):=by
               rw[Ai9.eq,Ai9.T,e5,if_pos (by omega)];rfl
             rw[Aa8.l15_eq,if_pos (ltI.2 hb),hat];simp only[Option.bind_some,Ao3.val i s.2.1 hp,p1];rw[if_neg (by omega),if_pos (by omega),A0x (by omega)];simp only[Int.toNat_natCast];rw[A0B (x:=(A0q s h i).2.2.2.getD (a*C+b) 0*sgn s.2.1 i) (by omega) (by omega),A2Q (by omega)];rfl) x hx).trans (Goes.succ fun n=>by
               have bT:=B.bT;have bH:=B.bH;rw[Aa8.l15_eq,if_neg (by simp),A0x (by omega)])) x hx).trans (Goes.succ fun n=>by rw[Aa8.l12_eq,if_neg (by simp),A0x (by omega)])) x hx).trans (Goes.succ fun n=>by rw[Aa8.l7_eq,if_neg (by simp),A0x (by omega)];rfl)) (List.replicate (H*W) 0) (by simp)
     refine main _ ((Ev.const _).succ fun n=>?_);rw[Aa8.l3_eq,if_neg (by simp)]
 . rw[Aa8.T,w1,g1,g2,eH,eW];simp only[Option.bind_some];rw[Ap2.val s.2.1 H W (by omega) (by omega),g3];rfl
def A0a (acc:Int) (ws:List (Nat×Int)) (i:Nat):Int:=ws.foldl (fun acc w=>if w.1=i then w.2 else acc) acc
theorem A2R (ws:List (Nat×Int)):∀ (x:List Int) (i:Nat),i<x.length->(wr ws x).getD i 0=A0a (x.getD i 0) ws i:=by
 induction ws with
 | nil=>intro x i _;rfl
 | cons w ws ih =>
   intro x i hi;show(wr ws (x.set w.1 w.2)).getD i 0=A0a (if w.1=i then w.2 else x.getD i 0) ws i;rw[ih _ _ (by simpa using hi)];congr 1;simp only[List.getD_eq_getElem?_getD,List.getElem?_set];by_cases h:w.1=i
   . subst h;simp[hi]
   . simp[h]
theorem A0e (acc:Int) (ws vs:List (Nat×Int)) (i:Nat):A0a acc (ws++vs) i=A0a (A0a acc ws i) vs i:=by simp[A0a,List.foldl_append]
theorem A0b {ws:List (Nat×Int)} {i:Nat} (h:∀ w∈ws,w.1≠i) (acc:Int):A0a acc ws i=acc:=by
 induction ws generalizing acc with
 | nil=>rfl
 | cons w ws ih =>
   show A0a (if w.1=i then w.2 else acc) ws i=acc;rw[if_neg (h w (by simp)),ih fun w hw=>h w (by simp[hw])]
theorem A3A {ws:List (Nat×Int)} {i:Nat} (h:∃ w∈ws,w.1=i):∃ w∈ws,w.1=i/\∀ acc,A0a acc ws i=w.2:=by
 induction ws with
 | nil=>obtain⟨w,hw,_⟩:=h;cases hw
 | cons w ws ih =>
   by_cases h2:∃ w∈ws,w.1=i
   . obtain⟨v,h3,h4,h5⟩:=ih h2;exact⟨v,by simp[h3],h4,fun acc=>h5 _⟩
   . have hn:∀ v∈ws,v.1≠i:=fun v hv e=>h2 ⟨v,hv,e⟩;obtain⟨v,hv,he⟩:=h;simp only[List.mem_cons]at hv;rcases hv with rfl|hv
     . refine⟨v,by simp,he,fun acc=>?_⟩;show A0a (if v.1=i then v.2 else acc) ws i=v.2;rw[if_pos he,A0b hn]
     . exact absurd he (hn v hv)
theorem A0L {α:Type} (f:Nat->List α) (n:Nat):(List.range (n+1)).flatMap f=(List.range n).flatMap f++f n:=by
 rw[List.range_succ,List.flatMap_append];simp
theorem A3B {f:Nat->List (Nat×Int)} {x0 i:Nat}:∀ (n:Nat),x0<n->(∀ x,x<n->x≠x0->∀ w∈f x,w.1≠i)->∀ acc,A0a acc ((List.range n).flatMap f) i=A0a acc (f x0) i:=by
 intro n;induction n with
 | zero=>intro h;omega
 | succ n ih =>
   intro h0 hne acc;rw[A0L,A0e];by_cases hx:x0=n
   . subst hx;rw[A0b (ws:=(List.range x0).flatMap f) fun w hw=>by
       simp only[List.mem_flatMap,List.mem_range]at hw;obtain⟨x,hx,hw⟩:=hw;exact hne x (by omega) (by omega) w hw]
   . rw[ih (by omega) (fun x hx=>hne x (by omega)) acc,A0b (hne n (by omega) fun e=>hx e.symm)]
theorem A3O {f g:Nat->List (Nat×Int)} {i j:Nat}:∀ (n:Nat),(∀ x,x<n->∀ acc,A0a acc (f x) i=A0a acc (g x) j)->∀ acc,A0a acc ((List.range n).flatMap f) i=A0a acc ((List.range n).flatMap g) j:=by
 intro n;induction n with
 | zero=>intro _ acc;rfl
 | succ n ih=>intro h acc;rw[A0L,A0L,A0e,A0e,ih (fun x hx=>h x (by omega)),h n (by omega)]
theorem A3P (o:Nat) {l:List Nat} (p:Nat->Nat) (v:Nat->Int) (i:Nat):∀ acc,A0a acc (l.map fun b=>(o+p b,v b)) (o+i)=A0a acc (l.map fun b=>(p b,v b)) i:=by
 induction l with
 | nil=>intro acc;rfl
 | cons b l ih =>
   intro acc;show A0a (if o+p b=o+i then v b else acc) _ _=A0a (if p b=i then v b else acc) _ _;rw[ih];by_cases h:p b=i
   . rw[if_pos h,if_pos (by omega)]
   . rw[if_neg h,if_neg (by omega)]
def cobR (s:ShfV) (h i a:Nat):List (Nat×Int):=(List.range (A0q s h i).2.2.1.toNat).map fun b=>((A0O s (fc s.1 h i)).toNat+b,((A0q s h i).2.2.2.getD (a*(A0q s h i).2.2.1.toNat+b) 0*sgn s.2.1 i)%s.2.1)
def rowC (s:ShfV) (W h a:Nat):List Int:=wr ((List.range (fcs s.1 h).length).flatMap fun i=>cobR s h i a) (List.replicate W 0)
theorem A4l {W r r' c c':Nat} (hc:c<W) (hc':c'<W) (h:r≠r'):r*W+c≠r'*W+c':=by
 intro e;rcases Nat.lt_or_gt_of_ne h with h|h
 . have:=Nat.mul_le_mul_right W (show r+1≤r' by omega);rw[Nat.add_mul,Nat.one_mul]at this;omega
 . have:=Nat.mul_le_mul_right W (show r'+1≤r by omega);rw[Nat.add_mul,Nat.one_mul]at this;omega
theorem A2q {s:ShfV} (ho:A0v s) {h h':Nat} (hlt:h<h') (hh:h'<s.1.length) (hd:(s.1.getD h []).length=(s.1.getD h' []).length):A0O s h+s.2.2.1.getD h 0≤A0O s h':=by
 have hsl:=ho.2.2.1.1;have:=A2N (c:=s.1) (d:=((s.1.getD h' []).length:Int)-1) ho.2.2.1.2.1 (show h+1≤h' by omega) (by omega);simp only[psum]at this;rw[if_pos (by omega)]at this;unfold A0O;rw[hd];exact this
theorem A1N {s:ShfV} (h:A0v s) {k:Nat} (hk:k<s.1.length):((s.2.2.1.getD k 0).toNat:Int)=s.2.2.1.getD k 0/\(s.2.2.1.getD k 0).toNat≤3:=by
 have:=A0A h.2.2.1.2.1 (i:=k) (by rw[h.2.2.1.1];exact hk);omega
theorem A4x {s:ShfV} (ho:A0v s) {k:Int} (hk:0≤k) {n h:Nat} (hn:n<(A0w s.1 (k+1) s.1.length).length) (hh:(A0w s.1 (k+1) s.1.length).getD n 0=(h:Int)) {a:Nat} (ha:a<(s.2.2.1.getD h 0).toNat) :
   rowL (cobM s k).2.2.2 (A0j s k).toNat ((A0O s h).toNat+a)=rowC s (A0j s k).toNat h a:=by
 obtain⟨D,hD⟩:∃ D,A0w s.1 (k+1) s.1.length=D:=⟨_,rfl⟩;obtain⟨W,hW⟩:∃ W,(A0j s k).toNat=W:=⟨_,rfl⟩;obtain⟨H,hH⟩:∃ H,(A0j s (k+1)).toNat=H:=⟨_,rfl⟩;have hat:∀ m,m<D.length->∃ j:Nat,D.getD m 0=(j:Int)/\j<s.1.length/\((s.1.getD j []).length:Int)=k+2:=fun m hm=>by
   rw[<-hD]at hm ⊢;obtain⟨j,q1,q2,q3⟩:=A2k hm;exact⟨j,q1,q2,by omega⟩
 have hinj:∀ m m',m<m'->m'<D.length->∀ j j':Nat,D.getD m 0=(j:Int)->D.getD m' 0=(j':Int)->j<j':=fun m m' hlt hm' j j' e e'=>by
   have hp:(A0w s.1 (k+1) s.1.length).Pairwise (·<·):=by
     unfold A0w;rw[List.pairwise_map];refine List.Pairwise.imp (fun h=>by omega) ((List.pairwise_lt_range (n:=s.1.length)).filter _)
   rw[hD]at hp;have:=List.pairwise_iff_getElem.1 hp m m' (by omega) hm' hlt;rw[<-A0y (d:=0),<-A0y (d:=0),e,e']at this;omega
 rw[hD]at hn hh;obtain⟨j0,e0,hhl,hdim⟩:=hat n hn;obtain rfl:j0=h:=by rw[hh]at e0;omega
 have hst:=A1N ho hhl;obtain⟨T0,T1⟩:=A0V ho hhl;rw[show((s.1.getD j0 []).length:Int)-1=k+1 by omega]at T1;have hrl:(A0O s j0).toNat+a<H:=by omega
 obtain⟨c1,c2⟩:=A0E ho k;have hlen:(cobM s k).2.2.2.length=H*W:=by
   show(wr _ _).length=_;rw[A0l,List.length_replicate,hW,hH]
 rw[hW];refine List.ext_getElem ?_ fun c hc1 hc2=>?_
 . rw[A0Y hlen hrl,rowC,A0l,List.length_replicate]
 . have hcW:c<W:=by rw[A0Y hlen hrl]at hc1;exact hc1
   rw[<-A0y (d:=0) hc1,<-A0y (d:=0) hc2,A1H hcW,rowC,A2R _ _ _ (by simpa using hcW)];have hidx:((A0O s j0).toNat+a)*W+c<H*W:=A3G hrl hcW;have e1:(cobM s k).2.2.2=wr (cobW s k) (List.replicate (H*W) 0):=by rw[cobM,hW,hH]
   rw[e1,A2R _ _ _ (by simpa using hidx)];have z1:(List.replicate (H*W) (0:Int)).getD (((A0O s j0).toNat+a)*W+c) 0=0:=by simp[List.getD_eq_getElem?_getD,List.getElem?_replicate,hidx]
   have z2:(List.replicate W (0:Int)).getD c 0=0:=by simp[List.getD_eq_getElem?_getD,List.getElem?_replicate,hcW]
   rw[z1,z2];have e2:cobW s k=(List.range D.length).flatMap fun n=>A2h s W (D.getD n 0).toNat:=by rw[cobW,if_neg (by omega),hD,hW]
   rw[e2];have wloc:∀ h',h'<s.1.length->((s.1.getD h' []).length:Int)=k+2->∀ i,i<(fcs s.1 h').length->∀ a' w,w∈A1l s W h' i a'->∃ c',c'<W/\w.1=((A0O s h').toNat+a')*W+c':=fun h' hh' hd' i hi a' w hw=>by
     obtain⟨f,R,C,T,L,B⟩:=blk ho hh' hd' hi;rw[hW]at B;simp only[A1l,List.mem_map,List.mem_range]at hw;obtain⟨b,hb,rfl⟩:=hw;rw[B.cols,Int.toNat_natCast]at hb;have:=B.bL;refine⟨(A0O s (fc s.1 h' i)).toNat+b,by rw[B.fc_,B.left,Int.toNat_natCast];omega,by simp only[];omega⟩
   rw[A3B D.length hn fun m hm hne w hw=>?_]
   . rw[hh,Int.toNat_natCast];unfold A2h;refine A3O _ (fun i hi acc=>?_) 0;obtain⟨f,R,C,T,L,B⟩:=blk ho hhl hdim hi;have haR:a<(A0q s j0 i).2.1.toNat:=by
       have:=(A0f ho hhl hi).2.2.1;rw[this];exact ha
     unfold A2T;rw[A3B _ haR fun a' _ hne w hw=>by
       obtain⟨c',h1,h2⟩:=wloc j0 hhl hdim i hi a' w hw;rw[h2];exact A4l h1 hcW (by omega)]
     unfold A1l cobR;have:=A3P (((A0O s j0).toNat+a)*W) (l:=List.range (A0q s j0 i).2.2.1.toNat) (fun b=>(A0O s (fc s.1 j0 i)).toNat+b) (fun b=>((A0q s j0 i).2.2.2.getD (a*(A0q s j0 i).2.2.1.toNat+b) 0*sgn s.2.1 i)%s.2.1) c acc;rw[<-this];congr 1;refine List.map_congr_left fun b _=>?_;rw[Nat.add_assoc]
   . obtain⟨j,q1,q2,q3⟩:=hat m hm;rw[q1,Int.toNat_natCast]at hw;simp only[A2h,A2T,List.mem_flatMap,List.mem_range]at hw;obtain⟨i,hi,a',ha',hw⟩:=hw;obtain⟨c',h1,h2⟩:=wloc j q2 q3 i hi a' w hw;rw[h2];refine A4l h1 hcW fun e=>?_;have hra:(a':Int)<s.2.2.1.getD j 0:=by
       have:=(A0f ho q2 hi).2.2.1;have hs2:=A1N ho q2;omega
     obtain⟨U0,U1⟩:=A0V ho q2;rcases Nat.lt_or_gt_of_ne hne with hlt|hlt
     . have:=A2q ho (hinj m n hlt hn j j0 q1 hh) hhl (by omega);omega
     . have:=A2q ho (hinj n m hlt hm j0 j hh q1) q2 (by omega);omega
def addL (p c:Int) (xs ys:List Int):List Int:=(List.range xs.length).map fun i=>(xs.getD i 0+c*ys.getD i 0)%p
theorem A2C (p c:Int) (xs ys:List Int):(addL p c xs ys).length=xs.length:=by simp[addL]
theorem A4Q {p c a b:Int} (hp:2≤p/\p≤251) (hc:0≤c/\c≤p-1) (ha:0≤a/\a≤p-1) (hb:0≤b/\b≤p-1):(IntKind.i64.wrap (a+IntKind.i64.wrap (c*b))).tmod p=(a+c*b)%p:=by
 have:=A1t hp hc hb;rw[A0B (x:=c*b) (by omega) (by omega),A0B (by omega) (by omega),A2Q (by omega)]
theorem Am5.val (xs ys:List Int) (c p:Int) (hp:2≤p/\p≤251) (hc:0≤c/\c≤p-1) (hx:A0Q 0 (p-1) xs) (hy:A0Q 0 (p-1) ys) (hl:ys.length=xs.length) (hn:xs.length<1048576):Am5.F (xs,ys,c,p,())=some ((addL p c xs ys,()),()):=by
 refine Am5.of _ _ _ _ ?_;have g:=Goes.push (R:=((List Int×Unit)×Unit)) (fun k i s=>Am5.l3 k xs ys c p (i:Int) s) xs.length (fun i=>(xs.getD i 0+c*ys.getD i 0)%p) (fun i s hi hs=>Goes.succ fun k=>by
   rw[Am5.l3_eq,if_pos (ltI.2 hi),if_pos (idxI.2 hi),if_pos (idxI.2 (by omega)),if_neg (by omega)];simp only[Int.toNat_natCast,A4Q hp hc (A0A hx hi) (A0A hy (i:=i) (by omega))];rw[if_pos (A1n hs (by omega)),A0x (by omega)])
 refine Ev.of_eq (g _ ((Ev.const _).succ fun k=>?_)) fun k=>rfl;rw[Am5.l3_eq,if_neg (by simp)];rfl
def A1q (m:MatV) (v:List Int):List Int:=(List.range m.2.1.toNat).map fun i=>sumN (fun k=>m.2.2.2.getD (i*m.2.2.1.toNat+k) 0*v.getD k 0) m.2.2.1.toNat%m.1
theorem A1U (m:MatV) (v:List Int):(A1q m v).length=m.2.1.toNat:=by simp[A1q]
theorem Af7.val (m:MatV) (v:List Int) (hm:MatOk m) (hv:A0Q 0 (m.1-1) v) (hl:m.2.2.1=(v.length:Int)):Af7.F (m,v,())=some ((A1q m v,()),()):=by
 obtain⟨R,C,h1,h2,h3,h4,h5,h6,h7⟩:=hm.nat;obtain⟨p,r,c,xs⟩:=m;simp only[]at h1 h2 h5 h6 h7 hl hv;subst h1 h2;have hvl:v.length=C:=by omega
 refine Af7.of _ _ _ _ _ ?_;obtain⟨s,hs,hg⟩:=Goes.loop (R:=((List Int×Unit)×Unit)) (fun k i (x:List Int)=>Af7.l3 k v (R:Int) (i:Int) p (R:Int) (C:Int) xs x) R (fun i x=>x=(List.range i).map fun i=>sumN (fun k=>xs.getD (i*C+k) 0*v.getD k 0) C%p) (fun i x hi hx=>⟨_,rfl,Goes.succ fun k=>by
   have l1:=A0Y h5 hi;rw[Af7.l3_eq,if_pos (ltI.2 hi),Ae6.val p R C xs (by omega) (by omega) h5 i hi];simp only[Option.bind_some];rw[Af9.val _ _ p h6 (fun x hx=>h7 x (A2B hx)) hv (by omega) (by omega)];simp only[Option.bind_some];have e:sumN (dotE (rowL xs C i) v) (rowL xs C i).length=sumN (fun k=>xs.getD (i*C+k) 0*v.getD k 0) C:=by
     rw[l1];exact A1r fun k hk=>by rw[dotE,A1H hk]
   rw[e,if_pos (by rw[hx];simp only[List.length_map,List.length_range,List.length_cons,List.length_nil,bigA];omega),A0x (by omega),hx,List.range_succ,List.map_append];rfl⟩) 0 [] (Nat.zero_le _) rfl
 refine Ev.of_eq (hg _ ((Ev.const _).succ fun k=>?_)) fun k=>rfl;rw[Af7.l3_eq,if_neg (by simp),hs];simp only[A1q,Int.toNat_natCast]
theorem Ai4.val (m:MatV) (v:List Int) (hm:MatOk m) (hv:A0Q 0 (m.1-1) v) (hl:m.2.2.1=(v.length:Int)):Ai4.F (m,v,())=some ((A1q m v,()),()):=by
 obtain⟨R,C,h1,h2,h3,h4,h5,h6,h7⟩:=hm.nat;obtain⟨p,r,c,xs⟩:=m;simp only[]at h1 h2 h5 h6 h7 hl hv;subst h1 h2;have hvl:v.length=C:=by omega
 refine Ai4.of _ _ _ _ _ ?_;obtain⟨s,hs,hg⟩:=Goes.loop (R:=((List Int×Unit)×Unit)) (fun k i (x:List Int)=>Ai4.l3 k p (R:Int) (C:Int) xs v (i:Int) x) R (fun i x=>x=(List.range i).map fun i=>sumN (fun k=>xs.getD (i*C+k) 0*v.getD k 0) C%p) (fun i x hi hx=>by
   have hfb:∀ k,k<C->0≤xs.getD (i*C+k) 0*v.getD k 0/\xs.getD (i*C+k) 0*v.getD k 0≤((62500:Nat):Int):=fun k hk=>by
     have e1:=A3G hi hk;exact A1t h6 (A0A h7 (by omega)) (A0A hv (by omega))
   have hsb:∀ n,n≤C->0≤sumN (fun k=>xs.getD (i*C+k) 0*v.getD k 0) n/\sumN (fun k=>xs.getD (i*C+k) 0*v.getD k 0) n≤2000000:=fun n hn=>by
     have:=A4K (f:=fun k=>xs.getD (i*C+k) 0*v.getD k 0) (n:=n) fun k hk=>hfb k (by omega);omega
   refine⟨_,rfl,?_⟩;refine(Goes.succ fun k=>by rw[Ai4.l3_eq,if_pos (ltI.2 hi)]).trans ?_;obtain⟨t,ht,hg⟩:=Goes.loop (R:=((List Int×Unit)×Unit)) (fun n k (t:Int)=>Ai4.l7 n p (R:Int) (C:Int) xs v (i:Int) t (k:Int) x) C (fun k t=>t=sumN (fun k=>xs.getD (i*C+k) 0*v.getD k 0) k) (fun k t hk h8=>⟨_,rfl,Goes.succ fun n=>by
     obtain⟨e1,e2⟩:=A0o h3 h4 hi hk;have b1:=hfb k hk;have b2:=hsb k (by omega);rw[Ai4.l7_eq,if_pos (ltI.2 hk),e1,if_pos (by omega),if_pos (by omega),A0x (by omega),h8];simp only[Int.toNat_natCast];rw[A0B (x:=xs.getD (i*C+k) 0*v.getD k 0) (by omega) (by omega),A0B (by omega) (by omega)];rfl⟩) 0 0 (Nat.zero_le _) rfl
   refine hg.trans (Goes.succ fun n=>?_);have b2:=hsb C (Nat.le_refl _);rw[Ai4.l7_eq,if_neg (by simp),if_neg (by omega),if_pos (by rw[hx];simp only[List.length_map,List.length_range,List.length_cons,List.length_nil,bigA];omega),A0x (by omega),ht,A2Q b2.1,hx,List.range_succ,List.map_append];rfl) 0 [] (Nat.zero_le _) rfl
 refine Ev.of_eq (hg _ ((Ev.const _).succ fun k=>?_)) fun k=>rfl;rw[Ai4.l3_eq,if_neg (by simp),hs];simp only[A1q,Int.toNat_natCast]
theorem Am6.val (xs ys:List Int) (p:Int) (hp:2≤p/\p≤251) (hx:A0Q 0 (p-1) xs) (hy:A0Q 0 (p-1) ys) (hl:xs.length≤ys.length) (hn:xs.length≤1048576) :
   Am6.F (xs,ys,p,())=some ((sumN (dotE xs ys) xs.length%p,()),()):=by
 refine Am6.of _ _ _ ?_;obtain⟨s,hs,hg⟩:=Goes.loop (R:=((Int×Unit)×Unit)) (fun k i (s:Int)=>Am6.l3 k xs ys p s (i:Int)) xs.length (fun i s=>s=sumN (dotE xs ys) i%p) (fun i s hi h2=>⟨_,rfl,Goes.succ fun k=>by
   have hm:=A1t hp (A0A hx hi) (A0A hy (show i<ys.length by omega));have hme:=A3R (a:=sumN (dotE xs ys) i) hp.1;rw[Am6.l3_eq,if_pos (ltI.2 hi),if_pos (idxI.2 hi),if_pos (idxI.2 (show i<ys.length by omega)),if_neg (by omega),A0x (by omega),h2];simp only[Int.toNat_natCast];rw[A0B (x:=xs.getD i 0*ys.getD i 0) (by omega) (by omega),A0B (by omega) (by omega),A2Q (by omega),Int.emod_add_emod];rfl⟩) 0 0 (Nat.zero_le _) (by simp[sumN])
 refine Ev.of_eq (hg _ ((Ev.const _).succ fun k=>?_)) fun k=>rfl;rw[Am6.l3_eq,if_neg (by simp),hs]
theorem Am7.val (xs:List Int) (p:Int) (hp:2≤p/\p≤251) (hn:xs.length≤1048576):∃ v,Am7.F (xs,p,())=some ((v,()),())/\(v=true↔xs.length≤64/\A0Q 0 (p-1) xs):=by
 obtain⟨v,hv,hv'⟩:=Ev.allP (L:=fun k i=>Am7.l2 k xs p (i:Int)) (a:=()) (b:=()) (n:=xs.length) (fun i=>0≤xs.getD i 0/\xs.getD i 0≤p-1) (decide ((xs.length:Int)≤64)) (fun i hi=>by
   have E:=fun k=>Am7.l2_eq k xs p (i:Int);simp only[if_pos (ltI.2 hi),if_pos (idxI.2 hi),Int.toNat_natCast,A0B (x:=p-1) (by omega) (by omega),Aa7.val,Option.bind_some,A0x (show i<4611686018427387904 by omega)]at E;by_cases h:0≤xs.getD i 0/\xs.getD i 0≤p-1
   . exact .inl ⟨h,fun k=>by rw[E,if_neg (by rw[decide_eq_true h];simp)]⟩
   . exact .inr ⟨h,fun k=>by rw[E,if_pos (by rw[decide_eq_false h];rfl)]⟩) ((Ev.const _).succ fun k=>by rw[Am7.l2_eq,if_neg (by simp)]) 0 (Nat.zero_le _)
 refine⟨v,Am7.of _ _ (hv.of_eq fun k=>rfl),hv'.trans ⟨fun⟨h1,h2⟩=>⟨by simp at h1;omega,allIn_iff.2 fun i hi=>h2 i (Nat.zero_le _) hi⟩,fun⟨h1,h2⟩=>⟨by simp;omega,fun i _ hi=>allIn_iff.1 h2 i hi⟩⟩⟩
theorem Aq1.val (p n:Int) (xs:List Int) (hp:2≤p/\p≤251) (hn:xs.length≤1048576) (h64:n≤64):∃ v,Aq1.F (p,n,xs,())=some ((v,()),())/\(v=true↔(xs.length:Int)=n/\A0Q 0 (p-1) xs):=by
 obtain⟨v,hv,hv'⟩:=Am7.val xs p hp hn;rw[Aq1.eq,Aq1.T,hv];simp only[Option.bind_some];cases v with
 | true =>
   obtain⟨h1,h2⟩:=hv'.1 rfl;exact⟨_,by rw[if_pos rfl],by simp[h2]⟩
 | false=>exact⟨false,by rw[if_neg (by simp)],by
     simp only[Bool.false_eq_true,false_iff];exact fun⟨h1,h2⟩=>absurd (hv'.2 ⟨by omega,h2⟩) (by simp)⟩
theorem A3C {c:List (List Int)} (h:CplxOk c) {j f:Nat} (hj:j≤f) (hf:f<c.length) (h1:(c.getD f []).length=1):(c.getD j []).length=1:=by
 rcases Nat.lt_or_ge j f with hlt|hge
 . have h2:=h.sorted j f hlt hf;have h3:=(h.2 j (by omega)).1.1.1;unfold cmpS at h2;rcases A0H (c.getD j []).length (c.getD f []).length with⟨g,e⟩|⟨g,e⟩|⟨g,e⟩
   . omega
   . omega
   . rw[e,if_pos (by omega)]at h2;omega
 . have:j=f:=by omega
   rw[this];exact h1
theorem Af5.val (s:ShfV) (h:A0v s) (f:Nat) (hf:f<s.1.length) (h1:(s.1.getD f []).length=1):Af5.F (s,(f:Int),())=some ((A0O s f,()),()):=by
 have hT:∀ r,Ev (fun n=>Af5.T n s.1 s.2.1 s.2.2.1 s.2.2.2 (f:Int)) r->Af5.F (s,(f:Int),())=some r:=fun r hr=>Af5.of _ _ _ _ _ hr;have hcl:=h.1.1;have hsl:=h.2.2.1.1;have ha:=h.2.2.1.2.1;obtain⟨x,hx,hg⟩:=Goes.loop (R:=((Int×Unit)×Unit)) (fun k i (x:Int)=>Af5.l3 k s.1 s.2.1 s.2.2.1 s.2.2.2 (f:Int) x (i:Int)) f (fun i x=>x=psum s.1 s.2.2.1 0 i) (fun i x hi h2=>⟨_,rfl,Goes.succ fun k=>by
   have b:=A1E (c:=s.1) (d:=0) ha i (by omega);have g:=A0A ha (show i<s.2.2.1.length by omega);have hl:=A3C h.1 (Nat.le_of_lt hi) hf h1;rw[Af5.l3_eq,if_pos (ltI.2 hi),if_pos (by omega)];simp only[Int.toNat_natCast,psum];rw[A0x (by omega),h2,A0B (by omega) (by omega),if_pos (by omega)]⟩) 0 0 (Nat.zero_le _) rfl
 refine hT _ ((hg _ ((Ev.const _).succ fun k=>?_)).of_eq fun k=>rfl);rw[Af5.l3_eq,if_neg (by simp),hx,A0O,h1];rfl
def rowW (m:MatV) (L W:Nat) (t:Int) (a:Nat):List Int:=wr ((List.range m.2.2.1.toNat).map fun b=>(L+b,(m.2.2.2.getD (a*m.2.2.1.toNat+b) 0*t)%m.1)) (List.replicate W 0)
theorem A0i (m:MatV) (L W:Nat) (t:Int) (a:Nat):(rowW m L W t a).length=W:=by rw[rowW,A0l,List.length_replicate]
theorem A4H {m:MatV} (hp:2≤m.1) (L W:Nat) (t:Int) (a:Nat):A0Q 0 (m.1-1) (rowW m L W t a):=by
 refine A4n (P:=fun a=>0≤a/\a≤m.1-1) _ _ (fun w hw=>?_) fun a ha=>?_
 . simp only[List.mem_map]at hw;obtain⟨b,_,rfl⟩:=hw;exact A3R hp
 . have:=(List.mem_replicate.1 ha).2;omega
theorem Af2.val (m:MatV) (hm:MatOk m) (L W:Nat) (t:Int) (ht:0≤t/\t≤m.1-1) (hL:(L:Int)+m.2.2.1≤(W:Int)) (hW:W≤32):Af2.F (m,(L:Int),(W:Int),t,())=some (((List.range m.2.1.toNat).map (rowW m L W t),()),()):=by
 obtain⟨R,C,e1,e2,hR,hC,hl,hp,hin⟩:=hm.nat;obtain⟨p,r,c,xs⟩:=m;simp only[]at e1 e2 hl hp hin hL ht;subst e1 e2;refine Af2.of _ _ _ _ _ _ _ ?_;have g:=Goes.push (R:=((List (List Int)×Unit)×Unit)) (fun k a s=>Af2.l3 k p (R:Int) (C:Int) xs (L:Int) (W:Int) t (a:Int) s) R (rowW (p,(R:Int),(C:Int),xs) L W t) (fun a s ha hs=>by
   have g0:Goes (fun k=>Af2.l3 k p (R:Int) (C:Int) xs (L:Int) (W:Int) t (a:Int) s) (fun k=>Af2.l7 k p (R:Int) (C:Int) xs (L:Int) (W:Int) t (a:Int) ((0:Nat):Int) s (List.replicate W 0)):=Goes.succ fun k=>by
     rw[Af2.l3_eq,if_pos (ltI.2 ha),if_pos (by simp only[bigN];omega),Int.toNat_natCast];rfl
   have g1:=Goes.writes (R:=((List (List Int)×Unit)×Unit)) (fun k b x=>Af2.l7 k p (R:Int) (C:Int) xs (L:Int) (W:Int) t (a:Int) (b:Int) s x) C W (fun b=>[(L+b,(xs.getD (a*C+b) 0*t)%p)]) (fun b x hb hx=>Goes.succ fun k=>by
     have hrc:=A3G ha hb;have h2:R*C≤32*32:=Nat.mul_le_mul hR hC;have e:(a:Int)*(C:Int)=((a*C:Nat):Int):=by simp
     have hm:=A1t hp (A0A hin (show a*C+b<xs.length by omega)) ht;rw[Af2.l7_eq,if_pos (ltI.2 hb),e,A0B (x:=((a*C:Nat):Int)) (by omega) (by omega),A0B (x:=((a*C:Nat):Int)+(b:Int)) (by omega) (by omega),show((a*C:Nat):Int)+(b:Int)=((a*C+b:Nat):Int)by omega,if_pos (by omega),if_neg (by omega),A0B (x:=(L:Int)+(b:Int)) (by omega) (by omega),show(L:Int)+(b:Int)=((L+b:Nat):Int)by omega,if_pos (by omega)];simp only[Int.toNat_natCast];rw[A0B (x:=xs.getD (a*C+b) 0*t) (by omega) (by omega),A2Q (by omega),A0x (by omega)];rfl) (List.replicate W 0) (by simp)
   rw[<-A1J]at g1;refine g0.trans (g1.trans (Goes.succ fun k=>?_));rw[Af2.l7_eq,if_neg (by simp),if_pos (A1n hs (by omega)),A0x (by omega)];simp only[rowW,Int.toNat_natCast])
 refine Ev.of_eq (g _ ((Ev.const _).succ fun k=>?_)) fun k=>rfl;rw[Af2.l3_eq,if_neg (by simp)];rfl
theorem Ak8.val (A B:List (List Int)) (p:Int) (W:Nat) (hp:2≤p/\p≤251) (hl:B.length=A.length) (hn:A.length≤1000) (hW:W≤1000) (hA:∀ x∈A,x.length=W/\A0Q 0 (p-1) x) (hB:∀ x∈B,x.length=W/\A0Q 0 (p-1) x) :
   Ak8.F (A,B,p,())=some (((List.range A.length).map fun i=>addL p 1 (A.getD i []) (B.getD i []),()),()):=by
 refine Ak8.of _ _ _ ?_;have g:=Goes.push (R:=((List (List Int)×Unit)×Unit)) (fun k i s=>Ak8.l3 k A B p (i:Int) s) A.length (fun i=>addL p 1 (A.getD i []) (B.getD i [])) (fun i s hi hs=>Goes.succ fun k=>by
   obtain⟨a1,a2⟩:=hA _ (A0z [] hi);obtain⟨b1,b2⟩:=hB _ (A0z [] (show i<B.length by omega));rw[Ak8.l3_eq,if_pos (ltI.2 hi),if_pos (idxI.2 hi),if_pos (idxI.2 (by omega))];simp only[Int.toNat_natCast,Am5.val _ _ 1 p hp (by omega) a2 b2 (by omega) (by omega),Option.bind_some];rw[if_pos (A1n hs (by omega)),A0x (by omega)])
 refine Ev.of_eq (g _ ((Ev.const _).succ fun k=>?_)) fun k=>rfl;rw[Ak8.l3_eq,if_neg (by simp)]
structure EdgeAt (s:ShfV) (e f0 f1 R C0 C1 W H T L0 L1:Nat):Prop where
 lt:e<s.1.length
 two:(fcs s.1 e).length=2
 b0:Blk s 0 e 0 f0 R C0 W H T L0
 b1:Blk s 0 e 1 f1 R C1 W H T L1
 o0:(s.1.getD f0 []).length=1
 o1:(s.1.getD f1 []).length=1
 st:s.2.2.1.getD e 0=(R:Int)
 ap:L0+C0≤L1∨L1+C1≤L0
theorem edgeAt {s:ShfV} (ho:A0v s) {e:Nat} (he:e<s.1.length) (hd:((s.1.getD e []).length:Int)=2):∃ f0 f1 R C0 C1 T L0 L1,EdgeAt s e f0 f1 R C0 C1 (A0j s 0).toNat (A0j s 1).toNat T L0 L1:=by
 have h2:(fcs s.1 e).length=2:=by rw[A0P,if_pos (by omega)];omega
 obtain⟨f0,R,C0,T,L0,b0⟩:=blk ho (k:=0) he (by omega) (i:=0) (by omega);obtain⟨f1,R',C1,T',L1,b1⟩:=blk ho (k:=0) he (by omega) (i:=1) (by omega);obtain⟨g0,q1,q2,q3,q4,q5⟩:=A2n ho.1 he (i:=0) (by omega);obtain⟨g1,r1,r2,r3,r4,r5⟩:=A2n ho.1 he (i:=1) (by omega);have eg0:g0=f0:=by have:=b0.at_;rw[q1]at this;omega
 have eg1:g1=f1:=by have:=b1.at_;rw[r1]at this;omega
 subst eg0 eg1;have hT:T=T':=by have:=b0.top;have:=b1.top;omega
 have m0:=(A0f ho he (i:=e) (j:=0) (by omega));have m1:=(A0f ho he (i:=e) (j:=1) (by omega));have hR:R=R':=by have:=b0.rows;have:=b1.rows;have:=m0.2.2.1;have:=m1.2.2.1;omega
 subst hT hR;have o0:(s.1.getD g0 []).length=1:=by rw[q3,A0N q4];omega
 have o1:(s.1.getD g1 []).length=1:=by rw[r3,A0N r4];omega
 have hs0:s.2.2.1.getD g0 0=(C0:Int):=by rw[<-b0.cols,m0.2.2.2,q1];rfl
 have hs1:s.2.2.1.getD g1 0=(C1:Int):=by rw[<-b1.cols,m1.2.2.2,r1];rfl
 have hne:g0≠g1:=fun h=>by
   have e1:A0F (s.1.getD e []) 0=A0F (s.1.getD e []) 1:=by rw[<-q3,<-r3,h]
   have hr:=(ho.1.2 e he).1.2.2 1 (by omega) (by omega);obtain⟨x,y,hxy⟩:∃ x y,s.1.getD e []=[x,y]:=by
     have hl:(s.1.getD e []).length=2:=by omega
     match hx:s.1.getD e [],hl with
     | [x,y],_=>exact⟨x,y,rfl⟩
   rw[hxy]at e1 hr;simp[A0F]at e1 hr;omega
 refine⟨g0,g1,R,C0,C1,T,L0,L1,he,h2,b0,b1,o0,o1,by rw[<-b0.rows,m0.2.2.1],?_⟩;have l0:=b0.left;have l1:=b1.left;rcases Nat.lt_or_gt_of_ne hne with h|h
 . have:=A2q ho h b1.flt (by omega);exact .inl (by omega)
 . have:=A2q ho h b0.flt (by omega);exact .inr (by omega)
theorem rowC_eq {s:ShfV} (ho:A0v s) {e f0 f1 R C0 C1 W H T L0 L1:Nat} (E:EdgeAt s e f0 f1 R C0 C1 W H T L0 L1) {a:Nat} (ha:a<R):addL s.2.1 1 (rowW (A0q s e 0) L0 W 1 a) (rowW (A0q s e 1) L1 W (s.2.1-1) a)=rowC s W e a:=by
 have hp:=ho.2.1.1;refine List.ext_getElem ?_ fun c h1 h2=>?_
 . rw[A2C,A0i,rowC,A0l,List.length_replicate]
 . have hc:c<W:=by rw[A2C,A0i]at h1;exact h1
   have z:(List.replicate W (0:Int)).getD c 0=0:=by simp[List.getD_eq_getElem?_getD,List.getElem?_replicate,hc]
   obtain⟨l0,hl0⟩:∃ l0,((List.range (A0q s e 0).2.2.1.toNat).map fun b=>(L0+b,((A0q s e 0).2.2.2.getD (a*(A0q s e 0).2.2.1.toNat+b) 0*1)%s.2.1))=l0:=⟨_,rfl⟩;obtain⟨l1,hl1⟩:∃ l1,((List.range (A0q s e 1).2.2.1.toNat).map fun b=>(L1+b,((A0q s e 1).2.2.2.getD (a*(A0q s e 1).2.2.1.toNat+b) 0*(s.2.1-1))%s.2.1))=l1:=⟨_,rfl⟩;have r0:(rowW (A0q s e 0) L0 W 1 a).getD c 0=A0a 0 l0 c:=by rw[rowW,A2R _ _ _ (by simpa using hc),z,E.b0.prime,hl0]
   have r1:(rowW (A0q s e 1) L1 W (s.2.1-1) a).getD c 0=A0a 0 l1 c:=by rw[rowW,A2R _ _ _ (by simpa using hc),z,E.b1.prime,hl1]
   have rc:(rowC s W e a).getD c 0=A0a (A0a 0 l0 c) l1 c:=by
     rw[rowC,A2R _ _ _ (by simpa using hc),z,E.two];have e0:cobR s e 0 a=l0:=by
       rw[<-hl0,cobR,E.b0.fc_,E.b0.left,Int.toNat_natCast];rfl
     have e1:cobR s e 1 a=l1:=by
       rw[<-hl1,cobR,E.b1.fc_,E.b1.left,Int.toNat_natCast];rfl
     show A0a 0 ((List.range 2).flatMap _) c=_;rw[A0L,A0L,A0e,A0e,e0,e1];rfl
   have rng0:∀ w∈l0,L0≤w.1/\w.1<L0+C0/\0≤w.2/\w.2≤s.2.1-1:=fun w hw=>by
     rw[<-hl0,E.b0.cols,Int.toNat_natCast]at hw;simp only[List.mem_map,List.mem_range]at hw;obtain⟨b,hb,rfl⟩:=hw;exact⟨by simp only[];omega,by simp only[];omega,A3R hp.1⟩
   have rng1:∀ w∈l1,L1≤w.1/\w.1<L1+C1/\0≤w.2/\w.2≤s.2.1-1:=fun w hw=>by
     rw[<-hl1,E.b1.cols,Int.toNat_natCast]at hw;simp only[List.mem_map,List.mem_range]at hw;obtain⟨b,hb,rfl⟩:=hw;exact⟨by simp only[];omega,by simp only[];omega,A3R hp.1⟩
   have hlow:0≤A0a 0 l0 c/\A0a 0 l0 c≤s.2.1-1:=by
     by_cases h:∃ w∈l0,w.1=c
     . obtain⟨w,hw,_,h3⟩:=A3A h;rw[h3];exact(rng0 w hw).2.2
     . rw[A0b fun w hw e=>h ⟨w,hw,e⟩];omega
   rw[<-A0y (d:=0) h1,<-A0y (d:=0) h2,rc,addL,A0J _ _ (by rw[A0i];exact hc),r0,r1];by_cases h:∃ w∈l1,w.1=c
   . obtain⟨w,hw,hwc,h3⟩:=A3A h;have q:=rng1 w hw;rw[h3,h3,A0b fun v hv e=>by
       have:=rng0 v hv;have:=E.ap;omega]
     rw[Int.zero_add,Int.one_mul,Int.emod_eq_of_lt (by omega) (by omega)]
   . rw[A0b (ws:=l1) fun w hw e=>h ⟨w,hw,e⟩,A0b (ws:=l1) fun w hw e=>h ⟨w,hw,e⟩];rw[Int.mul_zero,Int.add_zero,Int.emod_eq_of_lt (by omega) (by omega)]
def A0k (s:ShfV):List Int:=A0w s.1 1 s.1.length
def A1B (s:ShfV) (n:Nat):List (List Int):=(List.range (s.2.2.1.getD ((A0k s).getD n 0).toNat 0).toNat).map (rowC s (A0j s 0).toNat ((A0k s).getD n 0).toNat)
def A1R (s:ShfV):List (List Int):=(List.range (A0k s).length).flatMap (A1B s)
theorem A2l {s:ShfV} (ho:A0v s) {n:Nat} (hn:n<(A0k s).length):∃ e f0 f1 R C0 C1 T L0 L1,(A0k s).getD n 0=((e:Nat):Int)/\EdgeAt s e f0 f1 R C0 C1 (A0j s 0).toNat (A0j s 1).toNat T L0 L1:=by
 obtain⟨e,q1,q2,q3⟩:=A2k hn;obtain⟨f0,f1,R,C0,C1,T,L0,L1,E⟩:=edgeAt ho q2 (by omega);exact⟨e,f0,f1,R,C0,C1,T,L0,L1,q1,E⟩
theorem A2F {s:ShfV} (ho:A0v s) {n:Nat} (hn:n<(A0k s).length):(A1B s n).length≤3:=by
 obtain⟨e,f0,f1,R,C0,C1,T,L0,L1,q,E⟩:=A2l ho hn;have:=(A1N ho E.lt).2;simp only[A1B,List.length_map,List.length_range,q,Int.toNat_natCast];exact this
theorem A3W {f:Nat->List (List Int)}:∀ n,(∀ i,i<n->(f i).length≤3)->((List.range n).flatMap f).length≤3*n:=by
 intro n;induction n with
 | zero=>intro _;simp
 | succ n ih =>
   intro h;have h1:=ih fun i hi=>h i (by omega);have h2:=h n (by omega);rw[A0L,List.length_append];omega
theorem Ah3.val (s:ShfV) (ho:A0v s):Ah3.F (s,())=some ((A1R s,()),()):=by
 have hT:∀ r,Ev (fun n=>Ah3.T n s.1 s.2.1 s.2.2.1 s.2.2.2) r->Ah3.F (s,())=some r:=fun r hr=>Ah3.of _ _ _ _ hr;have hp:=ho.2.1.1;have hcl:=ho.1.1;obtain⟨c1,c2⟩:=A0E ho 0;have hN:=A0D s.1 1 s.1.length;have hN:(A0k s).length≤s.1.length:=hN;have hall:Ai7.F ((s.1,(s.2.1,(s.2.2.1,s.2.2.2))),())=some ((A0j s 0,()),()):=by
   rw[Ai7.eq,Ai7.T,Ac0.val' s ho 0 (by omega)];rfl
 obtain⟨y,hy,hg⟩:=Goes.loop (R:=((List (List Int)×Unit)×Unit)) (fun k n (y:List (List Int))=>Ah3.l5 k s.1 s.2.1 s.2.2.1 s.2.2.2 (A0j s 0) (n:Int) y (A0k s)) (A0k s).length (fun n y=>y=(List.range n).flatMap (A1B s)) (fun n y hn h2=>⟨_,rfl,Goes.succ fun k=>by
   obtain⟨e,f0,f1,R,C0,C1,T,L0,L1,q,E⟩:=A2l ho hn;have hlen:=A3W (f:=A1B s) n fun i hi=>A2F ho (by omega);have hc3:=A2F ho hn;have two:=E.two;have eW:((A0j s 0).toNat:Int)=A0j s 0:=by omega
   have a0:=E.b0.at_;have a1:=E.b1.at_;have g0:Aa2.F ((s.1,(s.2.1,(s.2.2.1,s.2.2.2))),(e:Int),0,())=_:=Aa2.val s ho e 0 E.lt (by omega);have g1:Aa2.F ((s.1,(s.2.1,(s.2.2.1,s.2.2.2))),(e:Int),1,())=_:=Aa2.val s ho e 1 E.lt (by omega);have s0:Af5.F ((s.1,(s.2.1,(s.2.2.1,s.2.2.2))),(f0:Int),())=_:=Af5.val s ho f0 E.b0.flt E.o0;have s1:Af5.F ((s.1,(s.2.1,(s.2.2.1,s.2.2.2))),(f1:Int),())=_:=Af5.val s ho f1 E.b1.flt E.o1;have k0:=(A0f ho E.lt (j:=0) (by omega)).1;have k1:=(A0f ho E.lt (j:=1) (by omega)).1;have p0:=E.b0.prime;have p1:=E.b1.prime;have L0':=E.b0.bL;have L1':=E.b1.bL;have m0:=Af2.val (A0q s e 0) k0 L0 (A0j s 0).toNat 1 (by omega) (by rw[E.b0.cols];omega) (by omega);have m1:=Af2.val (A0q s e 1) k1 L1 (A0j s 0).toNat (s.2.1-1) (by omega) (by rw[E.b1.cols];omega) (by omega);rw[eW,E.b0.rows,Int.toNat_natCast]at m0;rw[eW,E.b1.rows,Int.toNat_natCast]at m1;have hR:=(A1N ho E.lt).2;rw[E.st,Int.toNat_natCast]at hR;have hS:=Ak8.val ((List.range R).map (rowW (A0q s e 0) L0 (A0j s 0).toNat 1)) ((List.range R).map (rowW (A0q s e 1) L1 (A0j s 0).toNat (s.2.1-1))) s.2.1 (A0j s 0).toNat hp (by simp) (by simp;omega) (by omega) (fun x hx=>by
     simp only[List.mem_map]at hx;obtain⟨a,_,rfl⟩:=hx;exact⟨A0i _ _ _ _ _,by rw[<-p0];exact A4H (by omega) _ _ _ _⟩) (fun x hx=>by
     simp only[List.mem_map]at hx;obtain⟨a,_,rfl⟩:=hx;exact⟨A0i _ _ _ _ _,by rw[<-p1];exact A4H (by omega) _ _ _ _⟩)
   have hS':Ak8.F ((List.range R).map (rowW (A0q s e 0) L0 (A0j s 0).toNat 1),(List.range R).map (rowW (A0q s e 1) L1 (A0j s 0).toNat (s.2.1-1)),s.2.1,())=some ((A1B s n,()),()):=by
     rw[hS];have:(List.range ((List.range R).map (rowW (A0q s e 0) L0 (A0j s 0).toNat 1)).length).map (fun i=>addL s.2.1 1 (((List.range R).map (rowW (A0q s e 0) L0 (A0j s 0).toNat 1)).getD i []) (((List.range R).map (rowW (A0q s e 1) L1 (A0j s 0).toNat (s.2.1-1))).getD i []))=A1B s n:=by
       rw[List.length_map,List.length_range,A1B,q,Int.toNat_natCast,E.st,Int.toNat_natCast];refine List.map_congr_left fun a ha=>?_;rw[List.mem_range]at ha;rw[A0J _ _ ha,A0J _ _ ha,rowC_eq ho E ha]
     rw[this]
   rw[Ah3.l5_eq,if_pos (ltI.2 hn),if_pos (idxI.2 hn)];simp only[Int.toNat_natCast,q,Aa1.val s.1 ho.1 e E.lt,Option.bind_some];rw[if_pos (idxI.2 hn),g0];simp only[Option.bind_some];rw[if_pos (by omega),Int.toNat_zero,a0,s0];simp only[Option.bind_some];rw[E.b0.left,m0];simp only[Option.bind_some];rw[if_pos (idxI.2 hn),g1];simp only[Option.bind_some];rw[if_pos (by omega),show(1:Int).toNat=1 from rfl,a1,s1];simp only[Option.bind_some];rw[E.b1.left,A0B (x:=s.2.1-1) (by omega) (by omega),m1];simp only[Option.bind_some];rw[hS'];simp only[Option.bind_some];rw[if_pos (by rw[h2];simp only[bigA];omega),A0x (by omega),h2,A0L]⟩) 0 [] (Nat.zero_le _) rfl
 refine hT _ ((hg _ ((Ev.const _).succ fun k=>?_)).of_eq fun k=>by rw[Ah3.T,hall];simp only[Option.bind_some];rw[Aa3.val s.1 1 (by omega) (by omega)];rfl);rw[Ah3.l5_eq,if_neg (by simp),hy];rfl
theorem A4w {c:List (List Int)}:∀ n,(∀ j,j<n->(c.getD j []).length=1)->A0w c 0 n=(List.range n).map fun(j:Nat)=>(j:Int):=by
 intro n;induction n with
 | zero=>intro _;rfl
 | succ n ih =>
   intro h;rw[A0R,if_pos (by rw[beq_iff_eq];have:=h n (by omega);omega),ih fun j hj=>h j (by omega),List.range_succ,List.map_append];rfl
theorem A3o {c:List (List Int)} (h:CplxOk c):∀ n,n≤c.length->∃ m,m≤n/\A0w c 0 n=((List.range m).map fun(j:Nat)=>(j:Int))/\∀ j,j<m->(c.getD j []).length=1:=by
 intro n;induction n with
 | zero=>intro _;exact⟨0,by omega,rfl,fun j hj=>by omega⟩
 | succ n ih =>
   intro hn;by_cases h1:(c.getD n []).length=1
   . have hall:∀ j,j<n+1->(c.getD j []).length=1:=fun j hj=>A3C h (show j≤n by omega) (by omega) h1;exact⟨n+1,Nat.le_refl _,A4w _ hall,hall⟩
   . obtain⟨m,h2,h3,h4⟩:=ih (by omega);refine⟨m,by omega,?_,h4⟩;rw[A0R,if_neg (by rw[beq_iff_eq];omega),h3]
theorem A0c {s:ShfV} (h:A0v s) {k:Nat} (hk:k<s.1.length):((s.2.2.1.getD k 0).toNat:Int)=s.2.2.1.getD k 0/\(s.2.2.1.getD k 0).toNat≤3:=by
 have h1:=A0A h.2.2.1.2.1 (show k<s.2.2.1.length by rw[h.2.2.1.1];exact hk);omega
def A0U (s:ShfV) (x:List Int) (n:Nat):List Int:=cutL x (A0O s n) (A0O s n+s.2.2.1.getD n 0)
theorem A2A (s:ShfV) (x:List Int) (hs:A0v s) (n:Nat) (hn:n<s.1.length) (hx:A0O s n+s.2.2.1.getD n 0≤x.length) (hxl:x.length≤1048576):Aj0.F (s,x,(n:Int),())=some ((A0U s x n,()),())/\((A0U s x n).length:Int)=s.2.2.1.getD n 0:=by
 have hT:Aj0.F (s,x,(n:Int),())=Aj0.T s.1 s.2.1 s.2.2.1 s.2.2.2 x (n:Int):=Aj0.eq _ _ _ _ _ _;have hc:Ad0.F ((s.1,(s.2.1,(s.2.2.1,s.2.2.2))),(n:Int),())=_:=Ad0.val s hs n hn;have hl:=hs.2.2.1.1;obtain⟨c0,_⟩:=A0V hs hn;have s0:=A0c hs hn;have hlen:((A0U s x n).length:Int)=s.2.2.1.getD n 0:=by
   simp only[A0U,cutL,List.length_drop,List.length_take];omega
 refine⟨?_,hlen⟩;rw[hT,Aj0.T,hc];simp only[Option.bind_some];rw[if_pos (by omega)];simp only[Int.toNat_natCast];rw[A0B (by omega) (by omega),if_pos (by omega),Ab9.val _ (by have:(cutL x (A0O s n) (A0O s n+s.2.2.1.getD n 0)).length=(A0U s x n).length:=rfl;omega)];rfl
def nv (p:List (List Int)):Nat:=(A0w p 0 p.length).length
theorem A1x {p:List (List Int)} (hc:CplxOk p):nv p≤p.length/\(∀ j,j<nv p->(A0w p 0 p.length).getD j 0=(j:Int)/\(p.getD j []).length=1)/\∀ j,j<p.length->(p.getD j []).length=1->j<nv p:=by
 obtain⟨m,h1,h2,h3⟩:=A3o hc p.length (Nat.le_refl _);have e:nv p=m:=by rw[nv,h2];simp
 rw[e];refine⟨h1,fun j hj=>⟨by rw[h2,A0J _ 0 hj],h3 j hj⟩,fun j hj hl=>?_⟩;have hm:(j:Int)∈A0w p 0 p.length:=by
   unfold A0w;exact List.mem_map.2 ⟨j,List.mem_filter.2 ⟨List.mem_range.2 hj,by rw[beq_iff_eq];omega⟩,rfl⟩
 rw[h2]at hm;obtain⟨i,hi,e2⟩:=List.mem_map.1 hm;have:=List.mem_range.1 hi;omega
def vpl (s:ShfV) (p:List (List Int)):List Int:=(List.range (nv p)).map fun j=>((A0G s.1 (p.getD j []):Nat):Int)
theorem A0W (s:ShfV) (p:List (List Int)):(vpl s p).length=nv p:=by simp[vpl]
theorem A3y (s:ShfV) (p:List (List Int)) {j:Nat} (h:j<nv p):(vpl s p).getD j 0=((A0G s.1 (p.getD j []):Nat):Int):=A0J _ 0 h
theorem Ah4.val {s:ShfV} {p:List (List Int)} (h:A0v s) (hc:CplxOk p) (hi:IsIn p s.1):Ah4.F (s,p,())=some ((vpl s p,()),()):=by
 have hn:=hc.1;have e0:=Aa3.val p 0 (by omega) (by omega);obtain⟨n1,n2,-⟩:=A1x hc;refine Ah4.of s.1 s.2.1 s.2.2.1 s.2.2.2 p ?_;have g:=Goes.push (R:=(List Int×Unit)×Unit) (fun k i v=>Ah4.l4 k s.1 s.2.1 s.2.2.1 s.2.2.2 p (i:Int) v (A0w p 0 p.length)) (nv p) (fun j=>((A0G s.1 (p.getD j []):Nat):Int)) fun i v hi' hv=>Goes.succ fun k=>by
   have hi2:i<(A0w p 0 p.length).length:=hi';rw[Ah4.l4_eq,if_pos (ltI.2 hi2),if_pos (idxI.2 hi2)];simp only[Int.toNat_natCast];rw[(n2 i hi').1,if_pos (idxI.2 (by omega))];simp only[Int.toNat_natCast,A1X h.1 (hi _ (A0z [] (show i<p.length by omega))),Option.bind_some];rw[if_pos (A1n hv (by omega)),A0x (by omega)]
 refine Ev.of_eq (g _ ((Ev.const _).succ fun k=>?_)) fun k=>?_
 . rw[Ah4.l4_eq,if_neg (by simp only[nv];simp)];rfl
 . rw[Ah4.T,e0];rfl
theorem Ad9.val {s:ShfV} {p:List (List Int)} (h:A0v s) (hc:CplxOk p) (hi:IsIn p s.1) {x:List Int} (hx:(x.length:Int)=A0j (rstS s p) 0) {j:Nat} (hj:j<nv p) :
   Ad9.F (s,p,x,((A0G s.1 (p.getD j []):Nat):Int),())=some ((A0U (rstS s p) x j,()),()):=by
 have hn:=hc.1;have hn':=h.1.1;have hl:=h.2.2.1.1;have ht:=A2c h hc hi;obtain⟨n1,n2,-⟩:=A1x hc;have hall:=ht.2.2.1.2.1;have hstl:(rstS s p).2.2.1.length=p.length:=ht.2.2.1.1;have hst:∀ i,i<p.length->(rstS s p).2.2.1.getD i 0=s.2.2.1.getD (A0G s.1 (p.getD i [])) 0:=fun i hi'=>by
   show(A0I s p (vts p)).getD i 0=_;rw[A0n s hc,stIn,A0J _ 0 hi']
 have hidx:∀ i,i<p.length->A0G s.1 (p.getD i [])<s.1.length:=fun i hi'=>(A0C (hi _ (A0z [] hi'))).1;obtain⟨z1,z2⟩:=A0V ht (show j<(rstS s p).1.length by show j<p.length;omega);have hj1:((rstS s p).1.getD j []).length=1:=(n2 j hj).2;have hcol:A0O (rstS s p) j=psum p (rstS s p).2.2.1 0 j:=by rw[A0O,hj1];rfl
 rw[hj1,hst j (by omega)]at z2;have z3:(((1:Nat):Int)-1)=0:=rfl;rw[z3,<-hx]at z2;have hs3:=A0A h.2.2.1.2.1 (show A0G s.1 (p.getD j [])<s.2.2.1.length by have:=hidx j (by omega);omega);refine Ad9.of s.1 s.2.1 s.2.2.1 s.2.2.2 p x _ ?_;obtain⟨y,hy,hg⟩:=Goes.loop (R:=(List Int×Unit)×Unit) (fun k i (y:Int)=>Ad9.l4 k s.1 s.2.1 s.2.2.1 s.2.2.2 x ((A0G s.1 (p.getD j []):Nat):Int) y (i:Int) (vpl s p)) j (fun i y=>y=psum p (rstS s p).2.2.1 0 i) (fun i y hi' h2=>⟨_,rfl,Goes.succ fun k=>by
   have b:=A1E (c:=p) (d:=0) hall i (by omega);have g:=A0A hall (show i<(rstS s p).2.2.1.length by omega);have hl1:=(n2 i (by omega)).2;have hm:=A3Y h.1 hc hi hi' (show j<p.length by omega);have hii:=hidx i (by omega);have hst':=hst i (by omega);rw[Ad9.l4_eq,if_pos (ltI.2 (by rw[A0W];omega)),if_pos (idxI.2 (by rw[A0W];omega))];simp only[Int.toNat_natCast];rw[A3y s p (by omega),if_neg (by rw[beq_iff_eq];omega),if_pos (idxI.2 (by rw[A0W];omega)),if_pos (idxI.2 (by omega))];simp only[Int.toNat_natCast,psum];rw[A0x (by omega),h2,<-hst',A0B (by omega) (by omega),if_pos (by omega)]⟩) 0 0 (Nat.zero_le _) rfl
 refine Ev.of_eq (hg _ ((Ev.const _).succ fun k=>?_)) fun k=>by rw[Ad9.T];have e:=Ah4.val h hc hi;have e:Ah4.F ((s.1,(s.2.1,(s.2.2.1,s.2.2.2))),p,())=_:=e;rw[e];rfl
 have hii:=hidx j (by omega);have hb32:=A0E ht 0;rw[Ad9.l4_eq,if_pos (ltI.2 (by rw[A0W];omega)),if_pos (idxI.2 (by rw[A0W];omega))];simp only[Int.toNat_natCast];rw[A3y s p hj,if_pos (by rw[beq_iff_eq]),if_pos (idxI.2 (by omega)),hy,<-hcol,A0B (by omega) (by omega),if_pos (by omega),A0U,hst j (by omega)]
def both (a b:List (List Int)):List (List Int):=a.filter fun s=>decide (s∈b)
theorem A3g {a:List (List Int)} (b:List (List Int)) (h:SmL a):SmL (both a b) :=
 ⟨Nat.le_trans (List.length_filter_le _ _) h.1,fun x hx=>h.2 x (List.mem_filter.1 hx).1⟩
theorem A2D {a:List (List Int)} (b:List (List Int)) (h:A0T a):A0T (both a b):=sortedS_pw.2 ((sortedS_pw.1 h).sublist List.filter_sublist)
theorem A3j (a b:List (List Int)) {i:Nat} (hi:i<a.length):both (a.take (i+1)) b=both (a.take i) b++(if a.getD i []∈b then[a.getD i []]else[]):=by
 rw[both,both,List.take_add_one,List.getElem?_eq_getElem hi,Option.toList_some,List.filter_append,A0y hi];congr 1;by_cases h:a[i]∈b<;>simp[h]
theorem A1V (a b:List (List Int)) (i:Nat):(both (a.take i) b).length≤i:=Nat.le_trans (List.length_filter_le _ _) (by simp;omega)
theorem Ac1.val (a b:List (List Int)) (ha:SmL a) (hb:SmL b):Ac1.F (a,b,())=some ((both a b,()),()):=by
 have hn:=ha.1;refine Ac1.of _ _ ?_;obtain⟨s,hs,hg⟩:=Goes.loop (R:=((List (List Int)×Unit)×Unit)) (fun k i (x:List (List Int))=>Ac1.l3 k a b (i:Int) [] x) a.length (fun i x=>x=both (a.take i) b) (fun i x hi h2=>⟨_,rfl,Goes.succ fun k=>by
   obtain⟨r,hr,hr'⟩:=Aa0.val b (a.getD i []) hb;have hl:=A1V a b i;rw[Ac1.l3_eq,if_pos (ltI.2 hi),if_pos (idxI.2 hi)];simp only[Int.toNat_natCast,hr,Option.bind_some,Ad1.val _ (ha.2 _ (A0z [] hi))];rw[A3j a b hi,A0x (by omega),<-h2];by_cases hm:a.getD i []∈b
   . have:¬ r<0:=fun hh=>hr'.1 hh hm;rw[if_pos (by simp;omega),if_pos (idxI.2 hi),if_pos (by rw[h2];simp only[List.length_cons,List.length_nil,bigA];omega),if_pos hm]
   . have:r<0:=hr'.2 hm;rw[if_neg (by simp;omega),if_neg hm,List.append_nil]⟩) 0 [] (Nat.zero_le _) rfl
 rw[List.take_of_length_le (Nat.le_refl _)]at hs;refine Ev.of_eq (hg _ ((Ev.const _).succ fun k=>?_)) fun k=>rfl;rw[Ac1.l3_eq,if_neg (by simp),hs]
theorem Al4.val (a:List (List Int)) (f:List Int×Unit->Option (Bool×Unit)) (b:List (List Int)) (ha:SmL a) (hf:∀ s∈a,f (s,())=some (decide (s∈b),())) (hs:A0T a) :
   Al4.F (a,f,())=some ((both a b,()),()):=by
 have hn:=ha.1;refine Al4.of _ _ ?_;obtain⟨s,hs',hg⟩:=Goes.loop (R:=((List (List Int)×Unit)×Unit)) (fun k i (x:List (List Int))=>Al4.l3 k f a (a.length:Int) (i:Int) [] x) a.length (fun i x=>x=both (a.take i) b) (fun i x hi h2=>⟨_,rfl,Goes.succ fun k=>by
   have hl:=A1V a b i;rw[Al4.l3_eq,if_pos (ltI.2 hi),if_pos (idxI.2 hi)];simp only[Int.toNat_natCast,hf _ (A0z [] hi),Option.bind_some];rw[A3j a b hi,A0x (by omega),<-h2];by_cases hm:a.getD i []∈b
   . rw[if_pos (decide_eq_true hm),if_pos (by rw[h2];simp only[List.length_cons,List.length_nil,bigA];omega),if_pos hm]
   . rw[if_neg (fun hh=>hm (of_decide_eq_true hh)),if_neg hm,List.append_nil]⟩) 0 [] (Nat.zero_le _) rfl
 rw[List.take_of_length_le (Nat.le_refl _)]at hs';refine Ev.of_eq (hg _ ((Ev.const _).succ fun k=>?_)) fun k=>rfl;rw[Al4.l3_eq,if_neg (by simp),hs',Ad7.same _ (A3g b ha) (A2D b hs)];rfl
theorem Ah8.val (a b:List (List Int)) (ha:SmL a) (hb:SmL b) (sa:A0T a) (sb:A0T b):Ah8.F (a,b,())=some ((both a b,()),()):=by
 rw[Ah8.eq,Ah8.T,Al4.val a _ b ha (fun s hs=>?_) sa]
 . rfl
 . obtain⟨r,hr,hr'⟩:=Aa5.val b s sb hb (ha.2 s hs);show(Ar9.F (s,b,())).map (·.1)=_;rw[Ar9.eq,Ar9.T,hr];simp only[Option.bind_some,Option.map_some,Option.some.injEq,Prod.mk.injEq,and_true,decide_eq_decide];have:r<0↔s∉b:=hr';by_cases h:s∈b
   . have h2:¬ r<0:=fun hh=>(this.1 hh) h;simp only[h,iff_true];omega
   . simp only[h,iff_false];have:=this.2 h;omega
theorem Ao4.same (xs ys:List (List Int)) (h:SmL xs):∃ b,Ao4.F (xs,ys,())=some ((b,()),())/\(b=true↔xs=ys):=by
 have hn:=h.1;rw[Ao4.eq,Ao4.T]
 suffices ∃ b,Ak4.F (xs,ys,Ac2.cloG (()),())=some ((b,()),())/\(b=true↔xs=ys)by
   obtain⟨b,hb,hb'⟩:=this;rw[hb];exact⟨b,rfl,hb'⟩
 by_cases hl:xs.length=ys.length
 . obtain⟨b,hb,hb'⟩:=A1z (fun k i=>Ak4.l4 k ys (Ac2.cloG (())) xs xs.length (i:Int)) xs ys [] hl (fun i hi=>by
     obtain⟨c,hc,hc'⟩:=Ac2.same (xs.getD i []) (ys.getD i []) (h.2 _ (A0z _ hi));have hc2:Ac2.cloG (()) (xs.getD i [],ys.getD i [],())=some (c,()):=by
       show(Ac2.F (xs.getD i [],ys.getD i [],())).map (·.1)=_;rw[hc];rfl
     exact⟨c,hc',fun k=>by rw[Ak4.l4_eq,if_pos (ltI.2 hi),if_pos (idxI.2 hi),if_pos (idx2 (hl▸hi))];simp only[Int.toNat_natCast,hc2,Option.bind_some];rw[A0x (by omega)]⟩) (fun k=>by rw[Ak4.l4_eq,if_neg (by simp)])
   exact⟨b,Ak4.of _ _ _ (hb.of_eq fun k=>by rw[Ak4.T,if_neg (by simp[hl])];rfl),hb'⟩
 . exact⟨false,Ak4.of _ _ _ ((Ev.const _).of_eq fun k=>by rw[Ak4.T,if_pos (by simp;omega)]),by simp;intro e;exact hl (by rw[e])⟩
theorem An8.same (xs ys:List (List Int)) (h:SmL xs):∃ b,An8.F (xs,ys,())=some ((b,()),())/\(b=true↔xs=ys):=by
 obtain⟨b,hb,hb'⟩:=Ao4.same xs ys h;rw[An8.eq,An8.T,hb];exact⟨b,rfl,hb'⟩
def A4z (c a b:List (List Int)):Prop:=(∀ s∈a,s∈c)/\(∀ s∈b,s∈c)/\∀ s∈c,s∈a∨s∈b
theorem both_all {a b:List (List Int)}:(both a b).length=a.length↔∀ s∈a,s∈b:=by
 rw[both,List.length_filter_eq_length_iff];simp
theorem Ae4.val (c a b:List (List Int)) (hc:SmL c) (ha:SmL a) (hb:SmL b):∃ v,Ae4.F (c,a,b,())=some ((v,()),())/\(v=true↔A4z c a b):=by
 have hn:=hc.1;obtain⟨v,hv,hv'⟩:=Ev.allP (L:=fun k i=>Ae4.l6 k c a b (i:Int)) (a:=()) (b:=()) (n:=c.length) (fun i=>c.getD i []∈a∨c.getD i []∈b) true (fun i hi=>by
   have E:=fun k=>Ae4.l6_eq k c a b (i:Int);obtain⟨r,hr,hr'⟩:=Aa0.val a (c.getD i []) ha;obtain⟨t,ht,ht'⟩:=Aa0.val b (c.getD i []) hb;simp only[if_pos (ltI.2 hi),if_pos (idxI.2 hi),Int.toNat_natCast,hr,ht,Option.bind_some,A0x (show i<4611686018427387904 by omega)]at E;by_cases hm:c.getD i []∈a
   . exact .inl ⟨.inl hm,fun k=>by rw[E,if_neg (by simp only[decide_eq_true_eq,hr'];exact fun hh=>hh hm)]⟩
   . by_cases hm2:c.getD i []∈b
     . exact .inl ⟨.inr hm2,fun k=>by rw[E,if_pos (by simp only[decide_eq_true_eq,hr'];exact hm),if_neg (by simp only[decide_eq_true_eq,ht'];exact fun hh=>hh hm2)]⟩
     . exact .inr ⟨fun hh=>hh.elim hm hm2,fun k=>by rw[E,if_pos (by simp only[decide_eq_true_eq,hr'];exact hm),if_pos (by simp only[decide_eq_true_eq,ht'];exact hm2)]⟩) ((Ev.const _).succ fun k=>by rw[Ae4.l6_eq,if_neg (by simp)]) 0 (Nat.zero_le _)
 have T:=fun k=>(rfl:Ae4.T k c a b=_);simp only[Ae4.T,Ac1.val a c ha hc,Ac1.val b c hb hc,Option.bind_some]at T;by_cases h1:∀ s∈a,s∈c
 . have e1:=both_all.2 h1;by_cases h2:∀ s∈b,s∈c
   . have e2:=both_all.2 h2;refine⟨v,Ae4.of _ _ _ (hv.of_eq fun k=>?_),hv'.trans ⟨fun⟨_,h⟩=>⟨h1,h2,fun s hs=>?_⟩,fun h=>⟨rfl,fun j _ hj=>h.2.2 _ (A0z _ hj)⟩⟩⟩
     . show Ae4.T k c a b=_;rw[Ae4.T,Ac1.val a c ha hc,Ac1.val b c hb hc];simp only[Option.bind_some];rw[if_neg (by simp[e1]),if_neg (by simp[e2])];rfl
     . obtain⟨j,hj,rfl⟩:=List.getElem_of_mem hs;have:=h j (Nat.zero_le _) hj
       rwa [A0y hj]at this
   . refine⟨false,Ae4.of _ _ _ ((Ev.const _).of_eq fun k=>?_),by simp only[Bool.false_eq_true,false_iff];exact fun h=>h2 h.2.1⟩;have e2:¬ (both b c).length=b.length:=fun h=>h2 (both_all.1 h);show Ae4.T k c a b=_;rw[Ae4.T,Ac1.val a c ha hc,Ac1.val b c hb hc];simp only[Option.bind_some];rw[if_neg (by simp[e1]),if_pos (by simp;omega)]
 . refine⟨false,Ae4.of _ _ _ ((Ev.const _).of_eq fun k=>?_),by simp only[Bool.false_eq_true,false_iff];exact fun h=>h1 h.1⟩;have e1:¬ (both a c).length=a.length:=fun h=>h1 (both_all.1 h);show Ae4.T k c a b=_;rw[Ae4.T,Ac1.val a c ha hc,Ac1.val b c hb hc];simp only[Option.bind_some];rw[if_pos (by simp;omega)]
theorem Ag4.val2 (a b:List (List Int)) (ha:a.length≤1048576) (hb:b.length≤1048576):Ag4.F ([a,b],())=some ((a++b,()),()):=by
 have w1:IntKind.i64.wrap (0+(a.length:Int))=(a.length:Int):=by rw[A0B (by omega) (by omega)];omega
 have w2:IntKind.i64.wrap ((a.length:Int)+(b.length:Int))=(a.length:Int)+(b.length:Int):=A0B (by omega) (by omega);have w3:IntKind.i64.wrap ((0:Int)+1)=1:=A0B (by omega) (by omega);have w4:IntKind.i64.wrap ((1:Int)+1)=2:=A0B (by omega) (by omega);refine Ag4.of _ ⟨6,fun k hk=>?_⟩;obtain⟨k,rfl⟩:∃ j,k=j+1+1+1+1+1+1:=⟨k-6,by omega⟩;show Ag4.T (k+1+1+1+1+1+1) [a,b]=_;have e0:((([a,b]:List (List (List Int))).length:Nat):Int)=2:=rfl;rw[Ag4.T,e0,Ag4.l3_eq,if_pos (by decide),if_pos (by rw[e0];decide)];simp only[Int.toNat_zero,List.getD_cons_zero,w1,w3];rw[if_neg (by simp only[decide_eq_true_eq];omega),Ag4.l3_eq,if_pos (by decide),if_pos (by rw[e0];decide)];simp only[show(1:Int).toNat=1 from rfl,List.getD_cons_succ,List.getD_cons_zero,w2,w4];rw[if_neg (by simp only[decide_eq_true_eq];omega),Ag4.l3_eq,if_neg (by decide),if_pos (by simp only[bigN];omega),e0,Ag4.l11_eq,if_pos (by decide),if_pos (by rw[e0];decide)];simp only[Int.toNat_zero,List.getD_cons_zero,w3];rw[if_pos (by simp only[List.length_nil,bigA];omega),Ag4.l11_eq,if_pos (by decide),if_pos (by rw[e0];decide)];simp only[show(1:Int).toNat=1 from rfl,List.getD_cons_succ,List.getD_cons_zero,w4,List.nil_append];rw[if_pos (by simp only[bigA];omega),Ag4.l11_eq,if_neg (by decide)]
theorem Ap0.val (a b:List (List Int)) (ha:CplxOk a) (hb:CplxOk b):Ap0.F (a,b,())=some ((A2H (a++b),()),()):=by
 have h1:=ha.1;have h2:=hb.1;have hs:SmL (a++b):=⟨by rw[List.length_append];omega,fun x hx=>(List.mem_append.1 hx).elim (ha.small.2 x) (hb.small.2 x)⟩;rw[Ap0.eq,Ap0.T,Ag4.val2 a b (by omega) (by omega)];simp only[Option.bind_some,Ad7.val _ hs]
theorem A2I {c a b:List (List Int)} (hc:A0T c):A2H (a++b)=c↔A4z c a b:=by
 constructor
 . rintro rfl;refine⟨fun s hs=>by rw[A0s];simp[hs],fun s hs=>by rw[A0s];simp[hs],fun s hs=>by rw[A0s]at hs;simpa using hs⟩
 . rintro⟨h1,h2,h3⟩;refine A1p (A3Z _) (sortedS_pw.1 hc) fun s=>?_;rw[A0s,List.mem_append];exact⟨fun h=>h.elim (h1 s) (h2 s),h3 s⟩
theorem A3N {c a b:List (List Int)} (kc:CplxOk c) (ka:CplxOk a) (kb:CplxOk b):∃ v,Aq9.F (c,a,b,())=some ((v,()),())/\(v=true↔A4z c a b):=by
 obtain⟨u1,b1,b1'⟩:=Ab2.val c kc.small;obtain⟨u2,b2,b2'⟩:=Ab2.val a ka.small;obtain⟨u3,b3,b3'⟩:=Ab2.val b kb.small;obtain rfl:u1=true:=b1'.2 kc;obtain rfl:u2=true:=b2'.2 ka;obtain rfl:u3=true:=b3'.2 kb;have hsm:SmL (A2H (a++b)):=by
   refine⟨?_,fun x hx=>?_⟩
   . have h1:=ka.1;have h2:=kb.1;have hle:∀ (l:List (List Int)) (p:List Int),(a2N p l).length≤l.length:=by
       intro l;induction l with
       | nil=>intro p;simp[a2N]
       | cons x l ih => intro p;simp only[a2N];split
                        . have:=ih x;simp only[List.length_cons];omega
                        . have:=ih x;simp only[List.length_cons];omega
     have hle2:(A2H (a++b)).length≤(b4O ordS (a++b)).length:=by
       unfold A2H;cases b4O ordS (a++b)with
       | nil=>simp[a8z]
       | cons x l=>have:=hle l x;simp only[a8z,List.length_cons];omega
     rw[(A1o (a++b)).length_eq,List.length_append]at hle2;omega
   . have:=(A0s x (a++b)).1 hx;exact(List.mem_append.1 this).elim (ka.small.2 x) (kb.small.2 x)
 obtain⟨w,e2,e2'⟩:=An8.same (A2H (a++b)) c hsm;refine⟨w,?_,e2'.trans (A2I kc.sorted)⟩;rw[Aq9.eq,Aq9.T,b1,b2,b3];simp only[Option.bind_some,if_true,Ap0.val a b ka kb,e2]
open Classical in
noncomputable def covC (s:ShfV) (a b:List (List Int)):Int:=if A1T s/\CplxOk a/\CplxOk b then(if A4z s.1 a b then 0 else 6)else 1
theorem covC_zero {s:ShfV} {a b:List (List Int)}:covC s a b=0↔(A1T s/\CplxOk a/\CplxOk b)/\A4z s.1 a b:=by
 unfold covC;split
 . split<;>simp[*]
 . simp[*]
theorem Aj8.val (s:ShfV) (a b:List (List Int)) (hs:SmSh s) (ha:SmL a) (hb:SmL b):Aj8.F (s,a,b,())=some ((covC s a b,()),()):=by
 obtain⟨v1,a1,a1'⟩:=Aj6.val s hs;obtain⟨v2,a2,a2'⟩:=Ab2.val a ha;obtain⟨v3,a3,a3'⟩:=Ab2.val b hb;have a1:Aj6.F ((s.1,(s.2.1,(s.2.2.1,s.2.2.2))),())=_:=a1;have T:Aj8.F (s,a,b,())=Aj8.T s.1 s.2.1 s.2.2.1 s.2.2.2 a b:=Aj8.eq _ _ _ _ _ _;rw[T,Aj8.T,a1,a2,a3];simp only[Option.bind_some];unfold covC;cases v1 with
 | false=>rw[if_pos (by simp),if_neg fun hh=>absurd (a1'.2 hh.1) (by simp)]
 | true=>cases v2 with
   | false=>rw[if_neg (by simp),if_pos (by simp),if_neg fun hh=>absurd (a2'.2 hh.2.1) (by simp)]
   | true=>cases v3 with
     | false=>rw[if_neg (by simp),if_neg (by simp),if_pos (by simp),if_neg fun hh=>absurd (a3'.2 hh.2.2) (by simp)]
     | true =>
       have k1:=a1'.1 rfl;have k2:=a2'.1 rfl;have k3:=a3'.1 rfl;obtain⟨v4,a4,a4'⟩:=A3N k1.1.1 k2 k3;rw[if_neg (by simp),if_neg (by simp),if_neg (by simp),if_pos ⟨k1,k2,k3⟩,a4];simp only[Option.bind_some];cases v4 with
       | false=>rw[if_pos (by simp),if_neg fun hh=>absurd (a4'.2 hh) (by simp)]
       | true=>rw[if_neg (by simp),if_pos (a4'.1 rfl)]
theorem Al0.val (s:ShfV) (a b:List (List Int)) (hs:SmSh s) (ha:SmL a) (hb:SmL b):Al0.F (s,a,b,())=some ((covC s a b,()),()):=by
 obtain⟨v1,a1,a1'⟩:=Af1.val s hs;obtain⟨v2,a2,a2'⟩:=Aa4.val a ha;obtain⟨v3,a3,a3'⟩:=Aa4.val b hb;have a1:Af1.F ((s.1,(s.2.1,(s.2.2.1,s.2.2.2))),())=_:=a1;have T:Al0.F (s,a,b,())=Al0.T s.1 s.2.1 s.2.2.1 s.2.2.2 a b:=Al0.eq _ _ _ _ _ _;rw[T,Al0.T,a1,a2,a3];simp only[Option.bind_some];unfold covC;cases v1 with
 | false=>rw[if_pos (by simp),if_neg fun hh=>absurd (a1'.2 hh.1) (by simp)]
 | true=>cases v2 with
   | false=>rw[if_neg (by simp),if_pos (by simp),if_neg fun hh=>absurd (a2'.2 hh.2.1) (by simp)]
   | true=>cases v3 with
     | false=>rw[if_neg (by simp),if_neg (by simp),if_pos (by simp),if_neg fun hh=>absurd (a3'.2 hh.2.2) (by simp)]
     | true =>
       have k1:=a1'.1 rfl;have k2:=a2'.1 rfl;have k3:=a3'.1 rfl;obtain⟨v4,a4,a4'⟩:=Ae4.val s.1 a b k1.1.1.small k2.small k3.small;rw[if_neg (by simp),if_neg (by simp),if_neg (by simp),if_pos ⟨k1,k2,k3⟩,a4];simp only[Option.bind_some];cases v4 with
       | false=>rw[if_pos (by simp),if_neg fun hh=>absurd (a4'.2 hh) (by simp)]
       | true=>rw[if_neg (by simp),if_pos (a4'.1 rfl)]
def A4y (s:ShfV) (x:List Int):Prop:=A1O s 0 x/\∀ y∈A1R s,sumN (dotE y x) y.length%s.2.1=0
theorem A4F {c:List (List Int)} {st:List Int} {d:Int}:∀ (n:Nat) (r:Int),0≤r->r<psum c st d n->∃ h,h<n/\((c.getD h []).length:Int)=d+1/\psum c st d h≤r/\r<psum c st d h+st.getD h 0:=by
 intro n;induction n with
 | zero=>intro r h0 h;simp only[psum]at h;omega
 | succ n ih =>
   intro r h0 h;by_cases hr:r<psum c st d n
   . obtain⟨x,h1,h2⟩:=ih r h0 hr;exact⟨x,by omega,h2⟩
   . simp only[psum]at h;by_cases hd:((c.getD n []).length:Int)=d+1
     . rw[if_pos hd]at h;exact⟨n,by omega,hd,by omega,h⟩
     . rw[if_neg hd]at h;omega
theorem A3V {s:ShfV} (ho:A0v s) {n:Nat} (hn:n<(A0k s).length) {y:List Int} (hy:y∈A1B s n):∃ r,r<(A0j s 1).toNat/\y=rowL (cobM s 0).2.2.2 (A0j s 0).toNat r:=by
 obtain⟨e,f0,f1,R,C0,C1,T,L0,L1,q,E⟩:=A2l ho hn;rw[A1B,q,Int.toNat_natCast]at hy;simp only[List.mem_map,List.mem_range]at hy;obtain⟨a,ha,rfl⟩:=hy;obtain⟨u0,u1⟩:=A0V ho E.lt;have he:((s.1.getD e []).length:Int)-1=1:=by
   have:=E.two;rw[A0P]at this;split at this<;>omega
 rw[he]at u1;exact⟨(A0O s e).toNat+a,by omega,(A4x ho (k:=0) (by omega) hn q ha).symm⟩
theorem A3c {s:ShfV} (ho:A0v s) {r:Nat} (hr:r<(A0j s 1).toNat):rowL (cobM s 0).2.2.2 (A0j s 0).toNat r∈A1R s:=by
 have hsl:=ho.2.2.1.1;have e1:=A1j ho 1;obtain⟨h,h1,h2,h3,h4⟩:=A4F (c:=s.1) (st:=s.2.2.1) (d:=1) s.1.length (r:Int) (by omega) (by omega);have hm:((h:Nat):Int)∈A0k s:=by
   unfold A0k A0w;simp only[List.mem_map,List.mem_filter,List.mem_range,beq_iff_eq];exact⟨h,⟨h1,h2⟩,rfl⟩
 obtain⟨n,hn,he⟩:=List.getElem_of_mem hm;have q:(A0k s).getD n 0=(h:Int):=by rw[A0y hn];exact he
 have hT:A0O s h=psum s.1 s.2.2.1 1 h:=by unfold A0O;rw[show((s.1.getD h []).length:Int)-1=1 by omega]
 obtain⟨u0,u1⟩:=A0V ho h1;have ha:r-(A0O s h).toNat<(s.2.2.1.getD h 0).toNat:=by omega
 have:=A4x ho (k:=0) (by omega) hn q ha;rw[show(A0O s h).toNat+(r-(A0O s h).toNat)=r by omega]at this;rw[this,A1R,List.mem_flatMap];refine⟨n,by simpa using hn,?_⟩;rw[A1B,q,Int.toNat_natCast];exact List.mem_map.2 ⟨_,by simpa using ha,rfl⟩
theorem A2G {s:ShfV} (ho:A0v s) {y:List Int} (hy:y∈A1R s):y.length=(A0j s 0).toNat/\A0Q 0 (s.2.1-1) y:=by
 rw[A1R,List.mem_flatMap]at hy;obtain⟨n,hn,hy⟩:=hy;rw[List.mem_range]at hn;obtain⟨r,h1,rfl⟩:=A3V ho hn hy;have hM:=A2g ho 0;have hl:(cobM s 0).2.2.2.length=(A0j s 1).toNat*(A0j s 0).toNat:=by
   show(wr _ _).length=_;rw[A0l,List.length_replicate];rfl
 exact⟨A0Y hl h1,fun x hx=>hM.2.2.2.2 x (A2B hx)⟩
theorem Al7.val (s:ShfV) (ho:A0v s) (x:List Int) (hx:x.length≤1048576):∃ v,Al7.F (s,x,())=some ((v,()),())/\(v=true↔A4y s x):=by
 have hT:Al7.F (s,x,())=Al7.T s.1 s.2.1 s.2.2.1 s.2.2.2 x:=Al7.eq _ _ _ _ _;have hp:=ho.2.1.1;obtain⟨c1,c2⟩:=A0E ho 0;have hn:Ab0.F ((s.1,(s.2.1,(s.2.2.1,s.2.2.2))),0,())=_:=Ab0.val' s ho 0 (by omega);obtain⟨v,hv,hv'⟩:=Ao8.val x (A0j s 0) s.2.1 (by omega);rw[A0B (x:=s.2.1-1) (by omega) (by omega)]at hv';have hv':v=true↔A1O s 0 x:=hv';rw[hT,Al7.T,hn];simp only[Option.bind_some,hv];cases v with
 | false=>exact⟨false,by rw[if_neg (by simp)],by simp only[Bool.false_eq_true,false_iff];exact fun h=>absurd (hv'.2 h.1) (by simp)⟩
 | true =>
   have hch:=hv'.1 rfl;have hc:Aa8.F ((s.1,(s.2.1,(s.2.2.1,s.2.2.2))),0,())=_:=Aa8.val s ho 0 (by omega);have hM:=A2g ho 0;have ha:=Af7.val (cobM s 0) x hM hch.2 hch.1.symm;have hl:=A1U (cobM s 0) x;have hH:(cobM s 0).2.1.toNat=(A0j s 1).toNat:=rfl;have hz:Ar2.F (A1q (cobM s 0) x,())=some ((!(A1q (cobM s 0) x).any fun a=>a !=0,()),()):=by
     rw[Ar2.eq,Ar2.T,Ad4.val (A1q (cobM s 0) x) (Ar3.cloG (())) (fun a=>a !=0) (fun a _=>by
       show(Ar3.F (a,())).map (·.1)=_;rw[Ar3.eq,Ar3.T];rfl) (by have:=A0E ho 1;omega)]
     rfl
   refine⟨_,by rw[if_pos rfl,hc];simp only[Option.bind_some];rw[ha];simp only[Option.bind_some];rw[hz];rfl,?_⟩;have key:∀ r,r<(A0j s 1).toNat->sumN (fun k=>(cobM s 0).2.2.2.getD (r*(A0j s 0).toNat+k) 0*x.getD k 0) (A0j s 0).toNat=sumN (dotE (rowL (cobM s 0).2.2.2 (A0j s 0).toNat r) x) (A0j s 0).toNat:=fun r hr=>A1r fun k hk=>by rw[dotE,A1H hk]
   simp only[Bool.not_eq_true',List.any_eq_false,bne_iff_ne,ne_eq,Classical.not_not];constructor
   . intro h;refine⟨hch,fun y hy=>?_⟩;obtain⟨l1,_⟩:=A2G ho hy;rw[A1R,List.mem_flatMap]at hy;obtain⟨n,hn,hy⟩:=hy;rw[List.mem_range]at hn;obtain⟨r,h1,rfl⟩:=A3V ho hn hy;rw[l1,<-key r h1];refine h _ ?_;rw[A1q,List.mem_map];exact⟨r,by rw[List.mem_range];exact h1,rfl⟩
   . intro h a ha;rw[A1q,List.mem_map]at ha;obtain⟨r,hr,rfl⟩:=ha;rw[List.mem_range]at hr;have hr:r<(A0j s 1).toNat:=hr;have h2:=h.2 _ (A3c ho hr);rw[(A2G ho (A3c ho hr)).1,<-key r hr]at h2;exact h2
theorem Ag8.val (s:ShfV) (ho:A0v s) (x:List Int) (hx:x.length≤1048576):∃ v,Ag8.F (s,x,())=some ((v,()),())/\(v=true↔A4y s x):=by
 have hT:∀ r,Ev (fun n=>Ag8.T n s.1 s.2.1 s.2.2.1 s.2.2.2 x) r->Ag8.F (s,x,())=some r:=fun r hr=>Ag8.of _ _ _ _ _ hr;have hp:=ho.2.1.1;obtain⟨c1,c2⟩:=A0E ho 0;have hall:Ai7.F ((s.1,(s.2.1,(s.2.2.1,s.2.2.2))),())=some ((A0j s 0,()),()):=by
   rw[Ai7.eq,Ai7.T,Ac0.val' s ho 0 (by omega)];rfl
 obtain⟨v,hv,hv'⟩:=Aq1.val s.2.1 (A0j s 0) x hp hx (by omega);have hv':v=true↔A1O s 0 x:=hv';cases v with
 | false=>exact⟨false,hT _ ((Ev.const _).of_eq fun n=>by rw[Ag8.T,hall];simp only[Option.bind_some,hv];rw[if_pos (by simp)]),by simp only[Bool.false_eq_true,false_iff];exact fun h=>absurd (hv'.2 h.1) (by simp)⟩
 | true =>
   have hch:=hv'.1 rfl;have hcd:Ah3.F ((s.1,(s.2.1,(s.2.2.1,s.2.2.2))),())=_:=Ah3.val s ho;have hcl:(A1R s).length≤3*(A0k s).length:=A3W _ fun i hi=>A2F ho hi;have hel:(A0k s).length≤s.1.length:=A0D s.1 1 s.1.length;have h48:=ho.1.1;obtain⟨w,hw,hw'⟩:=Ev.allP (L:=fun k i=>Ag8.l5 k s.1 s.2.1 s.2.2.1 s.2.2.2 x (i:Int) (A1R s)) (a:=()) (b:=()) (n:=(A1R s).length) (fun i=>sumN (dotE ((A1R s).getD i []) x) ((A1R s).getD i []).length%s.2.1=0) true (fun i hi=>by
     have E:=fun k=>Ag8.l5_eq k s.1 s.2.1 s.2.2.1 s.2.2.2 x (i:Int) (A1R s);obtain⟨l1,l2⟩:=A2G ho (A0z [] hi);have hcx:=hch.1;simp only[if_pos (ltI.2 hi),if_pos (idxI.2 hi),Int.toNat_natCast,Am6.val _ x s.2.1 hp l2 hch.2 (by omega) (by omega),Option.bind_some,A0x (show i<4611686018427387904 by omega)]at E;by_cases h:sumN (dotE ((A1R s).getD i []) x) ((A1R s).getD i []).length%s.2.1=0
     . exact .inl ⟨h,fun k=>by rw[E,if_neg (by simp only[bne_iff_ne,ne_eq,Classical.not_not];exact h)]⟩
     . exact .inr ⟨h,fun k=>by rw[E,if_pos (by simp only[bne_iff_ne,ne_eq];exact h)]⟩) ((Ev.const _).succ fun k=>by rw[Ag8.l5_eq,if_neg (by simp)]) 0 (Nat.zero_le _)
   refine⟨w,hT _ (hw.of_eq fun n=>by rw[Ag8.T,hall];simp only[Option.bind_some,hv];rw[if_neg (by simp),hcd];rfl),hw'.trans ⟨fun⟨_,h⟩=>⟨hch,fun y hy=>?_⟩,fun h=>⟨rfl,fun i _ hi=>h.2 _ (A0z [] hi)⟩⟩⟩;obtain⟨i,hi,rfl⟩:=List.getElem_of_mem hy;have:=h i (Nat.zero_le _) hi
   rwa [A0y hi]at this
theorem A0d (f:Nat->List Int) (i:Nat):(List.range (i+1)).flatMap f=(List.range i).flatMap f++f i:=by
 rw[List.range_succ,List.flatMap_append];simp
theorem A2p {f:Nat->List Int}:∀ n,(∀ i,i<n->(f i).length≤3)->((List.range n).flatMap f).length≤3*n:=by
 intro n;induction n with
 | zero=>intro _;simp
 | succ n ih =>
   intro h;have h1:=ih fun i hi=>h i (by omega);have h2:=h n (by omega);rw[A0d,List.length_append];omega
structure CovAt (s:ShfV) (a b:List (List Int)):Prop where
 s1:A1T s
 ha:CplxOk a
 hb:CplxOk b
 ia:IsIn a s.1
 ib:IsIn b s.1
 cov:∀ t∈s.1,t∈a∨t∈b
theorem covAt {s:ShfV} {a b:List (List Int)} (h:covC s a b=0):CovAt s a b:=by
 obtain⟨⟨h1,h2,h3⟩,h4,h5,h6⟩:=covC_zero.1 h;exact⟨h1,h2,h3,h4,h5,h6⟩
theorem A4c {s:ShfV} {p:List (List Int)} (h:A1T s) (hc:CplxOk p) (hi:IsIn p s.1):rstV s p=rstS s p:=by rw[rstV,if_pos (partC_zero.2 ⟨⟨h,hc⟩,hi⟩),rstS]
theorem Al3.val {s:ShfV} {p:List (List Int)} (hs:SmSh s) (hp:SmL p) (h:A1T s) (hc:CplxOk p) (hi:IsIn p s.1):Al3.F (s,p,())=some ((rstS s p,()),()):=by
 have a1:Ak5.F ((s.1,(s.2.1,(s.2.2.1,s.2.2.2))),p,())=_:=Ak5.val s p hs hp;have T:Al3.F (s,p,())=Al3.T s.1 s.2.1 s.2.2.1 s.2.2.2 p:=Al3.eq _ _ _ _ _;rw[T,Al3.T,a1];simp only[Option.bind_some,A4c h hc hi]
theorem Al1.val {s:ShfV} {p:List (List Int)} (x:List Int) (hs:SmSh s) (hp:SmL p) (h:A1T s) (hc:CplxOk p) (hi:IsIn p s.1) (hx:x.length≤1048576):∃ v,Al1.F (s,p,x,())=some ((v,()),())/\(v=true↔A4y (rstS s p) x):=by
 obtain⟨v,e,e'⟩:=Ag8.val (rstS s p) (A2c h.1 hc hi) x hx;have a1:Al3.F ((s.1,(s.2.1,(s.2.2.1,s.2.2.2))),p,())=_:=Al3.val hs hp h hc hi;have T:Al1.F (s,p,x,())=Al1.T s.1 s.2.1 s.2.2.1 s.2.2.2 p x:=Al1.eq _ _ _ _ _ _;refine⟨v,?_,e'⟩;rw[T,Al1.T,a1];simp only[Option.bind_some];rw[show Ag8.F (rstS s p,x,())=_ from e];rfl
theorem both_ok {a:List (List Int)} {b:List (List Int)} (ha:CplxOk a) (hb:CplxOk b):CplxOk (both a b):=by
 have hso:=A2D b ha.sorted;have hmem:∀ t,t∈both a b↔t∈a/\t∈b:=fun t=>by simp[both]
 have hle:(both a b).length≤a.length:=List.length_filter_le _ _;have hn:=ha.1;refine⟨by omega,fun i hi=>?_⟩;obtain⟨m1,m2⟩:=(hmem _).1 (A0z [] hi);obtain⟨i1,i2⟩:=A0C m1;obtain⟨j1,j2⟩:=A0C m2;have q1:=ha.2 _ i1;have q2:=hb.2 _ j1;rw[i2]at q1;rw[j2]at q2;exact⟨q1.1,fun h0=>hso _ _ (by omega) hi,fun h1 k hk=>(hmem _).2 ⟨q1.2.2 h1 k hk,q2.2.2 h1 k hk⟩⟩
theorem both_in {a b:List (List Int)}:IsIn (both a b) a/\IsIn (both a b) b:=⟨fun t ht=>(by simp[both]at ht;exact ht.1),fun t ht=>(by simp[both]at ht;exact ht.2)⟩
open Classical in
noncomputable def oneC (s:ShfV) (a b:List (List Int)) (z:List Int):Int:=if covC s a b=0 then(if A4y (rstS s (both a b)) z then 0 else 7)else covC s a b
theorem oneC_zero {s:ShfV} {a b:List (List Int)} {z:List Int}:oneC s a b z=0↔covC s a b=0/\A4y (rstS s (both a b)) z:=by
 unfold oneC;split
 . rename_i h;split<;>simp[*]
 . rename_i h;simp[h]
structure OneAt (s:ShfV) (a b:List (List Int)) (z:List Int):Prop extends CovAt s a b where
 hB:CplxOk (both a b)
 iB:IsIn (both a b) s.1
 hz:A1O (rstS s (both a b)) 0 z
theorem A2f {s:ShfV} {a b:List (List Int)} (c:CovAt s a b):CplxOk (both a b)/\IsIn (both a b) s.1:=⟨both_ok c.ha c.hb,fun t ht=>c.ia t (both_in.1 t ht)⟩
theorem oneAt {s:ShfV} {a b:List (List Int)} {z:List Int} (h:oneC s a b z=0):OneAt s a b z:=by
 obtain⟨h1,h2⟩:=oneC_zero.1 h;have c:=covAt h1;exact⟨c,(A2f c).1,(A2f c).2,h2.1⟩
theorem Aj7.val (s:ShfV) (a b:List (List Int)) (z:List Int) (hs:SmSh s) (ha:SmL a) (hb:SmL b) (hz:z.length≤1048576):Aj7.F (s,a,b,z,())=some ((oneC s a b z,()),()):=by
 have a1:Aj8.F ((s.1,(s.2.1,(s.2.2.1,s.2.2.2))),a,b,())=_:=Aj8.val s a b hs ha hb;have T:Aj7.F (s,a,b,z,())=Aj7.T s.1 s.2.1 s.2.2.1 s.2.2.2 a b z:=Aj7.eq _ _ _ _ _ _ _;rw[T,Aj7.T,a1];simp only[Option.bind_some];by_cases h:covC s a b=0
 . have c:=covAt h;obtain⟨hB,iB⟩:=A2f c;have r1:Ag9.F ((s.1,(s.2.1,(s.2.2.1,s.2.2.2))),both a b,())=some ((rstS s (both a b),()),()):=A2b c.s1.1 hB iB;obtain⟨v,e,e'⟩:=Al7.val (rstS s (both a b)) (A2c c.s1.1 hB iB) z hz;rw[if_neg (by simp[h]),Ah8.val a b c.ha.small c.hb.small c.ha.sorted c.hb.sorted,oneC,if_pos h];simp only[Option.bind_some];rw[r1];simp only[Option.bind_some];rw[e];simp only[Option.bind_some];cases v with
   | false=>rw[if_pos (by simp),if_neg fun hh=>absurd (e'.2 hh) (by simp)]
   | true=>rw[if_neg (by simp),if_pos (e'.1 rfl)]
 . rw[if_pos (by simpa using h),oneC,if_neg h]
theorem Al2.val (s:ShfV) (a b:List (List Int)) (z:List Int) (hs:SmSh s) (ha:SmL a) (hb:SmL b) (hz:z.length≤1048576):Al2.F (s,a,b,z,())=some ((oneC s a b z,()),()):=by
 have a1:Al0.F ((s.1,(s.2.1,(s.2.2.1,s.2.2.2))),a,b,())=_:=Al0.val s a b hs ha hb;have T:Al2.F (s,a,b,z,())=Al2.T s.1 s.2.1 s.2.2.1 s.2.2.2 a b z:=Al2.eq _ _ _ _ _ _ _;rw[T,Al2.T,a1];simp only[Option.bind_some];by_cases h:covC s a b=0
 . have c:=covAt h;obtain⟨hB,iB⟩:=A2f c;obtain⟨v,e,e'⟩:=Al1.val z hs hB.small c.s1 hB iB hz;have e:Al1.F ((s.1,(s.2.1,(s.2.2.1,s.2.2.2))),both a b,z,())=_:=e;rw[if_neg (by simp[h]),Ac1.val a b c.ha.small c.hb.small,oneC,if_pos h];simp only[Option.bind_some];rw[e];simp only[Option.bind_some];cases v with
   | false=>rw[if_pos (by simp),if_neg fun hh=>absurd (e'.2 hh) (by simp)]
   | true=>rw[if_neg (by simp),if_pos (e'.1 rfl)]
 . rw[if_pos (by simpa using h),oneC,if_neg h]
theorem A3a {s:ShfV} {p:List (List Int)} (hs:A0v s) (hp:CplxOk p) (hip:IsIn p s.1) {x:List Int} (hx:(x.length:Int)=A0j (rstS s p) 0) {i:Nat} (hi:i<nv s.1) (hm:s.1.getD i []∈p) :
   Ad9.F (s,p,x,(i:Int),())=some ((A0U (rstS s p) x (A0G p (s.1.getD i [])),()),())/\Aa5.F (p,s.1.getD i [],())=some ((((A0G p (s.1.getD i []):Nat):Int),()),()) ∧
     Aj0.F (rstS s p,x,((A0G p (s.1.getD i []):Nat):Int),())=some ((A0U (rstS s p) x (A0G p (s.1.getD i [])),()),())/\(A0U (rstS s p) x (A0G p (s.1.getD i []))).length≤3:=by
 obtain⟨n1,n2,-⟩:=A1x hs.1;obtain⟨i1,i2⟩:=A0C hm;have hd:(p.getD (A0G p (s.1.getD i [])) []).length=1:=by rw[i2];exact(n2 i hi).2
 have hnp:A0G p (s.1.getD i [])<nv p:=(A1x hp).2.2 _ i1 hd;have hself:A0G s.1 (s.1.getD i [])=i:=by
   obtain⟨q1,q2⟩:=A0C (A0z ([]:List Int) (show i<s.1.length by omega));exact A0h hs.1.sorted q1 (by omega) q2
 have ht:=A2c hs hp hip;have hb:=A0V ht (show A0G p (s.1.getD i [])<(rstS s p).1.length from i1);rw[show(((rstS s p).1.getD (A0G p (s.1.getD i [])) []).length:Int)-1=0 by show((p.getD _ []).length:Int)-1=0;rw[hd];rfl,<-hx]at hb;have h32:=A0E ht 0;have hpt:=A2A (rstS s p) x ht _ i1 hb.2 (by omega);have hst:=(A0c ht (k:=A0G p (s.1.getD i [])) i1);refine⟨?_,A1M hp hm,hpt.1,by omega⟩;have:=Ad9.val hs hp hip hx hnp
 rwa [i2,hself]at this
theorem A4A {c:List (List Int)} {d:Int}:∀ N n,n<(A0w c d N).length->∃ h:Nat,h<N/\(A0w c d N).getD n 0=(h:Int)/\((c.getD h []).length:Int)=d+1/\(A0w c d h).length=n:=by
 intro N;induction N with
 | zero=>intro n hn;simp[A0w]at hn
 | succ N ih =>
   intro n hn;rw[A0R]at hn ⊢;split at hn
   . rename_i hd;rw[if_pos hd];rw[List.length_append,List.length_singleton]at hn;by_cases hl:n<(A0w c d N).length
     . obtain⟨h,h1,h2,h3,h4⟩:=ih n hl;refine⟨h,by omega,?_,h3,h4⟩;rw[<-h2];simp only[List.getD_eq_getElem?_getD,List.getElem?_append_left hl]
     . have e:n=(A0w c d N).length:=by omega
       subst e;refine⟨N,by omega,?_,by rwa [beq_iff_eq]at hd,rfl⟩;simp only[List.getD_eq_getElem?_getD,List.getElem?_append_right (Nat.le_refl _),Nat.sub_self];rfl
   . rename_i hd;rw[if_neg hd];obtain⟨h,h1,h2,h3,h4⟩:=ih n hn;exact⟨h,by omega,h2,h3,h4⟩
def A1I (s:ShfV) (d:Int) (n:Nat):Int:=s.2.2.1.getD ((A0w s.1 d s.1.length).getD n 0).toNat 0
theorem A3b (s:ShfV) (d:Int):∀ i,i≤s.1.length->psum s.1 s.2.2.1 d i=sumN (A1I s d) (A0w s.1 d i).length:=by
 intro i;induction i with
 | zero=>intro _;simp[A0w,psum,sumN]
 | succ i ih =>
   intro hi;rw[psum,ih (by omega),A0R];by_cases h:((s.1.getD i []).length:Int)=d+1
   . obtain⟨rest,hr⟩:=A2K (c:=s.1) (d:=d) (h:=i) (n:=s.1.length) (by omega) h;rw[if_pos h,if_pos (by rw[beq_iff_eq];exact h),List.length_append,List.length_singleton,sumN];congr 1;have:(A0w s.1 d s.1.length).getD (A0w s.1 d i).length 0=(i:Int):=by
       rw[hr,List.getD_eq_getElem?_getD,List.getElem?_append_right (Nat.le_refl _),Nat.sub_self];rfl
     rw[A1I,this,Int.toNat_natCast]
   . rw[if_neg h,if_neg (by rw[beq_iff_eq];exact h),Int.add_zero]
theorem A2e {s:ShfV} (h:A0v s) (d:Int):A0j s d=sumN (A1I s d) (A0w s.1 d s.1.length).length:=by
 rw[A1j h,A3b s d _ (Nat.le_refl _)]
theorem A3T {s:ShfV} (ho:A0v s) {d:Int} {n:Nat} (hn:n<(A0w s.1 d s.1.length).length):∃ e:Nat,(A0w s.1 d s.1.length).getD n 0=(e:Int)/\e<s.1.length/\((s.1.getD e []).length:Int)=d+1/\A0O s e=sumN (A1I s d) n/\A1I s d n=s.2.2.1.getD e 0:=by
 obtain⟨e,h1,h2,h3,h4⟩:=A4A _ _ hn;refine⟨e,h2,h1,h3,?_,by rw[A1I,h2,Int.toNat_natCast]⟩;rw[A0O,show((s.1.getD e []).length:Int)-1=d by omega,A3b s d e (by omega),h4]
theorem A3X {f:Nat->List Int} {g:Nat->Int}:∀ n,(∀ i,i<n->((f i).length:Int)=g i)->(((List.range n).flatMap f).length:Int)=sumN g n:=by
 intro n;induction n with
 | zero=>intro _;rfl
 | succ n ih =>
   intro h;have h1:=ih fun i hi=>h i (by omega);have h2:=h n (by omega);rw[List.range_succ,List.flatMap_append,List.length_append,sumN,<-h1,<-h2];simp
theorem A4S (w:List Int) {l h:Int} (h0:0≤l) (h1:l≤h) (h2:h≤w.length):w.drop l.toNat=cutL w l h++w.drop h.toNat:=by
 conv=>lhs;rw[<-List.take_append_drop h.toNat w]
 rw[List.drop_append_of_le_length (by rw[List.length_take];omega)];rfl
theorem Ac7.val (s:ShfV) (ho:A0v s) (k:Int) (hk:-1≤k/\k≤10):Ac7.F (s,k,())=some ((cobM s k,()),()):=by
 have hcl:=ho.1.1;have hp:=ho.2.1.1;obtain⟨c1,c2⟩:=A0E ho k;obtain⟨d1,d2⟩:=A0E ho (k+1);obtain⟨W,hW⟩:∃ W,(A0j s k).toNat=W:=⟨_,rfl⟩;obtain⟨H,hH⟩:∃ H,(A0j s (k+1)).toNat=H:=⟨_,rfl⟩;have eW:A0j s k=(W:Int):=by omega
 have eH:A0j s (k+1)=(H:Int):=by omega
 obtain⟨hs,ehs⟩:∃ hs,A0w s.1 (k+1) s.1.length=hs:=⟨_,rfl⟩;have hsl:hs.length≤48:=by rw[<-ehs];have:=A0D s.1 (k+1) s.1.length;omega
 have hsat:∀ m,m<hs.length->∃ j:Nat,hs.getD m 0=(j:Int)/\j<s.1.length/\((s.1.getD j []).length:Int)=k+2:=fun m hm=>by
   rw[<-ehs]at hm ⊢;obtain⟨j,a,b,c⟩:=A2k hm;exact⟨j,a,b,by omega⟩
 have hT:∀ r,Ev (fun n=>Ac7.T n s.1 s.2.1 s.2.2.1 s.2.2.2 k) r->Ac7.F (s,k,())=some r:=fun r hr=>Ac7.of _ _ _ _ _ hr;have w1:IntKind.i64.wrap (k+1)=k+1:=A0B (by omega) (by omega);have g1:=Ac0.val' s ho (k+1) (by omega);have g2:=Ac0.val' s ho k (by omega);have g3:=Aa3.val s.1 (k+1) (by omega) (by omega);rw[ehs]at g3;have hM:cobM s k=(s.2.1,(H:Int),(W:Int),wr (cobW s k) (List.replicate (H*W) 0)):=by rw[cobM,eH,eW];simp only[Int.toNat_natCast]
 rw[hM];refine hT _ (Ev.of_eq (N:=fun n=>Ac7.l4 n s.1 s.2.1 s.2.2.1 s.2.2.2 k ((0:Nat):Int) 0 0 0 [] s.2.1 (H:Int) (W:Int) (List.replicate (H*W) 0) hs) ?_ fun n=>?_)
 . by_cases hneg:k<0
   . have:cobW s k=[]:=by rw[cobW,if_pos hneg]
     rw[this];refine(Ev.const _).succ fun n=>?_;rw[Ac7.l4_eq];by_cases h0:0<hs.length
     . rw[if_pos (ltI.2 h0),if_neg (by simp only[decide_eq_true_eq];omega)];rfl
     . rw[if_neg (by simp only[decide_eq_true_eq];omega)];rfl
   . have:cobW s k=(List.range hs.length).flatMap fun n=>A2h s W (hs.getD n 0).toNat:=by rw[cobW,if_neg hneg,ehs,hW]
     rw[this];have main:=Goes.writes (R:=((MatV×Unit)×Unit)) (fun n m x=>Ac7.l4 n s.1 s.2.1 s.2.2.1 s.2.2.2 k (m:Int) 0 0 0 [] s.2.1 (H:Int) (W:Int) x hs) hs.length (H*W) (fun n=>A2h s W (hs.getD n 0).toNat) (fun m x hm hx=>by
       obtain⟨h,e1,e2,e3⟩:=hsat m hm;have f4:(fcs s.1 h).length≤4:=by have:=A1y ho.1 e2;simp only[fcs,List.length_map];exact this
       have q2 : Af6.F ((s.1,(s.2.1,(s.2.2.1,s.2.2.2))),(h:Int),())=_:=Af6.val s ho h e2;have E3:=fun n=>Ac7.l4_eq n s.1 s.2.1 s.2.2.1 s.2.2.2 k (m:Int) 0 0 0 [] s.2.1 (H:Int) (W:Int) x hs;simp only[if_pos (ltI.2 hm),if_pos (idxI.2 hm),if_pos (show decide (k≥0)=true by simp only[decide_eq_true_eq];omega),Int.toNat_natCast,e1,Aa1.val s.1 ho.1 h e2,q2,Option.bind_some]at E3;refine(Goes.succ E3).trans ?_;rw[e1,Int.toNat_natCast];refine(Goes.writes (R:=((MatV×Unit)×Unit)) (fun n i x=>Ac7.l9 n s.1 s.2.1 s.2.2.1 s.2.2.2 k (m:Int) (A0O s h) (i:Int) 0 0 0 [] s.2.1 (H:Int) (W:Int) x hs (fcs s.1 h)) (fcs s.1 h).length (H*W) (A2T s W h) (fun i x hi hx=>by
         obtain⟨f,R,C,T,L,B⟩:=blk ho e2 e3 hi;rw[hW,hH]at B;have q1:Aa2.F ((s.1,(s.2.1,(s.2.2.1,s.2.2.2))),(h:Int),(i:Int),())=_:=Aa2.val s ho h i e2 hi;have q3:Af6.F ((s.1,(s.2.1,(s.2.2.1,s.2.2.2))),(f:Int),())=_:=Af6.val s ho f B.flt;rw[B.left]at q3;have E7:=fun n=>Ac7.l9_eq n s.1 s.2.1 s.2.2.1 s.2.2.2 k (m:Int) (A0O s h) (i:Int) 0 0 0 [] s.2.1 (H:Int) (W:Int) x hs (fcs s.1 h);simp only[if_pos (ltI.2 hi),if_pos (idxI.2 hi),if_pos (idxI.2 hm),Int.toNat_natCast,e1,B.at_,q1,q3,Aq3.val i s.2.1 hp,Option.bind_some,B.rows,B.cols,B.prime,B.top]at E7;rw[B.top];refine(Goes.succ E7).trans ?_;have ew:A2T s W h i=(List.range R).flatMap (A1l s W h i):=by rw[A2T,B.rows,Int.toNat_natCast]
         rw[ew];refine(Goes.writes (R:=((MatV×Unit)×Unit)) (fun n a x=>Ac7.l15 n s.1 s.2.1 s.2.2.1 s.2.2.2 k (m:Int) (T:Int) (i:Int) s.2.1 (R:Int) (C:Int) (A0q s h i).2.2.2 (L:Int) (sgn s.2.1 i) (a:Int) 0 0 0 [] s.2.1 (H:Int) (W:Int) x hs (fcs s.1 h)) R (H*W) (A1l s W h i) (fun a x ha hx=>by
           refine(Goes.succ fun n=>by rw[Ac7.l15_eq,if_pos (ltI.2 ha)]).trans ?_;have ew3:A1l s W h i a=(List.range C).flatMap fun b=>[((T+a)*W+L+b,((A0q s h i).2.2.2.getD (a*C+b) 0*sgn s.2.1 i)%s.2.1)]:=by
             rw[A1l,B.cols,B.top,B.fc_,B.left];simp only[Int.toNat_natCast];exact A1J _ _
           rw[ew3];refine(Goes.writes (R:=((MatV×Unit)×Unit)) (fun n b x=>Ac7.l18 n s.1 s.2.1 s.2.2.1 s.2.2.2 k (m:Int) (T:Int) (i:Int) s.2.1 (R:Int) (C:Int) (A0q s h i).2.2.2 (L:Int) (sgn s.2.1 i) (a:Int) (b:Int) 0 0 0 [] s.2.1 (H:Int) (W:Int) x hs (fcs s.1 h)) C (H*W) (fun b=>[((T+a)*W+L+b,((A0q s h i).2.2.2.getD (a*C+b) 0*sgn s.2.1 i)%s.2.1)]) (fun b x hb hx=>Goes.succ fun n=>by
             obtain⟨p1,p2⟩:=A4h B.bT B.bL B.bH B.bW ha hb;have bT:=B.bT;have bL:=B.bL;have bH:=B.bH;have bW:=B.bW;obtain⟨e5,e6⟩:=A0o (show R≤32 by omega) (show C≤32 by omega) ha hb;have hce:=B.cells;have hel:=A1t hp (A0A B.el (show a*C+b<(A0q s h i).2.2.2.length by omega)) (A4m hp i);rw[Ac7.l18_eq,if_pos (ltI.2 hb),e5,if_pos (by omega),if_neg (by omega),p1,if_pos (by omega),A0x (by omega)];simp only[Int.toNat_natCast];rw[A0B (x:=(A0q s h i).2.2.2.getD (a*C+b) 0*sgn s.2.1 i) (by omega) (by omega),A2Q (by omega)];rfl) x hx).trans (Goes.succ fun n=>by
               have bT:=B.bT;have bH:=B.bH;rw[Ac7.l18_eq,if_neg (by simp),A0x (by omega)])) x hx).trans (Goes.succ fun n=>by rw[Ac7.l15_eq,if_neg (by simp),A0x (by omega)])) x hx).trans (Goes.succ fun n=>by rw[Ac7.l9_eq,if_neg (by simp),A0x (by omega)];rfl)) (List.replicate (H*W) 0) (by simp)
     refine main _ ((Ev.const _).succ fun n=>?_);rw[Ac7.l4_eq,if_neg (by simp)]
 . rw[Ac7.T,w1,g1,g2,eH,eW];simp only[Option.bind_some];rw[Ad5.val s.2.1 H W (by omega) (by omega),g3];rfl
theorem Ad9.out {s:ShfV} {p:List (List Int)} (h:A0v s) (hc:CplxOk p) (hi:IsIn p s.1) (x:List Int) {v:Nat} (hv:v<s.1.length) (hm:s.1.getD v []∉p) :
   Ad9.F (s,p,x,(v:Int),())=some ((List.replicate (s.2.2.1.getD v 0).toNat 0,()),()):=by
 have hn:=hc.1;have hl:=h.2.2.1.1;have ht:=A2c h hc hi;obtain⟨n1,n2,-⟩:=A1x hc;have hall:=ht.2.2.1.2.1;have hstl:(rstS s p).2.2.1.length=p.length:=ht.2.2.1.1;have hst:∀ i,i<p.length->(rstS s p).2.2.1.getD i 0=s.2.2.1.getD (A0G s.1 (p.getD i [])) 0:=fun i hi'=>by
   show(A0I s p (vts p)).getD i 0=_;rw[A0n s hc,stIn,A0J _ 0 hi']
 have hidx:∀ i,i<p.length->A0G s.1 (p.getD i [])<s.1.length/\A0G s.1 (p.getD i [])≠v:=fun i hi'=>by
   obtain⟨q1,q2⟩:=A0C (hi _ (A0z [] hi'));refine⟨q1,fun e=>hm ?_⟩;rw[<-e,q2];exact A0z [] hi'
 have hs3:=A0A h.2.2.1.2.1 (show v<s.2.2.1.length by omega);refine Ad9.of s.1 s.2.1 s.2.2.1 s.2.2.2 p x _ ?_;obtain⟨y,hy,hg⟩:=Goes.loop (R:=(List Int×Unit)×Unit) (fun k i (y:Int)=>Ad9.l4 k s.1 s.2.1 s.2.2.1 s.2.2.2 x (v:Int) y (i:Int) (vpl s p)) (nv p) (fun i y=>y=psum p (rstS s p).2.2.1 0 i) (fun i y hi' h2=>⟨_,rfl,Goes.succ fun k=>by
   have b:=A1E (c:=p) (d:=0) hall i (by omega);have g:=A0A hall (show i<(rstS s p).2.2.1.length by omega);have hl1:=(n2 i hi').2;obtain⟨hii,hne⟩:=hidx i (by omega);have hst':=hst i (by omega);rw[Ad9.l4_eq,if_pos (ltI.2 (by rw[A0W];omega)),if_pos (idxI.2 (by rw[A0W];omega))];simp only[Int.toNat_natCast];rw[A3y s p hi',if_neg (by rw[beq_iff_eq];omega),if_pos (idxI.2 (by rw[A0W];omega)),if_pos (idxI.2 (by omega))];simp only[Int.toNat_natCast,psum];rw[A0x (by omega),h2,<-hst',A0B (by omega) (by omega),if_pos (by omega)]⟩) 0 0 (Nat.zero_le _) rfl
 refine Ev.of_eq (hg _ ((Ev.const _).succ fun k=>?_)) fun k=>by rw[Ad9.T];have e:=Ah4.val h hc hi;have e:Ah4.F ((s.1,(s.2.1,(s.2.2.1,s.2.2.2))),p,())=_:=e;rw[e];rfl
 rw[Ad9.l4_eq,if_neg (by rw[A0W];simp),if_pos (idxI.2 (by omega))];simp only[Int.toNat_natCast];rw[if_pos (by simp only[bigN];omega)]
noncomputable def A1W (s:ShfV) (p:List (List Int)) (z:List Int) (i:Nat):List Int:=if s.1.getD i []∈p then A0U (rstS s p) z (A0G p (s.1.getD i []))else List.replicate (s.2.2.1.getD i 0).toNat 0
noncomputable def conX (s:ShfV) (p:List (List Int)) (z:List Int):List Int:=(List.range (nv s.1)).flatMap (A1W s p z)
theorem A1K {s:ShfV} {p:List (List Int)} (h:A0v s) (hc:CplxOk p) (hi:IsIn p s.1) {z:List Int} (hz:A1O (rstS s p) 0 z) {i:Nat} (hv:i<nv s.1):((A1W s p z i).length:Int)=A1I s 0 i/\(A1W s p z i).length≤3/\A0Q 0 (s.2.1-1) (A1W s p z i):=by
 obtain⟨n1,n2,-⟩:=A1x h.1;have hp:=h.2.1.1;have est:A1I s 0 i=s.2.2.1.getD i 0:=by rw[A1I,(n2 i hv).1,Int.toNat_natCast]
 have st:=A0c h (show i<s.1.length by omega);unfold A1W;split
 . rename_i hm;obtain⟨i1,i2⟩:=A0C hm;have ht:=A2c h hc hi;have hb:=A0V ht (show A0G p (s.1.getD i [])<(rstS s p).1.length from i1);rw[show(((rstS s p).1.getD (A0G p (s.1.getD i [])) []).length:Int)-1=0 by show((p.getD _ []).length:Int)-1=0;rw[i2,(n2 i hv).2];rfl,<-hz.1]at hb;have h32:=A0E ht 0;have hzl:=hz.1;have hpt:=(A2A (rstS s p) z ht _ i1 hb.2 (by omega)).2;have hself:A0G s.1 (s.1.getD i [])=i:=by
     obtain⟨q1,q2⟩:=A0C (A0z ([]:List Int) (show i<s.1.length by omega));exact A0h h.1.sorted q1 (by omega) q2
   have hst:(rstS s p).2.2.1.getD (A0G p (s.1.getD i [])) 0=s.2.2.1.getD i 0:=by
     show(A0I s p (vts p)).getD _ 0=_;rw[A0n s hc,stIn,A0J _ 0 i1,i2,hself]
   refine⟨by rw[hpt,hst,est],by omega,?_⟩;rw[A0U,cutL];exact fun q hq=>hz.2 q (List.mem_of_mem_take (List.mem_of_mem_drop hq))
 . refine⟨by rw[List.length_replicate,est];omega,by rw[List.length_replicate];omega,fun q hq=>?_⟩;rw[(List.mem_replicate.1 hq).2];omega
theorem A4j {s:ShfV} {p:List (List Int)} (h:A0v s) (hc:CplxOk p) (hi:IsIn p s.1) {z:List Int} (hz:A1O (rstS s p) 0 z):A1O s 0 (conX s p z):=by
 refine⟨?_,fun q hq=>?_⟩
 . rw[A2e h];exact A3X _ fun i hv=>(A1K h hc hi hz hv).1
 . unfold conX at hq;obtain⟨i,hv,hq⟩:=List.mem_flatMap.1 hq;exact(A1K h hc hi hz (List.mem_range.1 hv)).2.2 q hq
noncomputable def conW (s:ShfV) (a b:List (List Int)) (z:List Int):List Int:=A1q (cobM s 0) (conX s (both a b) z)
noncomputable def A1v (s:ShfV) (a:List (List Int)) (w:List Int) (n:Nat):List Int:=if s.1.getD ((A0k s).getD n 0).toNat []∈a then A0U s w ((A0k s).getD n 0).toNat else List.replicate (A1I s 1 n).toNat 0
noncomputable def outL (s:ShfV) (a:List (List Int)) (w:List Int):List Int:=(List.range (A0k s).length).flatMap (A1v s a w)
theorem A2i {s:ShfV} (h:A0v s) (a b:List (List Int)) (z:List Int):((conW s a b z).length:Int)=A0j s 1:=by
 rw[conW,A1U];have:=A0E h (0+1);show(((A0j s (0+1)).toNat:Nat):Int)=_;rw[Int.toNat_of_nonneg this.1];rfl
theorem A1c {s:ShfV} (h:A0v s) (a:List (List Int)) {w:List Int} (hw:(w.length:Int)=A0j s 1) {n:Nat} (hn:n<(A0k s).length):((A1v s a w n).length:Int)=A1I s 1 n/\(A1v s a w n).length≤3:=by
 obtain⟨e,h1,h2,h3,h4,h5⟩:=A3T h hn;have st:=A0c h h2;have hb:=A0V h h2;rw[show((s.1.getD e []).length:Int)-1=1 by omega,<-hw]at hb;have:=A0E h 1;have hpt:=(A2A s w h e h2 hb.2 (by omega)).2;unfold A1v A0k;rw[h1,h5,Int.toNat_natCast];split
 . exact⟨hpt,by omega⟩
 . rw[List.length_replicate];omega
theorem Ap6.val (m:MatV) (l:Int) (h0:0≤l) (h1:l≤1048576) (hx:m.2.2.2.length≤maxLen):∃ r,Ap6.F (m,l,())=some ((r,()),())/\(r=-1∨0≤r/\r≤l/\SmM m):=by
 obtain⟨a,b,c,xs⟩:=m;obtain⟨r,h2,h3⟩:=Ae8.val xs l h0 h1 hx;rw[Ap6.eq,Ap6.T,h2];simp only[Option.bind_some];rcases h3 with rfl|⟨a,b,c⟩
 . exact⟨-1,by rw[if_pos (by simp)],.inl rfl⟩
 . exact⟨r,by rw[if_neg (by simp;omega)],.inr ⟨a,b,c⟩⟩
theorem Ai2.val (xs:List MatV) (l:Int) (h0:0≤l) (h1:l≤1048576) (hx:xs.length≤maxLen) (hr:∀ x∈xs,x.2.2.2.length≤maxLen):∃ r,Ai2.F (xs,l,())=some ((r,()),())/\(r=-1∨0≤r/\r≤l/\SmMs xs):=by
 have:xs.length≤9223372036854775807:=hx;by_cases h:l<xs.length
 . exact⟨-1,Ai2.of _ _ ((Ev.const _).of_eq fun k=>by rw[Ai2.T,A0B (by omega) (by omega),if_pos (by simp;omega)]),.inl rfl⟩
 obtain⟨r,hv,h2⟩:=A4L (fun k i s=>Ai2.l5 k xs s (i:Int)) xs (0,0,0,[]) SmM (fun i s hi s0 s1=>by
   have E:=fun k=>Ai2.l5_eq k xs s (i:Int);obtain⟨r,hr1,hr2⟩:=Ap6.val (xs.getD i (0,0,0,[])) s s0 s1 (hr _ (A0z _ hi));simp only[if_pos (ltI.2 hi),if_pos (idxI.2 hi),Int.toNat_natCast,hr1,Option.bind_some,A0x (show i<4611686018427387904 by omega)]at E;rcases hr2 with rfl|⟨a,b,c⟩
   . exact .inr fun k=>by rw[E,if_pos (by simp)]
   . exact .inl ⟨r,a,b,c,fun k=>by rw[E,if_neg (by simp;omega)]⟩) (fun k l=>by rw[Ai2.l5_eq,if_neg (by simp)]) (l-xs.length) (by omega) (by omega)
 refine⟨r,Ai2.of _ _ (hv.of_eq fun k=>by rw[Ai2.T,A0B (by omega) (by omega),if_neg (by simp;omega)];rfl),?_⟩;rcases h2 with h2|⟨a,b,c⟩
 . exact .inl h2
 . exact .inr ⟨a,by omega,by omega,c⟩
theorem Ap7.val (m:MatV) (h:SmM m):Ap7.F (m,())=some ((m,()),()):=by
 obtain⟨a,b,c,xs⟩:=m;have hs:xs.length≤1048576:=h;rw[Ap7.eq,Ap7.T,Ab6.val xs (by omega)];rfl
theorem Ak2.val (xs:List MatV) (h:SmMs xs):Ak2.F (xs,())=some ((xs,()),()):=by
 have hl:=h.1;refine Ak2.of xs ?_;have:=Goes.fill (L:=fun k i ys=>Ak2.l3 k xs (i:Int) ys) xs (0,0,0,[]) (fun k i ys hi hy=>by
   rw[Ak2.l3_eq,if_pos (ltI.2 hi),if_pos (idxI.2 hi)];simp only[Int.toNat_natCast,Ap7.val _ (h.2 _ (A0z (0,0,0,[]) hi)),Option.bind_some];rw[if_pos (by omega),A0x (by omega)]) (List.replicate xs.length (0,0,0,[])) (by simp)
 refine Ev.of_eq (this _ ((Ev.const _).succ fun k=>?_)) fun k=>?_
 . rw[Ak2.l3_eq,if_neg (by simp)]
 . rw[Ak2.T,if_pos (by simp only[bigN];omega)];rfl
theorem Ap3.same (m n:MatV) (h:SmM m):∃ b,Ap3.F (m,n,())=some ((b,()),())/\(b=true↔m=n):=by
 obtain⟨a,b,c,xs⟩:=m;obtain⟨a',b',c',ys⟩:=n;have hs:xs.length≤1048576:=h;obtain⟨e,he,he'⟩:=Aa6.val xs ys (by omega);rw[Ap3.eq,Ap3.T,he];simp only[Option.bind_some,Prod.mk.injEq];by_cases h1:a=a'
 . by_cases h2:b=b'
   . by_cases h3:c=c'
     . rw[if_neg (by simp[h1]),if_neg (by simp[h2]),if_neg (by simp[h3])];exact⟨e,by cases e<;>rfl,by simp[h1,h2,h3,he']⟩
     . exact⟨false,by rw[if_neg (by simp[h1]),if_neg (by simp[h2]),if_pos (by simp[h3])],by simp[h3]⟩
   . exact⟨false,by rw[if_neg (by simp[h1]),if_pos (by simp[h2])],by simp[h2]⟩
 . exact⟨false,by rw[if_pos (by simp[h1])],by simp[h1]⟩
theorem Ai0.same (xs ys:List MatV) (h:SmMs xs):∃ b,Ai0.F (xs,ys,())=some ((b,()),())/\(b=true↔xs=ys):=by
 have hn:=h.1;by_cases hl:xs.length=ys.length
 . obtain⟨b,hb,hb'⟩:=A1z (fun k i=>Ai0.l4 k xs ys (i:Int)) xs ys (0,0,0,[]) hl (fun i hi=>by
     obtain⟨c,hc,hc'⟩:=Ap3.same (xs.getD i (0,0,0,[])) (ys.getD i (0,0,0,[])) (h.2 _ (A0z _ hi));exact⟨c,hc',fun k=>by rw[Ai0.l4_eq,if_pos (ltI.2 hi),if_pos (idxI.2 hi),if_pos (idx2 (hl▸hi))];simp only[Int.toNat_natCast,hc,Option.bind_some];rw[A0x (by omega)]⟩) (fun k=>by rw[Ai0.l4_eq,if_neg (by simp)])
   exact⟨b,Ai0.of _ _ (hb.of_eq fun k=>by rw[Ai0.T,if_neg (by simp[hl])];rfl),hb'⟩
 . exact⟨false,Ai0.of _ _ ((Ev.const _).of_eq fun k=>by rw[Ai0.T,if_pos (by simp;omega)]),by simp;intro e;exact hl (by rw[e])⟩
theorem shf_wf {s:ShfV} (h:wfT (.pair (.sl (.sl (.int .i64))) (.pair (.int .i64) (.pair (.sl (.int .i64)) (.sl (.pair (.int .i64) (.pair (.int .i64) (.pair (.int .i64) (.sl (.int .i64))))))))) s):s.1.length≤maxLen/\(∀ x∈s.1,x.length≤maxLen)/\s.2.2.1.length≤maxLen/\s.2.2.2.length≤maxLen/\∀ x∈s.2.2.2,x.2.2.2.length≤maxLen:=by
 obtain⟨a,p,b,c⟩:=s;obtain⟨⟨h1,h2⟩,_,⟨h3,_⟩,h4,h5⟩:=h;exact⟨h1,fun x hx=>(h2 x hx).1,h3,h4,fun x hx=>(h5 x hx).2.2.2.1⟩
theorem An2.val (s:ShfV) (l:Int) (h0:0≤l) (h1:l≤1048576) (w1:s.1.length≤maxLen) (w2:∀ x∈s.1,x.length≤maxLen) (w3:s.2.2.1.length≤maxLen) (w4:s.2.2.2.length≤maxLen) (w5:∀ x∈s.2.2.2,x.2.2.2.length≤maxLen):∃ r,An2.F (s,l,())=some ((r,()),())/\(r=-1∨0≤r/\r≤l/\SmSh s):=by
 obtain⟨a,p,b,c⟩:=s;obtain⟨r1,e1,k1⟩:=Ag3.val a l h0 h1 w1 w2;rw[An2.eq,An2.T,e1];simp only[Option.bind_some];rcases k1 with rfl|⟨a1,b1,c1⟩
 . exact⟨-1,by rw[if_pos (by simp)],.inl rfl⟩
 rw[if_neg (by simp;omega)];obtain⟨r2,e2,k2⟩:=Ae8.val b r1 a1 (by omega) w3;rw[e2];simp only[Option.bind_some];rcases k2 with rfl|⟨a2,b2,c2⟩
 . exact⟨-1,by rw[if_pos (by simp)],.inl rfl⟩
 rw[if_neg (by simp;omega)];obtain⟨r3,e3,k3⟩:=Ai2.val c r2 a2 (by omega) w4 w5;rw[e3];simp only[Option.bind_some];rcases k3 with rfl|⟨a3,b3,c3⟩
 . exact⟨-1,by rw[if_pos (by simp)],.inl rfl⟩
 exact⟨r3,by rw[if_neg (by simp;omega)],.inr ⟨a3,by omega,c1,c2,c3⟩⟩
theorem Aj4.val (s:ShfV) (h:SmSh s):Aj4.F (s,())=some ((s,()),()):=by
 obtain⟨a,p,b,c⟩:=s;obtain⟨h1,h2,h3⟩:=h;have h2':b.length≤1048576:=h2;rw[Aj4.eq,Aj4.T,Ad8.val a h1,Ab6.val b (by omega),Ak2.val c h3];rfl
theorem Ap4.same (s t:ShfV) (h:SmSh s):∃ b,Ap4.F (s,t,())=some ((b,()),())/\(b=true↔s=t):=by
 obtain⟨a,p,b,c⟩:=s;obtain⟨a',p',b',c'⟩:=t;obtain⟨h1,h2,h3⟩:=h;have h2':b.length≤1048576:=h2;obtain⟨v1,e1,k1⟩:=Ag1.same a a' h1;obtain⟨v2,e2,k2⟩:=Aa6.val b b' (by omega);obtain⟨v3,e3,k3⟩:=Ai0.same c c' h3;rw[Ap4.eq,Ap4.T,e1,e2,e3];simp only[Option.bind_some,Prod.mk.injEq];by_cases hp:p=p'
 . rw[show(p !=p')=false by simp[hp]];refine⟨v1&&v2&&v3,by cases v1<;>cases v2<;>cases v3<;>rfl,?_⟩;simp only[Bool.and_eq_true,k1,k2,k3,hp,true_and,and_assoc]
 . rw[show(p !=p')=true by simp[hp]];exact⟨false,by cases v1<;>rfl,by simp[hp]⟩
def A2U (ys:List Int) (k:Int):Prop:=∀ j,j<ys.length->ys.getD j 0=k+j
theorem Aa9.val (xs:List Int) (k0:Int) (h0:0≤k0) (h1:k0+xs.length≤4611686018427387904):∃ ys,Aa9.F (xs,k0,())=some ((k0+xs.length,()),(ys,()))/\ys.length=xs.length/\A2U ys k0:=by
 obtain⟨⟨v,ys⟩,⟨hv,hl,hm⟩,hg⟩:=Goes.loop (R:=(Int×Unit)×(List Int×Unit)) (fun k i (s:Int×List Int)=>Aa9.l2 k s.1 (i:Int) s.2) xs.length (fun i s=>s.1=k0+i/\s.2.length=xs.length/\∀ j,j<i->s.2.getD j 0=k0+j)
   (fun i s hi ⟨h2,h3,h4⟩=>⟨(s.1+1,s.2.set i s.1),⟨by simp only[];omega,by simp[h3],fun j hj=>by
     simp only[List.getD_eq_getElem?_getD,List.getElem?_set];by_cases hij:i=j
     . subst hij;simp[h3,hi,h2]
     . have:=h4 j (by omega);simp only[List.getD_eq_getElem?_getD]at this;simp[hij,this]⟩,Goes.succ fun k=>by
     rw[Aa9.l2_eq,if_pos (by simp;omega),if_pos (by omega),A0B (by omega) (by omega),A0x (by omega)];simp only[Int.toNat_natCast]⟩) 0 (k0,xs) (Nat.zero_le _) ⟨by simp,rfl,fun j hj=>by omega⟩
 simp only[]at hv hl hm;refine⟨ys,Aa9.of _ _ ((hg _ ((Ev.const _).succ fun k=>?_)).of_eq fun k=>rfl),hl,fun j hj=>hm j (by omega)⟩;rw[Aa9.l2_eq,if_neg (by simp;omega),hv]
theorem Aj3.val (ys:List Int) (k0:Int) (h0:0≤k0) (h1:k0+ys.length≤4611686018427387904) (hm:A2U ys k0):Aj3.F (ys,k0,())=some ((k0+ys.length,()),()):=by
 obtain⟨v,hv,hg⟩:=Goes.loop (R:=(Int×Unit)×Unit) (fun k i (s:Int)=>Aj3.l2 k ys s (i:Int)) ys.length (fun i s=>s=k0+i)
   (fun i s hi h2=>⟨s+1,by omega,Goes.succ fun k=>by
     rw[Aj3.l2_eq,if_pos (ltI.2 hi),if_pos (idxI.2 hi),if_neg (by simp only[Int.toNat_natCast];rw[hm i hi,h2];simp),A0B (by omega) (by omega),A0x (by omega)]⟩) 0 k0 (Nat.zero_le _) (by simp)
 refine Aj3.of _ _ ((hg _ ((Ev.const _).succ fun k=>?_)).of_eq fun k=>rfl);rw[Aj3.l2_eq,if_neg (by simp),hv]
theorem A3l (xs:List Int) (h1:xs.length≤4611686018427387903):∃ ys v,Aa9.F (xs,1,())=some ((v,()),(ys,()))/\Aj3.F (ys,1,())=some ((v,()),())/\0≤v:=by
 obtain⟨ys,h2,h3,h4⟩:=Aa9.val xs 1 (by omega) (by omega);exact⟨ys,_,h2,by rw[Aj3.val ys 1 (by omega) (by omega) h4,h3],by omega⟩
def mkI (n:Nat) (k:Int):List Int:=(List.range n).map fun(j:Nat)=>k+(j:Int)
theorem A3m (n:Nat) (k:Int):(mkI n k).length=n:=by simp[mkI]
theorem A3n (n:Nat) (k:Int):A2U (mkI n k) k:=fun j hj=>by
 rw[A3m]at hj;simp[mkI,List.getD_eq_getElem?_getD,hj]
theorem mkI_of {ys:List Int} {k:Int} (h:A2U ys k):ys=mkI ys.length k:=by
 refine List.ext_getElem (by simp[mkI]) fun i h1 h2=>?_;rw[<-A0y (d:=0) h1,<-A0y (d:=0) h2,h i h1,A3n _ _ i h2]
def mkM (m:MatV) (k:Int):MatV:=(k,k+1,k+1+1,mkI m.2.2.2.length (k+1+1+1))
def szM (m:MatV):Nat:=3+m.2.2.2.length
def offM (ms:List MatV) (i:Nat):Nat:=((ms.take i).map szM).sum
theorem A1a {ms:List MatV} {i:Nat} (h:i<ms.length):offM ms (i+1)=offM ms i+szM (ms.getD i (0,0,0,[])):=by
 unfold offM;rw[List.take_add_one,List.getElem?_eq_getElem h,Option.toList_some,List.map_append,List.sum_append,A0y h];simp
theorem offM_le {ms:List MatV} {i j:Nat} (h:i≤j):offM ms i≤offM ms j:=by
 induction h with
 | refl=>exact Nat.le_refl _
 | @step m _ ih =>
   by_cases hm:m<ms.length
   . rw[Nat.succ_eq_add_one,A1a hm];omega
   . have:offM ms (m+1)=offM ms m:=by unfold offM;rw[List.take_of_length_le (by omega),List.take_of_length_le (by omega)]
     rw[Nat.succ_eq_add_one,this];exact ih
theorem offM_bd {ms:List MatV} (h:SmMs ms):offM ms ms.length≤1048579*1048576:=by
 have key:∀ i,i≤ms.length->offM ms i≤1048579*i:=by
   intro i;induction i with
   | zero=>intro _;simp[offM]
   | succ i ih =>
     intro hi;have h1:=ih (by omega);have h2:(ms.getD i (0,0,0,[])).2.2.2.length≤1048576:=h.2 _ (A0z _ (by omega));rw[A1a (by omega),szM];omega
 have:=key ms.length (Nat.le_refl _);have:=h.1;omega
theorem A4d {α:Type} (l:List α) (i:Nat) (x y:α):(l.set i x).set i y=l.set i y:=by rw[List.set_set]
theorem A1Y {α:Type} (l:List α) (i:Nat) (x d:α) (h:i<l.length):(l.set i x).getD i d=x:=by simp[List.getD_eq_getElem?_getD,h]
theorem Am0.val (ms:List MatV) (k0:Int) (h0:0≤k0) (hx:ms.length<4611686018427387904) (h1:k0+offM ms ms.length≤4611686018427387904) :
   ∃ ys,Am0.F (ms,k0,())=some ((k0+offM ms ms.length,()),(ys,()))/\ys.length=ms.length/\∀ j,j<ms.length->ys.getD j (0,0,0,[])=mkM (ms.getD j (0,0,0,[])) (k0+offM ms j):=by
 obtain⟨⟨v,ys⟩,⟨hv,hl,hm,-⟩,hg⟩:=Goes.loop (R:=(Int×Unit)×(List MatV×Unit)) (fun k i (s:Int×List MatV)=>Am0.l2 k s.1 (i:Int) s.2) ms.length
   (fun i s=>s.1=k0+offM ms i/\s.2.length=ms.length/\(∀ j,j<i->s.2.getD j (0,0,0,[])=mkM (ms.getD j (0,0,0,[])) (k0+offM ms j))/\∀ j,i≤j->s.2.getD j (0,0,0,[])=ms.getD j (0,0,0,[]))
   (fun i s hi ⟨h2,h3,h4,h5⟩=>by
     have hle:=offM_le (ms:=ms) (show i+1≤ms.length by omega);rw[A1a hi,szM]at hle;obtain⟨m,hm⟩:∃ m,ms.getD i (0,0,0,[])=m:=⟨_,rfl⟩;rw[hm]at hle;obtain⟨ys,e1,e2,e3⟩:=Aa9.val m.2.2.2 (s.1+1+1+1) (by omega) (by omega);have e4:ys=mkI m.2.2.2.length (s.1+1+1+1):=by rw[<-e2];exact mkI_of e3
     have w1:IntKind.i64.wrap (s.1+1)=s.1+1:=A0B (by omega) (by omega);have w2:IntKind.i64.wrap (s.1+1+1)=s.1+1+1:=A0B (by omega) (by omega);have w3:IntKind.i64.wrap (s.1+1+1+1)=s.1+1+1+1:=A0B (by omega) (by omega);have hsi:s.2.getD i (0,0,0,[])=m:=by rw[h5 i (Nat.le_refl _),hm]
     have hil:i<s.2.length:=by omega
     refine⟨(s.1+1+1+1+m.2.2.2.length,s.2.set i (mkM m s.1)),⟨by simp only[];rw[A1a hi,hm,szM];omega,by simp[h3],fun j hj=>?_,fun j hj=>?_⟩,Goes.succ fun k=>?_⟩
     . by_cases hij:i=j
       . subst hij;simp only[];rw[A1Y _ _ _ _ hil,hm,h2]
       . have:=h4 j (by omega);simp only[List.getD_eq_getElem?_getD,List.getElem?_set]at this ⊢;rw[if_neg hij];exact this
     . have:=h5 j (by omega);simp only[List.getD_eq_getElem?_getD,List.getElem?_set]at this ⊢;rw[if_neg (by omega)];exact this
     . rw[Am0.l2_eq,if_pos (by simp;omega),if_pos (by omega)];simp only[Int.toNat_natCast,hsi,A4d,A1Y _ _ _ _ hil,List.length_set,w1,w2,w3];rw[if_pos (by omega),if_pos (by omega),if_pos (by omega),e1];simp only[Option.bind_some];rw[A0x (by omega),e4];rfl) 0 (k0,ms) (Nat.zero_le _) ⟨by simp[offM],rfl,fun j hj=>by omega,fun _ _=>rfl⟩
 simp only[]at hv hl hm;refine⟨ys,Am0.of _ _ ((hg _ ((Ev.const _).succ fun k=>?_)).of_eq fun k=>rfl),hl,hm⟩;rw[Am0.l2_eq,if_neg (by simp;omega),hv]
def offs (xs:List (List Int)) (i:Nat):Nat:=((xs.take i).map List.length).sum
theorem A1b {xs:List (List Int)} {i:Nat} (h:i<xs.length):offs xs (i+1)=offs xs i+(xs.getD i []).length:=by
 unfold offs;rw[List.take_add_one,List.getElem?_eq_getElem h,Option.toList_some,List.map_append,List.sum_append,A0y h];simp
theorem offs_le {xs:List (List Int)} {i j:Nat} (h:i≤j):offs xs i≤offs xs j:=by
 induction h with
 | refl=>exact Nat.le_refl _
 | @step m _ ih =>
   by_cases hm:m<xs.length
   . rw[Nat.succ_eq_add_one,A1b hm];omega
   . have:offs xs (m+1)=offs xs m:=by unfold offs;rw[List.take_of_length_le (by omega),List.take_of_length_le (by omega)]
     rw[Nat.succ_eq_add_one,this];exact ih
theorem Al9.val (xs:List (List Int)) (k0:Int) (h0:0≤k0) (hx:xs.length<4611686018427387904) (h1:k0+offs xs xs.length≤4611686018427387904) :
   ∃ ys,Al9.F (xs,k0,())=some ((k0+offs xs xs.length,()),(ys,()))/\ys.length=xs.length/\∀ j,j<xs.length->(ys.getD j []).length=(xs.getD j []).length/\A2U (ys.getD j []) (k0+offs xs j):=by
 obtain⟨⟨v,ys⟩,⟨hv,hl,hm,-⟩,hg⟩:=Goes.loop (R:=(Int×Unit)×(List (List Int)×Unit)) (fun k i (s:Int×List (List Int))=>Al9.l2 k s.1 (i:Int) s.2) xs.length
   (fun i s=>s.1=k0+offs xs i/\s.2.length=xs.length/\(∀ j,j<i->(s.2.getD j []).length=(xs.getD j []).length/\A2U (s.2.getD j []) (k0+offs xs j))/\∀ j,i≤j->s.2.getD j []=xs.getD j [])
   (fun i s hi ⟨h2,h3,h4,h5⟩=>by
     have hle:=offs_le (xs:=xs) (show i+1≤xs.length by omega);rw[A1b hi]at hle;obtain⟨ys,e1,e2,e3⟩:=Aa9.val (s.2.getD i []) s.1 (by omega) (by rw[h5 i (Nat.le_refl _),h2];omega);rw[h5 i (Nat.le_refl _)]at e1 e2;refine⟨(s.1+(xs.getD i []).length,s.2.set i ys),⟨by simp only[];rw[A1b hi];omega,by simp[h3],fun j hj=>?_,fun j hj=>?_⟩,Goes.succ fun k=>?_⟩
     . simp only[List.getD_eq_getElem?_getD,List.getElem?_set];by_cases hij:i=j
       . subst hij;simp only[h3,hi,if_true,Option.getD_some];exact⟨by rw[e2,List.getD_eq_getElem?_getD],by rw[<-h2];exact e3⟩
       . have:=h4 j (by omega);simp only[List.getD_eq_getElem?_getD]at this;simpa[hij]using this
     . have:=h5 j (by omega);simp only[List.getD_eq_getElem?_getD,List.getElem?_set]at this ⊢;rw[if_neg (by omega)];exact this
     . rw[Al9.l2_eq,if_pos (by simp;omega),if_pos (by omega)];simp only[Int.toNat_natCast,h5 i (Nat.le_refl _),e1,Option.bind_some];rw[A0x (by omega)]) 0 (k0,xs) (Nat.zero_le _) ⟨by simp[offs],rfl,fun j hj=>by omega,fun _ _=>rfl⟩
 simp only[]at hv hl hm;refine⟨ys,Al9.of _ _ ((hg _ ((Ev.const _).succ fun k=>?_)).of_eq fun k=>rfl),hl,hm⟩;rw[Al9.l2_eq,if_neg (by simp;omega),hv]
theorem offs_bd {xs:List (List Int)} (h:SmL xs):offs xs xs.length≤1048576*1048576:=by
 have key:∀ i,i≤xs.length->offs xs i≤1048576*i:=by
   intro i;induction i with
   | zero=>intro _;simp[offs]
   | succ i ih =>
     intro hi;have h1:=ih (by omega);have h2:(xs.getD i []).length≤1048576:=h.2 _ (A0z _ (by omega));rw[A1b (by omega)];omega
 have:=key xs.length (Nat.le_refl _);have:=h.1;omega
theorem Ag2.some (c:List (List Int)) (k0:Int) (h:SmL c) (h0:0≤k0) (h1:k0≤1152921504606846976):∃ v ys,Ag2.F (c,k0,())=some ((v,()),(ys,()))/\k0≤v/\v≤k0+1099511627776:=by
 have b:=offs_bd h;have hl:=h.1;obtain⟨ys,e,_⟩:=Al9.val c k0 h0 (by omega) (by omega);rw[Ag2.eq,Ag2.T,e];exact⟨k0+((offs c c.length:Nat):Int),_,rfl,by omega,by omega⟩
theorem Ap5.some (s:ShfV) (k0:Int) (h:SmSh s) (h0:0≤k0) (h1:k0≤576460752303423488):∃ v ys,Ap5.F (s,k0,())=some ((v,()),(ys,()))/\k0≤v/\v≤k0+8796093022208:=by
 obtain⟨c,p,st,ms⟩:=s;obtain⟨hc,hst,hms⟩:=h;have hst:st.length≤1048576:=hst;have hml:=hms.1;have b:=offM_bd hms;obtain⟨v1,y1,e1,a1,b1⟩:=Ag2.some c k0 hc h0 (by omega);obtain⟨y2,e2,_⟩:=Aa9.val st v1 (by omega) (by omega);obtain⟨y3,e3,_⟩:=Am0.val ms (v1+st.length) (by omega) (by have:ms.length≤1048576:=hml;omega) (by have:offM ms ms.length≤1048579*1048576:=b;omega);rw[Ap5.eq,Ap5.T,e1];simp only[Option.bind_some,e2,e3];have:offM ms ms.length≤1048579*1048576:=b;exact⟨_,_,rfl,by omega,by omega⟩
theorem Aa9.some (xs:List Int) (k0:Int) (h:xs.length≤1048576) (h0:0≤k0) (h1:k0≤1152921504606846976):∃ v ys,Aa9.F (xs,k0,())=some ((v,()),(ys,()))/\k0≤v/\v≤k0+1048576:=by
 obtain⟨ys,e,_⟩:=Aa9.val xs k0 h0 (by omega);exact⟨_,_,e,by omega,by omega⟩
theorem A4i {s:List (List Int)} (h:wfT (.sl (.sl (.int .i64))) s):s.length≤maxLen/\∀ x∈s,x.length≤maxLen:=⟨h.1,fun x hx=>(h.2 x hx).1⟩
noncomputable def conV (s:ShfV) (a b:List (List Int)) (z:List Int):List Int:=if oneC s a b z=0 then outL s a (conW s a b z)else[]
theorem conX_go {s:ShfV} {a b:List (List Int)} {z:List Int} (c:OneAt s a b z) (x13:List (List Int)) (hx:x13.length=nv s.1) (hxg:∀ i,i<nv s.1->x13.getD i []=s.1.getD i []) :
   Goes (R:=(List Int×Int×Unit)×Unit) (fun k=>Ad6.l8 k z x13 (x13.length:Int) 0 s.1 s.2.1 s.2.2.1 s.2.2.2 a (both a b) (rstS s (both a b)).1 (rstS s (both a b)).2.1 (rstS s (both a b)).2.2.1 (rstS s (both a b)).2.2.2 []) (fun k=>Ad6.l8 k z x13 (x13.length:Int) (nv s.1:Int) s.1 s.2.1 s.2.2.1 s.2.2.2 a (both a b) (rstS s (both a b)).1 (rstS s (both a b)).2.1 (rstS s (both a b)).2.2.1 (rstS s (both a b)).2.2.2 (conX s (both a b) z)):=by
 have hn:=c.s1.1.1.1;obtain⟨n1,n2,-⟩:=A1x c.s1.1.1;have hl:=c.s1.1.2.2.1.1;obtain⟨y,hy,hgo⟩:=Goes.loop (R:=((List Int×Int×Unit)×Unit)) (fun k i (y:List Int)=>Ad6.l8 k z x13 (x13.length:Int) (i:Int) s.1 s.2.1 s.2.2.1 s.2.2.2 a (both a b) (rstS s (both a b)).1 (rstS s (both a b)).2.1 (rstS s (both a b)).2.2.1 (rstS s (both a b)).2.2.2 y) (nv s.1) (fun i y=>y=(List.range i).flatMap (A1W s (both a b) z)) (fun i y hi h2=>⟨_,rfl,Goes.succ fun k=>by
   have hl3:=A2p (f:=A1W s (both a b) z) i fun j hj=>(A1K c.s1.1 c.hB c.iB c.hz (show j<nv s.1 by omega)).2.1;obtain⟨-,h3,-⟩:=A1K c.s1.1 c.hB c.iB c.hz hi;have st:=A0c c.s1.1 (show i<s.1.length by omega);rw[Ad6.l8_eq,if_pos (ltI.2 (by omega)),if_pos (idxI.2 (by omega))];simp only[Int.toNat_natCast];rw[hxg i hi];by_cases hm:s.1.getD i []∈both a b
   . have e:A1W s (both a b) z i=A0U (rstS s (both a b)) z (A0G (both a b) (s.1.getD i [])):=if_pos hm;obtain⟨-,q2,q3,-⟩:=A3a c.s1.1 c.hB c.iB c.hz.1 hi hm;have q3:Aj0.F (((rstS s (both a b)).1,((rstS s (both a b)).2.1,((rstS s (both a b)).2.2.1,(rstS s (both a b)).2.2.2))),z,_,())=_:=q3;rw[q2];simp only[Option.bind_some];rw[if_pos (by simp),q3];simp only[Option.bind_some];rw[<-e,if_pos (by rw[h2];simp only[bigA];omega),A0x (by omega),h2,A0d]
   . have e:A1W s (both a b) z i=List.replicate (s.2.2.1.getD i 0).toNat 0:=if_neg hm;obtain⟨w,w1,w2⟩:=Aa5.val (both a b) (s.1.getD i []) c.hB.sorted c.hB.small (by have:=(n2 i hi).2;omega);have w2:=w2.2 hm;rw[w1];simp only[Option.bind_some];rw[if_neg (by simp only[decide_eq_true_eq];omega),if_pos (idxI.2 (by omega)),if_pos ⟨by omega,by rw[h2];simp only[bigA];omega⟩,<-e,A0x (by omega),h2,A0d]⟩) 0 [] (Nat.zero_le _) rfl
 rw[hy]at hgo;exact hgo
theorem outL_go {s:ShfV} {a:List (List Int)} (h:A0v s) (ha:CplxOk a) {w:List Int} (hw:(w.length:Int)=A0j s 1) :
   Goes (R:=(List Int×Int×Unit)×Unit) (fun k=>Ad6.l18 k ((A0k s).length:Int) 0 s.1 s.2.1 s.2.2.1 s.2.2.2 a w [] (A0k s)) (fun k=>Ad6.l18 k ((A0k s).length:Int) ((A0k s).length:Int) s.1 s.2.1 s.2.2.1 s.2.2.2 a w (outL s a w) (A0k s)):=by
 have hn:=h.1.1;have hl:=h.2.2.1.1;have hen:(A0k s).length≤s.1.length:=A0D _ _ _;have hst1:=A0E h 1;obtain⟨y,hy,hgo⟩:=Goes.loop (R:=((List Int×Int×Unit)×Unit)) (fun k i (y:List Int)=>Ad6.l18 k ((A0k s).length:Int) (i:Int) s.1 s.2.1 s.2.2.1 s.2.2.2 a w y (A0k s)) (A0k s).length (fun i y=>y=(List.range i).flatMap (A1v s a w)) (fun i y hi h2=>⟨_,rfl,Goes.succ fun k=>by
   have hl3:=A2p (f:=A1v s a w) i fun j hj=>(A1c h a hw (show j<(A0k s).length by omega)).2;have h3:=(A1c h a hw hi).2;obtain⟨e,e1,e2,e3,e4,e5⟩:=A3T h hi;have e1:(A0k s).getD i 0=(e:Int):=e1;have st:=A0c h e2;have hb:=A0V h e2;rw[show((s.1.getD e []).length:Int)-1=1 by omega,<-hw]at hb;rw[Ad6.l18_eq,if_pos (ltI.2 hi),if_pos (idxI.2 hi)];simp only[Int.toNat_natCast];rw[e1,if_pos (idxI.2 e2)];simp only[Int.toNat_natCast];by_cases hm:s.1.getD e []∈a
   . have eo:A1v s a w i=A0U s w e:=by unfold A1v;rw[e1,Int.toNat_natCast,if_pos hm]
     have q3:Aj0.F ((s.1,(s.2.1,(s.2.2.1,s.2.2.2))),w,(e:Int),())=_:=(A2A s w h e e2 hb.2 (by omega)).1;rw[A1M ha hm];simp only[Option.bind_some];rw[if_pos (by simp),q3];simp only[Option.bind_some];rw[<-eo,if_pos (by rw[h2];simp only[bigA];omega),A0x (by omega),h2,A0d]
   . have eo:A1v s a w i=List.replicate (s.2.2.1.getD e 0).toNat 0:=by unfold A1v;rw[e1,Int.toNat_natCast,if_neg hm,e5]
     obtain⟨v,w1,w2⟩:=Aa5.val a (s.1.getD e []) ha.sorted ha.small (by omega);have w2:=w2.2 hm;rw[w1];simp only[Option.bind_some];rw[if_neg (by simp only[decide_eq_true_eq];omega),if_pos (idxI.2 (by omega)),if_pos ⟨by omega,by rw[h2];simp only[bigA];omega⟩,<-eo,A0x (by omega),h2,A0d]⟩) 0 [] (Nat.zero_le _) rfl
 rw[hy]at hgo;exact hgo
theorem Ad6.val (s:ShfV) (a b:List (List Int)) (z:List Int) (hs:SmSh s) (ha:SmL a) (hb:SmL b) (hz:z.length≤1048576):Ad6.F (s,a,b,z,())=some ((conV s a b z,oneC s a b z,()),()):=by
 have a1:Aj7.F ((s.1,(s.2.1,(s.2.2.1,s.2.2.2))),a,b,z,())=_:=Aj7.val s a b z hs ha hb hz;have hT:∀ r,Ev (fun n=>Ad6.T n s.1 s.2.1 s.2.2.1 s.2.2.2 a b z) r->Ad6.F (s,a,b,z,())=some r:=fun r hr=>Ad6.of _ _ _ _ _ _ _ hr;refine hT _ ?_;by_cases h:oneC s a b z=0
 . have c:=oneAt h;have hn:=c.s1.1.1.1;obtain⟨n1,n2,-⟩:=A1x c.s1.1.1;have r1:Ag9.F ((s.1,(s.2.1,(s.2.2.1,s.2.2.2))),both a b,())=some ((rstS s (both a b),()),()):=A2b c.s1.1 c.hB c.iB;have hvl:(vts s.1).length=nv s.1:=(A4k s.1).symm;have hcl:(cutL s.1 0 ((vts s.1).length:Int)).length=nv s.1:=by
     rw[cutL,hvl];simp only[Int.toNat_natCast,Int.toNat_zero,List.drop_zero,List.length_take];omega
   have hcg:∀ i,i<nv s.1->(cutL s.1 0 ((vts s.1).length:Int)).getD i []=s.1.getD i []:=fun i hi=>by
     rw[cutL,hvl];simp only[Int.toNat_natCast,Int.toNat_zero,List.drop_zero,List.getD_eq_getElem?_getD,List.getElem?_take,if_pos hi]
   have hX:=A4j c.s1.1 c.hB c.iB c.hz;have g1:=conX_go c _ hcl hcg;have hw:=A2i c.s1.1 a b z;have g2:=outL_go c.s1.1 c.ha hw;have m1:Aa8.F ((s.1,(s.2.1,(s.2.2.1,s.2.2.2))),0,())=_:=Aa8.val s c.s1.1 0 (by omega);have m2:=Af7.val (cobM s 0) (conX s (both a b) z) (A2g c.s1.1 0) hX.2 hX.1.symm;have m3:=Ac5.val s.1 1 (by omega) (by omega);refine Ev.of_eq (g1 _ ((g2 _ ((Ev.const _).succ fun k=>?_)).succ fun k=>?_)) fun k=>?_
   . rw[Ad6.l18_eq,if_neg (by simp),conV,if_pos h,h]
   . rw[Ad6.l8_eq,if_neg (by rw[hcl];simp),m1];simp only[Option.bind_some];rw[m2];simp only[Option.bind_some];rw[m3];rfl
   . rw[Ad6.T,a1];simp only[Option.bind_some];rw[if_neg (by simp[h]),Ah8.val a b c.ha.small c.hb.small c.ha.sorted c.hb.sorted];simp only[Option.bind_some];rw[r1];simp only[Option.bind_some];rw[Ae2.val s.1 (by omega)];simp only[Option.bind_some];rw[if_pos (by rw[hvl];omega)]
 . refine(Ev.const _).of_eq fun n=>?_;rw[Ad6.T,a1];simp only[Option.bind_some];rw[if_pos (by simpa using h),conV,if_neg h]
theorem set_at (F w:List Int) {k n:Nat} (hn:n<w.length):(F++(List.replicate k 0++w.drop n)).set (F.length+k) 0=F++(List.replicate (k+1) 0++w.drop (n+1)):=by
 rw[List.set_append_right _ _ (by omega),Nat.add_sub_cancel_left,List.set_append_right _ _ (by simp),List.length_replicate,Nat.sub_self,List.drop_eq_getElem_cons hn,List.set_cons_zero,List.replicate_succ',List.append_assoc];rfl
theorem Ac8.go {s:ShfV} {a:List (List Int)} (h:A0v s) (ha:CplxOk a) {w:List Int} (hw:(w.length:Int)=A0j s 1) :
   Goes (R:=(List Int×Unit)×Unit) (fun k=>Ac8.l12 k s.1 s.2.1 s.2.2.1 s.2.2.2 a 0 0 w (A0k s)) (fun k=>Ac8.l12 k s.1 s.2.1 s.2.2.1 s.2.2.2 a (A0j s 1) ((A0k s).length:Int) (outL s a w) (A0k s)):=by
 have hn:=h.1.1;have hl:=h.2.2.1.1;have hen:(A0k s).length≤s.1.length:=A0D _ _ _;have hst1:=A0E h 1;have hF:∀ n,n≤(A0k s).length->(((List.range n).flatMap (A1v s a w)).length:Int)=sumN (A1I s 1) n:=fun n hn=>A3X n fun i hi=>(A1c h a hw (by omega)).1;obtain⟨y,hy,hgo⟩:=Goes.loop (R:=((List Int×Unit)×Unit)) (fun k i (y:List Int)=>Ac8.l12 k s.1 s.2.1 s.2.2.1 s.2.2.2 a (sumN (A1I s 1) i) (i:Int) y (A0k s)) (A0k s).length (fun i y=>y=(List.range i).flatMap (A1v s a w)++w.drop (sumN (A1I s 1) i).toNat) (fun i y hi h2=>by
   have hFi:=hF i (by omega);have hFs:=hF (i+1) hi;obtain⟨e,e1,e2,e3,e4,e5⟩:=A3T h hi;have e1:(A0k s).getD i 0=(e:Int):=e1;have st:=A0c h e2;have hb:=A0V h e2;rw[show((s.1.getD e []).length:Int)-1=1 by omega,<-hw,e4]at hb;obtain⟨L,hL⟩:∃ L:Nat,sumN (A1I s 1) i=(L:Int):=⟨_,hFi.symm⟩;obtain⟨m,hm⟩:∃ m:Nat,s.2.2.1.getD e 0=(m:Int):=⟨_,st.1.symm⟩;have hs1:sumN (A1I s 1) (i+1)=((L+m:Nat):Int):=by rw[sumN,hL,e5,hm];omega
   rw[hL]at hb hFi h2;rw[hm]at hb;rw[Int.toNat_natCast]at h2;have hLw:L+m≤w.length:=by omega
   have hm3:m≤3:=by omega
   have hFl:((List.range i).flatMap (A1v s a w)).length=L:=by omega
   refine⟨_,rfl,?_⟩;rw[hs1,Int.toNat_natCast,hL];refine(Goes.succ fun k=>by rw[Ac8.l12_eq,if_pos (ltI.2 hi)]).trans ?_;by_cases hma:s.1.getD e []∈a
   . have eo:A1v s a w i=A0U s w e:=by unfold A1v;rw[e1,Int.toNat_natCast,if_pos hma]
     have hfd:=A1X ha hma;obtain⟨_,hy2,hg⟩:=Goes.loop (R:=((List Int×Unit)×Unit)) (fun f k (x:List Int)=>Ac8.l15 f s.1 s.2.1 s.2.2.1 s.2.2.2 a ((L+k:Nat):Int) (i:Int) (k:Int) x (A0k s)) m (fun k x=>x=y) (fun k x hk h3=>⟨_,h3,Goes.succ fun f=>by
       rw[Ac8.l15_eq,if_pos (idxI.2 hi)];simp only[Int.toNat_natCast,e1,hm];rw[if_pos (idxI.2 (by omega)),if_pos (ltI.2 hk),if_pos (idxI.2 hi),if_pos (idxI.2 e2),hfd];simp only[Option.bind_some];rw[if_neg (by simp only[decide_eq_true_eq];omega),A0x (by omega),A0x (by omega)];rfl⟩) 0 y (Nat.zero_le _) rfl
     refine hg.trans (Goes.succ fun f=>?_);rw[Ac8.l15_eq,if_pos (idxI.2 hi)];simp only[Int.toNat_natCast,e1,hm];rw[if_pos (idxI.2 (by omega)),if_neg (by simp),A0x (by omega),hy2,h2,A0d,eo,List.append_assoc];congr 2;have:=A4S w (l:=(L:Int)) (h:=((L+m:Nat):Int)) (by omega) (by omega) (by omega);rw[Int.toNat_natCast,Int.toNat_natCast]at this;rw[this,A0U,e4,hL,hm];rfl
   . have eo:A1v s a w i=List.replicate m 0:=by unfold A1v;rw[e1,Int.toNat_natCast,if_neg hma,e5,hm,Int.toNat_natCast]
     obtain⟨v,w1,w2⟩:=Aa0.val a (s.1.getD e []) ha.small;have w2:=w2.2 hma;obtain⟨_,hy2,hg⟩:=Goes.loop (R:=((List Int×Unit)×Unit)) (fun f k (x:List Int)=>Ac8.l15 f s.1 s.2.1 s.2.2.1 s.2.2.2 a ((L+k:Nat):Int) (i:Int) (k:Int) x (A0k s)) m (fun k x=>x=(List.range i).flatMap (A1v s a w)++(List.replicate k 0++w.drop (L+k))) (fun k x hk h3=>⟨_,rfl,Goes.succ fun f=>by
       have hxl:x.length=w.length:=by rw[h3];simp only[List.length_append,List.length_replicate,List.length_drop,hFl];omega
       rw[Ac8.l15_eq,if_pos (idxI.2 hi)];simp only[Int.toNat_natCast,e1,hm];rw[if_pos (idxI.2 (by omega)),if_pos (ltI.2 hk),if_pos (idxI.2 hi),if_pos (idxI.2 e2),w1];simp only[Option.bind_some];rw[if_pos (by simp only[decide_eq_true_eq];omega),if_pos (idxI.2 (by omega)),A0x (by omega),A0x (by omega),h3,<-hFl,set_at _ _ (by omega)];rfl⟩) 0 y (Nat.zero_le _) (by rw[h2];simp)
     refine hg.trans (Goes.succ fun f=>?_);rw[Ac8.l15_eq,if_pos (idxI.2 hi)];simp only[Int.toNat_natCast,e1,hm];rw[if_pos (idxI.2 (by omega)),if_neg (by simp),A0x (by omega),hy2,A0d,eo,List.append_assoc]) 0 w (Nat.zero_le _) (by simp[sumN])
 have e:sumN (A1I s 1) (A0k s).length=A0j s 1:=(A2e h 1).symm;rw[hy,e,List.drop_eq_nil_of_le (by omega),List.append_nil]at hgo;exact hgo
theorem Ac8.val {s:ShfV} {a b:List (List Int)} {z:List Int} (c:OneAt s a b z):Ac8.F (s,a,b,z,())=some ((outL s a (conW s a b z),()),()):=by
 have hn:=c.s1.1.1.1;obtain⟨n1,n2,-⟩:=A1x c.s1.1.1;have hX:=A4j c.s1.1 c.hB c.iB c.hz;have m1:Ac7.F ((s.1,(s.2.1,(s.2.2.1,s.2.2.2))),0,())=_:=Ac7.val s c.s1.1 0 (by omega);have m2:=Ai4.val (cobM s 0) (conX s (both a b) z) (A2g c.s1.1 0) hX.2 hX.1.symm;have m3:=Aa3.val s.1 1 (by omega) (by omega);have m4:=Aa3.val s.1 0 (by omega) (by omega);obtain⟨y,hy,g1⟩:=Goes.loop (R:=((List Int×Unit)×Unit)) (fun k i (y:List Int)=>Ac8.l4 k s.1 s.2.1 s.2.2.1 s.2.2.2 a z (i:Int) (both a b) y) (nv s.1) (fun i y=>y=(List.range i).flatMap (A1W s (both a b) z)) (fun i y hi h2=>⟨_,rfl,Goes.succ fun k=>by
   have hl3:=A2p (f:=A1W s (both a b) z) i fun j hj=>(A1K c.s1.1 c.hB c.iB c.hz (show j<nv s.1 by omega)).2.1;obtain⟨-,h3,-⟩:=A1K c.s1.1 c.hB c.iB c.hz hi;have q:Ad9.F ((s.1,(s.2.1,(s.2.2.1,s.2.2.2))),both a b,z,(i:Int),())=some ((A1W s (both a b) z i,()),()):=by
     unfold A1W;split
     . rename_i hm;exact(A3a c.s1.1 c.hB c.iB c.hz.1 hi hm).1
     . rename_i hm;exact Ad9.out c.s1.1 c.hB c.iB z (by omega) hm
   rw[Ac8.l4_eq,m4];simp only[Option.bind_some];rw[if_pos (ltI.2 (show i<(A0w s.1 0 s.1.length).length from hi)),q];simp only[Option.bind_some];rw[if_pos (by rw[h2];simp only[bigA];omega),A0x (by omega),h2,A0d]⟩) 0 [] (Nat.zero_le _) rfl
 refine Ac8.of s.1 s.2.1 s.2.2.1 s.2.2.2 a b z ?_;refine Ev.of_eq (g1 _ ((Ac8.go c.s1.1 c.ha (A2i c.s1.1 a b z) _ ((Ev.const _).succ fun k=>?_)).succ fun k=>?_)) fun k=>?_
 . rw[Ac8.l12_eq,if_neg (by simp)]
 . rw[Ac8.l4_eq,m4];simp only[Option.bind_some];rw[if_neg (by simp[nv]),m1];simp only[Option.bind_some];rw[hy,show(List.range (nv s.1)).flatMap (A1W s (both a b) z)=conX s (both a b) z from rfl,m2];simp only[Option.bind_some];rw[m3];rfl
 . rw[Ac8.T,Ac1.val a b c.ha.small c.hb.small];rfl
theorem Am2.val (s:ShfV) (a b:List (List Int)) (z:List Int) (hs:SmSh s) (ha:SmL a) (hb:SmL b) (hz:z.length≤1048576):Am2.F (s,a,b,z,())=some ((conV s a b z,oneC s a b z,()),()):=by
 have a1:Al2.F ((s.1,(s.2.1,(s.2.2.1,s.2.2.2))),a,b,z,())=_:=Al2.val s a b z hs ha hb hz;have T:Am2.F (s,a,b,z,())=Am2.T s.1 s.2.1 s.2.2.1 s.2.2.2 a b z:=Am2.eq _ _ _ _ _ _ _;rw[T,Am2.T,a1];simp only[Option.bind_some];by_cases h:oneC s a b z=0
 . have d:Ac8.F ((s.1,(s.2.1,(s.2.2.1,s.2.2.2))),a,b,z,())=_:=Ac8.val (oneAt h);rw[if_neg (by simp[h]),d,conV,if_pos h,h];rfl
 . rw[if_pos (by simpa using h),conV,if_neg h]
theorem A3h (s:ShfV) (a b:List (List Int)) (z:List Int):(conV s a b z).length≤1048576:=by
 unfold conV;split
 . rename_i h;have c:=oneAt h;have hen:(A0k s).length≤s.1.length:=A0D _ _ _;have hn:=c.s1.1.1.1;have:=A2p (f:=A1v s a (conW s a b z)) (A0k s).length fun j hj=>(A1c c.s1.1 a (A2i c.s1.1 a b z) hj).2;rw[outL];omega
 . simp
theorem An1.pure (d:Ins An1.sig.ps) (h:wfIns An1.sig.ps d):∃ mu,An1.F d=some ((true,()),mu):=by
 obtain⟨d0,d1,d2,d3,⟨⟩⟩:=d;obtain⟨hw0,hw1,hw2,hw3,_⟩:=h;obtain⟨w0a,w0b,w0c,w0d,w0e⟩:=shf_wf hw0;obtain⟨w1a,w1b⟩:=A4i hw1;obtain⟨w2a,w2b⟩:=A4i hw2;refine⟨(),?_⟩;have hT:An1.F (d0,d1,d2,d3,())=An1.T d0.1 d0.2.1 d0.2.2.1 d0.2.2.2 d1 d2 d3:=An1.eq _ _ _ _ _ _ _;rw[hT,An1.T];by_cases hl3:d3.length≤1048576
 . rw[if_neg (by simp;omega)];obtain⟨r0,e0,k0⟩:=An2.val d0 1048576 (by omega) (by omega) w0a w0b w0c w0d w0e;have e0:An2.F ((d0.1,(d0.2.1,(d0.2.2.1,d0.2.2.2))),1048576,())=_:=e0;rw[e0];simp only[Option.bind_some];rcases k0 with rfl|⟨a0,b0,c0⟩
   . rw[if_pos (by simp)]
   rw[if_neg (by simp;omega)];obtain⟨r1,e1,k1⟩:=Ag3.val d1 r0 a0 (by omega) w1a w1b;rw[e1];simp only[Option.bind_some];rcases k1 with rfl|⟨a1,b1,c1⟩
   . rw[if_pos (by simp)]
   rw[if_neg (by simp;omega)];obtain⟨r2,e2,k2⟩:=Ag3.val d2 r1 a1 (by omega) w2a w2b;rw[e2];simp only[Option.bind_some];rcases k2 with rfl|⟨a2,b2,c2⟩
   . rw[if_pos (by simp)]
   rw[if_neg (by simp;omega)];have t0:Aj4.F ((d0.1,(d0.2.1,(d0.2.2.1,d0.2.2.2))),())=_:=Aj4.val d0 c0;obtain⟨f0,g0,g0'⟩:=Ap4.same d0 d0 c0;obtain rfl:f0=true:=g0'.2 rfl;obtain⟨v0,s0,m0,ma0,mb0⟩:=Ap5.some d0 1 c0 (by omega) (by omega);have t1:=Ad8.val d1 c1;obtain⟨f1,g1,g1'⟩:=Ag1.same d1 d1 c1;obtain rfl:f1=true:=g1'.2 rfl;obtain⟨v1,s1,m1,ma1,mb1⟩:=Ag2.some d1 v0 c1 (by omega) (by omega);have t2:=Ad8.val d2 c2;obtain⟨f2,g2,g2'⟩:=Ag1.same d2 d2 c2;obtain rfl:f2=true:=g2'.2 rfl;obtain⟨v2,s2,m2,ma2,mb2⟩:=Ag2.some d2 v1 c2 (by omega) (by omega);have t3:=Ab6.val d3 (by omega);have g3:=Aa6.refl d3 (by omega);obtain⟨v3,s3,m3,ma3,mb3⟩:=Aa9.some d3 v2 hl3 (by omega) (by omega);have hs:=A3h d0 d1 d2 d3;have gr:=Aa6.refl (conV d0 d1 d2 d3) (by omega);obtain⟨ys,v,n1,n2,n3⟩:=A3l (conV d0 d1 d2 d3) (by omega);have q1:¬ v3<0:=by omega
   have q2:¬ v<0:=by omega
   simp[t0,g0,m0,t1,g1,m1,t2,g2,m2,t3,g3,m3,Am2.val d0 d1 d2 d3 c0 c1 c2 hl3,Ad6.val d0 d1 d2 d3 c0 c1 c2 hl3,gr,n1,n2,q1,q2]
 . rw[if_pos (by simp;omega)]
end Go.Proofs.YtpdlhcgmejadnaaGreat
