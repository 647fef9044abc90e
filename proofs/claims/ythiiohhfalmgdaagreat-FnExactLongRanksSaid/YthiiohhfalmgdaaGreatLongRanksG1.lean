/- The functions, as the machine runs them. -/
import Derived.Test.YthiiohhfalmgdaaGreatVm4
import Derived.Test.YthiiohhfalmgdaaGreatProg
import Derived.KernelRfl
import Derived.WalkKit
import Derived.Lib.Walk
import Derived.Lib.AppendZeros
import Derived.Sort.WalkA
import Derived.Sort.WalkB2
import Derived.Sort.WalkB12
import Derived.Deep.LoopGhost
import Derived.Shelf.RegionOpenPlain
import Derived.Lib.SliceRun
namespace Go.Proofs.YthiiohhfalmgdaaGreat
open Go Go.Vm
set_option linter.unusedVariables false
set_option linter.unusedSimpArgs false
open Go.Proofs.Tryz
abbrev LI:=List Int
abbrev LL:=List LI
abbrev MX:=Int×Int×Int×LI
abbrev LM:=List MX
abbrev SF:=LL×Int×LI×LM
abbrev OI:=Option ((Int×Unit)×Unit)
abbrev OB:=Option ((Bool×Unit)×Unit)
abbrev OL:=Option ((LI×Unit)×Unit)
abbrev OQ:=Option ((LL×Unit)×Unit)
abbrev OM:=Option ((MX×Unit)×Unit)
abbrev OS:=Option ((SF×Unit)×Unit)
abbrev tI:Ty := .int .i64
abbrev tL:Ty := .sl tI
abbrev tQ:Ty := .sl tL
abbrev cI (x:Int):Cell:=⟨tI,.sh,x⟩
abbrev cL (x:LI):Cell:=⟨tL,.sh,x⟩
abbrev dL (x:LI):Cell:=⟨tL,.deep,x⟩
abbrev cQ (x:LL):Cell:=⟨tQ,.sh,x⟩
abbrev dQ (x:LL):Cell:=⟨tQ,.deep,x⟩
abbrev vI (x:Int):TV := .val false [cI x]
abbrev vL (x:LI):TV := .val false [cL x]
abbrev vQ (x:LL):TV := .val false [cQ x]
abbrev TMatrix_2:Ty := .pair tI tL
abbrev TMatrix_1:Ty := .pair tI TMatrix_2
abbrev TMatrix:Ty := .pair tI TMatrix_1
abbrev TEdge_1:Ty := .pair tI tI
abbrev TEdge:Ty := .pair tI TEdge_1
abbrev TSheaf_2:Ty := .pair tL (.sl TMatrix)
abbrev TSheaf_1:Ty := .pair tI TSheaf_2
abbrev TSheaf:Ty := .pair tQ TSheaf_1
abbrev TSpace_1:Ty := .pair tI tQ
abbrev TSpace:Ty := .pair tI TSpace_1
def tabl:List (Nat×TInfo):=[
  (2,⟨false,tI,0,[]⟩),
  (3,⟨false,tI,0,[]⟩),
  (4,⟨false,.bool,0,[]⟩),
  (22,⟨false,tQ,25,[]⟩),
  (24,⟨true,tQ,0,[(0,1,false)]⟩),
  (25,⟨false,tL,2,[]⟩),
  (26,⟨false,(.sl TMatrix),62,[]⟩),
  (28,⟨true,TSheaf,0,[(0,1,true),(1,1,false),(2,1,false),(3,1,false)]⟩),
  (33,⟨true,tQ,0,[(0,1,false)]⟩),
  (34,⟨false,(.sl TMatrix),70,[]⟩),
  (36,⟨true,TSheaf,0,[(0,1,true),(1,1,false),(2,1,false),(3,1,false)]⟩),
  (62,⟨true,TMatrix,0,[(0,1,false),(1,1,false),(2,1,false),(3,1,false)]⟩),
  (70,⟨true,TMatrix,0,[(0,1,false),(1,1,false),(2,1,false),(3,1,false)]⟩),
  (77,⟨false,(.sl TSheaf),36,[]⟩),
  (114,⟨false,(.sl TEdge),117,[]⟩),
  (117,⟨true,TEdge,0,[(0,1,false),(1,1,false),(2,1,false)]⟩),
  (136,⟨true,TSpace,0,[(0,1,false),(1,1,false),(2,1,false)]⟩),
  (159,⟨false,tL,3,[]⟩),
  (162,⟨false,(.int .u64),0,[]⟩),
  (166,⟨false,(.sl tQ),22,[]⟩)]
theorem tab_good:tabB Go.Proofs.Tryz.prog tabl=true:=by kernel_rfl
theorem tab_open:b4I Go.Proofs.Tryz.prog tabl=true:=by kernel_rfl
theorem mixed_ok:Go.Proofs.Tryz.prog.follows .mixedOrders=true:=by kernel_rfl
set_option maxHeartbeats 2000000 in
set_option maxRecDepth 100000 in
theorem slices_Grow_Lint64_int64.grow0 (w:World):Calls Go.Proofs.Tryz.prog 148 #[.slice none 0 0,.int .i64 ((0:Nat):Int)] w fun e w'=>e = .returned (.slice none 0 0)∧w'=w:=by
  have h2:Go.RowKit.wrap64 (((0:Nat):Int)-((0:Nat):Int))=0:=by unfold Go.RowKit.wrap64;omega
  go_enter Go.Proofs.Tryz.func148,Go.Proofs.Tryz.ntmps148
  go_wp2
  go_ret
  exact⟨rfl,rfl⟩
set_option maxHeartbeats 4000000 in
set_option maxRecDepth 100000 in
theorem slices_Grow_Lint64_int64.grow1 (w:World) (n:Nat) (h0:0<n) (hn:n≤1099511627776) (i:TypeInfo) (z:Value) (hi:Go.Proofs.Tryz.prog.info? 2=some i) (hz:i.zero=some z) (hs:0<i.size) (hb:i.bytes≤256) :
    Calls Go.Proofs.Tryz.prog 148 #[.slice none 0 0,.int .i64 (n:Int)] w fun e w'=>∃ G,n≤G∧G≤9223372036854775807∧e = .returned (.slice (some ⟨w.heap.size,0,none⟩) 0 G)∧w'=w.drew.alloc (.cells (Builtin.zeroCells z.cells n++Builtin.zeroCells z.cells (G-n)) 2):=by
  have h1:¬ ((n:Int)<0):=by omega
  have h2:Go.RowKit.wrap64 (((0:Nat):Int)-((0:Nat):Int))=0:=by unfold Go.RowKit.wrap64;omega
  have h3:Go.RowKit.wrap64 ((n:Int)-0)=(n:Int):=by unfold Go.RowKit.wrap64;omega
  have h4:(n:Int)>0:=by omega
  have hm:n*i.bytes≤1099511627776*256:=Nat.mul_le_mul hn hb
  have hrz:∀ ty,(Builtin.append_ #[25,3] ty #[.slice none 0 0,.int .i64 (n:Int)]).run Go.Proofs.Tryz.prog w =
      .ok (.slice (some ⟨w.heap.size,0,none⟩) n (grownCap w n 0 2)) (w.drew.alloc (.cells (Builtin.zeroCells z.cells n++Builtin.zeroCells z.cells (grownCap w n 0 2-n)) 2)):=fun ty =>
    Lib.run_append_nil_zeros (P:=Go.Proofs.Tryz.prog) w 25 3 ty 2 i z .i64 .i64 (by kernel_rfl) (by kernel_rfl) hi hz n h0 hs (by omega) (by omega)
  have hGn:n≤grownCap w n 0 2:=grownCap_ge w _ _ _
  obtain⟨G,hG⟩:∃ G,G=grownCap w n 0 2:=⟨_,rfl⟩
  have hG63:G≤9223372036854775807:=by
    have:=grownCap_le_maxLen w n 0 2 (by unfold maxLen;omega)
    rw[←hG]at this
    unfold maxLen at this
    omega
  rw[←hG]at hrz hGn
  clear hG
  refine Calls.mono (R:=fun e w'=>e = .returned (.slice (some ⟨w.heap.size,0,none⟩) 0 G)∧w'=w.drew.alloc (.cells (Builtin.zeroCells z.cells n++Builtin.zeroCells z.cells (G-n)) 2)) ?_ fun e w' h=>⟨G,hGn,hG63,h.1,h.2⟩
  clear hi hz hs hb hm
  go_enter Go.Proofs.Tryz.func148,Go.Proofs.Tryz.ntmps148
  go_wp2_with (at_builtin;refine Lib.wpList_append_run _ rfl _ _ _ _ rfl _ _ rfl rfl _ _ (hrz _) ?_)
  all_goals (go_ret;exact⟨rfl,rfl⟩)
theorem slices_Grow_Lint64_int64.growOK:b2a Go.Proofs.Tryz.prog (148,tI):=by
  have hT:a2i tabl 2=some ⟨false,tI,0,[]⟩:=by kernel_rfl
  obtain⟨inf,h1,h2,h3,h4,h5⟩:=(tab_ok tab_good).info 2 _ hT
  exact growOK_of ⟨Go.Proofs.Tryz.f148,Go.Proofs.Tryz.func148,by kernel_rfl,by kernel_rfl⟩ (a3e (tab_ok tab_good) hT) slices_Grow_Lint64_int64.grow0 fun w n a b=>slices_Grow_Lint64_int64.grow1 w n a b inf _ h1 h5 (by rw[h2];exact a3K _) h4
set_option maxHeartbeats 2000000 in
set_option maxRecDepth 100000 in
theorem slices_Grow_LLint64_Lint64.grow0 (w:World):Calls Go.Proofs.Tryz.prog 153 #[.slice none 0 0,.int .i64 ((0:Nat):Int)] w fun e w'=>e = .returned (.slice none 0 0)∧w'=w:=by
  have h2:Go.RowKit.wrap64 (((0:Nat):Int)-((0:Nat):Int))=0:=by unfold Go.RowKit.wrap64;omega
  go_enter Go.Proofs.Tryz.func153,Go.Proofs.Tryz.ntmps153
  go_wp2
  go_ret
  exact⟨rfl,rfl⟩
set_option maxHeartbeats 4000000 in
set_option maxRecDepth 100000 in
theorem slices_Grow_LLint64_Lint64.grow1 (w:World) (n:Nat) (h0:0<n) (hn:n≤1099511627776) (i:TypeInfo) (z:Value) (hi:Go.Proofs.Tryz.prog.info? 25=some i) (hz:i.zero=some z) (hs:0<i.size) (hb:i.bytes≤256) :
    Calls Go.Proofs.Tryz.prog 153 #[.slice none 0 0,.int .i64 (n:Int)] w fun e w'=>∃ G,n≤G∧G≤9223372036854775807∧e = .returned (.slice (some ⟨w.heap.size,0,none⟩) 0 G)∧w'=w.drew.alloc (.cells (Builtin.zeroCells z.cells n++Builtin.zeroCells z.cells (G-n)) 25):=by
  have h1:¬ ((n:Int)<0):=by omega
  have h2:Go.RowKit.wrap64 (((0:Nat):Int)-((0:Nat):Int))=0:=by unfold Go.RowKit.wrap64;omega
  have h3:Go.RowKit.wrap64 ((n:Int)-0)=(n:Int):=by unfold Go.RowKit.wrap64;omega
  have h4:(n:Int)>0:=by omega
  have hm:n*i.bytes≤1099511627776*256:=Nat.mul_le_mul hn hb
  have hrz:∀ ty,(Builtin.append_ #[22,3] ty #[.slice none 0 0,.int .i64 (n:Int)]).run Go.Proofs.Tryz.prog w =
      .ok (.slice (some ⟨w.heap.size,0,none⟩) n (grownCap w n 0 25)) (w.drew.alloc (.cells (Builtin.zeroCells z.cells n++Builtin.zeroCells z.cells (grownCap w n 0 25-n)) 25)):=fun ty =>
    Lib.run_append_nil_zeros (P:=Go.Proofs.Tryz.prog) w 22 3 ty 25 i z .i64 .i64 (by kernel_rfl) (by kernel_rfl) hi hz n h0 hs (by omega) (by omega)
  have hGn:n≤grownCap w n 0 25:=grownCap_ge w _ _ _
  obtain⟨G,hG⟩:∃ G,G=grownCap w n 0 25:=⟨_,rfl⟩
  have hG63:G≤9223372036854775807:=by
    have:=grownCap_le_maxLen w n 0 25 (by unfold maxLen;omega)
    rw[←hG]at this
    unfold maxLen at this
    omega
  rw[←hG]at hrz hGn
  clear hG
  refine Calls.mono (R:=fun e w'=>e = .returned (.slice (some ⟨w.heap.size,0,none⟩) 0 G)∧w'=w.drew.alloc (.cells (Builtin.zeroCells z.cells n++Builtin.zeroCells z.cells (G-n)) 25)) ?_ fun e w' h=>⟨G,hGn,hG63,h.1,h.2⟩
  clear hi hz hs hb hm
  go_enter Go.Proofs.Tryz.func153,Go.Proofs.Tryz.ntmps153
  go_wp2_with (at_builtin;refine Lib.wpList_append_run _ rfl _ _ _ _ rfl _ _ rfl rfl _ _ (hrz _) ?_)
  all_goals (go_ret;exact⟨rfl,rfl⟩)
theorem slices_Grow_LLint64_Lint64.growOK:b2a Go.Proofs.Tryz.prog (153,tL):=by
  have hT:a2i tabl 25=some ⟨false,tL,2,[]⟩:=by kernel_rfl
  obtain⟨inf,h1,h2,h3,h4,h5⟩:=(tab_ok tab_good).info 25 _ hT
  exact growOK_of ⟨Go.Proofs.Tryz.f153,Go.Proofs.Tryz.func153,by kernel_rfl,by kernel_rfl⟩ (a3e (tab_ok tab_good) hT) slices_Grow_LLint64_Lint64.grow0 fun w n a b=>slices_Grow_LLint64_Lint64.grow1 w n a b inf _ h1 h5 (by rw[h2];exact a3K _) h4
abbrev pS:PS := .val true TSheaf
abbrev pC:PS := .val true tQ
abbrev pQ:PS := .val false tQ
abbrev pL:PS := .val false tL
abbrev pI:PS := .val false tI
abbrev pM:PS := .val true TMatrix
abbrev qS:PS := .rptr TSheaf
abbrev qC:PS := .rptr tQ
abbrev qM:PS := .rptr TMatrix
abbrev oI:OutK×Ty×Vm.Mode:=(.val false,tI,.deep)
abbrev oB:OutK×Ty×Vm.Mode:=(.val false,.bool,.deep)
abbrev oL:OutK×Ty×Vm.Mode:=(.val false,tL,.deep)
abbrev oQ:OutK×Ty×Vm.Mode:=(.val false,tQ,.deep)
abbrev oC:OutK×Ty×Vm.Mode:=(.val true,tQ,.deep)
abbrev oS:OutK×Ty×Vm.Mode:=(.val true,TSheaf,.deep)
abbrev oM:OutK×Ty×Vm.Mode:=(.val true,TMatrix,.deep)
abbrev bd (f:Func):Code:=f.body.getD .skip
abbrev cx (l:List Vm.Callee):Ctx:=⟨a2i tabl,l,[],[],[],[]⟩
abbrev cf (c:Ctx):Cfg:=⟨c,[],[],fun _=>([],[]),fun _=>[]⟩
abbrev cl (c:Ctx) (f:Nat→List Nat×List Nat):Cfg:=⟨c,[],[],f,fun _=>[]⟩
theorem nM {α:Type} {p:α→Prop}:∀ x∈([]:List α),p x:=List.forall_mem_nil _
theorem cM {α:Type} {p:α→Prop} {a:α} {l:List α} (h:p a∧∀ x∈l,p x):∀ x∈a::l,p x:=List.forall_mem_cons.2 h
theorem cok {l:List Vm.Callee} (h:∀ e∈l,a3L prog e):CtxOK prog (cx l):=⟨nM,mixed_ok,tab_ok tab_good,h,nM,nM⟩
abbrev dD:TV := .dead

namespace Af3
noncomputable def sig:Sig:=⟨[pL,pI],[oI]⟩
noncomputable def cfg:Cfg:=cf (cx [])
noncomputable def fin:=finK cfg.c sig [.tmp 4]
noncomputable def F (d:LI×Int×Unit):OI:=anyK (a9n cfg fin (bd f20) (a6P sig.ps d 12))
variable (a_1:LI) (left_2:Int)
noncomputable def T:OI:=if (decide ((IntKind.i64.wrap (left_2-(a_1.length:Int)))<0))=true then some (((-1:Int),()),())else some ((IntKind.i64.wrap (left_2-(a_1.length:Int)),()),())
theorem eq:F (a_1,left_2,())=T a_1 left_2:=eq_any fun k=>by kernel_rfl
theorem S:a3L prog ⟨20,sig,F⟩:=sound_k (res:=[.tmp 4]) func20 (cok nM)
end Af3
namespace Ai9
noncomputable def sig:Sig:=⟨[pQ,pI],[oI]⟩
noncomputable def cfg:Cfg:=cl (cx [⟨20,Af3.sig,Af3.F⟩]) fun id=>match id with|5=>([0,1,5],[])|_=>([],[])
noncomputable def fin:=finK cfg.c sig [.tmp 4]
noncomputable def F (d:LL×Int×Unit):OI:=anyK (a9n cfg fin (bd f22) (a6P sig.ps d 27))
variable (k:Nat) (x3:LL) (i4 i5:Int)
noncomputable def l5:OI:=Vm.runT cfg fin k [.inLoop (sub [1,1,1,0,1,0,0] (bd f22)),.inBlock 0,.code (sub [1,1,1,1] (bd f22))] ⟨[vQ x3,vI i4,dD,dD,dD,vI i5]++a9v 21,[]⟩
theorem l5_eq:l5 (k+1) x3 i4 i5=if (decide (i5<(x3.length:Int)))=true then if 0≤i5∧i5<(x3.length:Int)then(Af3.F (x3.getD i5.toNat ([]:LI),i4,())).bind fun r6=>if (decide (r6.1.1<0))=true then some (((-1:Int),()),())else l5 k x3 r6.1.1 (IntKind.i64.wrap (i5+1))else none else some ((i4,()),()):=by kernel_rfl
variable (a_1:LL) (left_2:Int)
noncomputable def T:OI:=if (decide ((IntKind.i64.wrap (left_2-(a_1.length:Int)))<0))=true then some (((-1:Int),()),())else l5 k a_1 (IntKind.i64.wrap (left_2-(a_1.length:Int))) (0:Int)
theorem of {r} (h:Ev (fun k=>T k a_1 left_2) r):F (a_1,left_2,())=some r:=Ev.run (fun k=>by kernel_rfl) h
theorem S:a3L prog ⟨22,sig,F⟩:=sound_k (res:=[.tmp 4]) func22 (cok (cM ⟨Af3.S,nM⟩))
end Ai9
namespace Ah2
noncomputable def sig:Sig:=⟨[pC,pI],[oI]⟩
noncomputable def cfg:Cfg:=cf (cx [⟨22,Ai9.sig,Ai9.F⟩])
noncomputable def fin:=finK cfg.c sig [.tmp 4]
noncomputable def F (d:LL×Int×Unit):OI:=anyK (a9n cfg fin (bd f6) (a6P sig.ps d 12))
variable (a_1:LL) (left_2:Int)
noncomputable def T:OI:=(Ai9.F (a_1,left_2,())).bind fun r3=>if (decide (r3.1.1<0))=true then some (((-1:Int),()),())else some ((r3.1.1,()),())
theorem eq:F (a_1,left_2,())=T a_1 left_2:=eq_any fun k=>by kernel_rfl
theorem S:a3L prog ⟨6,sig,F⟩:=sound_k (res:=[.tmp 4]) func6 (cok (cM ⟨Ai9.S,nM⟩))
end Ah2
namespace Ap9
noncomputable def sig:Sig:=⟨[pM,pI],[oI]⟩
noncomputable def cfg:Cfg:=cf (cx [⟨20,Af3.sig,Af3.F⟩])
noncomputable def fin:=finK cfg.c sig [.tmp 4]
noncomputable def F (d:MX×Int×Unit):OI:=anyK (a9n cfg fin (bd f35) (a6P sig.ps d 12))
noncomputable def T (a_1 a_2 a_3:Int) (a_4:LI) (left_5:Int):OI:=(Af3.F (a_4,left_5,())).bind fun r6=>if (decide (r6.1.1<0))=true then some (((-1:Int),()),())else some ((r6.1.1,()),())
theorem eq (a_1 a_2 a_3:Int) (a_4:LI) (left_5:Int):F ((a_1,(a_2,(a_3,a_4))),left_5,())=T a_1 a_2 a_3 a_4 left_5:=eq_any fun k=>by kernel_rfl
theorem S:a3L prog ⟨35,sig,F⟩:=sound_k (res:=[.tmp 4]) func35 (cok (cM ⟨Af3.S,nM⟩))
end Ap9
namespace Aj0
noncomputable def sig:Sig:=⟨[.val false (.sl TMatrix),pI],[oI]⟩
noncomputable def cfg:Cfg:=cl (cx [⟨35,Ap9.sig,Ap9.F⟩]) fun id=>match id with|5=>([0,1,5],[])|_=>([],[])
noncomputable def fin:=finK cfg.c sig [.tmp 4]
noncomputable def F (d:LM×Int×Unit):OI:=anyK (a9n cfg fin (bd f21) (a6P sig.ps d 27))
variable (k:Nat) (x3:LM) (i4 i5:Int)
noncomputable def l5:OI:=Vm.runT cfg fin k [.inLoop (sub [1,1,1,0,1,0,0] (bd f21)),.inBlock 0,.code (sub [1,1,1,1] (bd f21))] ⟨[.val false [⟨(.sl TMatrix),.sh,x3⟩],vI i4,dD,dD,dD,vI i5]++a9v 21,[]⟩
theorem l5_eq:l5 (k+1) x3 i4 i5=if (decide (i5<(x3.length:Int)))=true then if 0≤i5∧i5<(x3.length:Int)then(Ap9.F (x3.getD i5.toNat (0,0,0,([]:LI)),i4,())).bind fun r6=>if (decide (r6.1.1<0))=true then some (((-1:Int),()),())else l5 k x3 r6.1.1 (IntKind.i64.wrap (i5+1))else none else some ((i4,()),()):=by kernel_rfl
variable (a_1:LM) (left_2:Int)
noncomputable def T:OI:=if (decide ((IntKind.i64.wrap (left_2-(a_1.length:Int)))<0))=true then some (((-1:Int),()),())else l5 k a_1 (IntKind.i64.wrap (left_2-(a_1.length:Int))) (0:Int)
theorem of {r} (h:Ev (fun k=>T k a_1 left_2) r):F (a_1,left_2,())=some r:=Ev.run (fun k=>by kernel_rfl) h
theorem S:a3L prog ⟨21,sig,F⟩:=sound_k (res:=[.tmp 4]) func21 (cok (cM ⟨Ap9.S,nM⟩))
end Aj0
namespace An3
noncomputable def sig:Sig:=⟨[pS,pI],[oI]⟩
noncomputable def cfg:Cfg:=cf (cx [⟨6,Ah2.sig,Ah2.F⟩,⟨20,Af3.sig,Af3.F⟩,⟨21,Aj0.sig,Aj0.F⟩])
noncomputable def fin:=finK cfg.c sig [.tmp 4]
noncomputable def F (d:SF×Int×Unit):OI:=anyK (a9n cfg fin (bd f5) (a6P sig.ps d 24))
noncomputable def T (a_1:LL) (a_2:Int) (a_3:LI) (a_4:LM) (left_5:Int):OI:=(Ah2.F (a_1,left_5,())).bind fun r6=>if (decide (r6.1.1<0))=true then some (((-1:Int),()),())else(Af3.F (a_3,r6.1.1,())).bind fun r7=>if (decide (r7.1.1<0))=true then some (((-1:Int),()),())else(Aj0.F (a_4,r7.1.1,())).bind fun r8=>if (decide (r8.1.1<0))=true then some (((-1:Int),()),())else some ((r8.1.1,()),())
theorem eq (a_1:LL) (a_2:Int) (a_3:LI) (a_4:LM) (left_5:Int):F ((a_1,(a_2,(a_3,a_4))),left_5,())=T a_1 a_2 a_3 a_4 left_5:=eq_any fun k=>by kernel_rfl
theorem S:a3L prog ⟨5,sig,F⟩:=sound_k (res:=[.tmp 4]) func5 (cok (cM ⟨Ah2.S,cM ⟨Af3.S,cM ⟨Aj0.S,nM⟩⟩⟩))
end An3
namespace Ad7
noncomputable def sig:Sig:=⟨[pL],[oL]⟩
noncomputable def cfg:Cfg:=cl (cx []) fun id=>match id with|3=>([0,3,4],[12])|_=>([],[])
noncomputable def fin:=finK cfg.c sig [.tmp 2]
noncomputable def F (d:LI×Unit):OL:=anyK (a9n cfg fin (bd f25) (a6P sig.ps d 22))
variable (k:Nat) (x2:LI) (i3:Int) (x4:LI)
noncomputable def l3:OL:=Vm.runT cfg fin k [.inLoop (sub [1,1,0,1,0,0] (bd f25)),.inBlock 0,.code (sub [1,1,1] (bd f25))] ⟨[vL x2,dD,dD,.view 12 (.root 0) 1 false,vI i3]++a9v 17,[(12,⟨false,[dL x4]⟩)]⟩
theorem l3_eq:l3 (k+1) x2 i3 x4=if (decide (i3<(x2.length:Int)))=true then if 0≤i3∧i3<(x2.length:Int)then if 0≤i3∧i3<(x4.length:Int)then l3 k x2 (IntKind.i64.wrap (i3+1)) (x4.set i3.toNat (x2.getD i3.toNat 0:Int))else none else none else some ((x4,()),()):=by kernel_rfl
variable (a_1:LI)
noncomputable def T:OL:=if 0≤(a_1.length:Int)∧(a_1.length:Int)≤(bigN:Int)then l3 k a_1 (0:Int) (List.replicate (a_1.length:Int).toNat (0:Int))else none
theorem of {r} (h:Ev (fun k=>T k a_1) r):F (a_1,())=some r:=Ev.run (fun k=>by kernel_rfl) h
theorem S:a3L prog ⟨25,sig,F⟩:=sound_k (res:=[.tmp 2]) func25 (cok nM)
end Ad7
namespace Ak8
noncomputable def sig:Sig:=⟨[pQ],[oQ]⟩
noncomputable def cfg:Cfg:=cl (cx [⟨25,Ad7.sig,Ad7.F⟩]) fun id=>match id with|3=>([0,3,4],[12])|_=>([],[])
noncomputable def fin:=finK cfg.c sig [.tmp 2]
noncomputable def F (d:LL×Unit):OQ:=anyK (a9n cfg fin (bd f27) (a6P sig.ps d 23))
variable (k:Nat) (x2:LL) (i3:Int) (x4:LL)
noncomputable def l3:OQ:=Vm.runT cfg fin k [.inLoop (sub [1,1,0,1,0,0] (bd f27)),.inBlock 0,.code (sub [1,1,1] (bd f27))] ⟨[vQ x2,dD,dD,.view 12 (.root 0) 1 false,vI i3]++a9v 18,[(12,⟨false,[dQ x4]⟩)]⟩
theorem l3_eq:l3 (k+1) x2 i3 x4=if (decide (i3<(x2.length:Int)))=true then if 0≤i3∧i3<(x2.length:Int)then(Ad7.F (x2.getD i3.toNat ([]:LI),())).bind fun r5=>if 0≤i3∧i3<(x4.length:Int)then l3 k x2 (IntKind.i64.wrap (i3+1)) (x4.set i3.toNat r5.1.1)else none else none else some ((x4,()),()):=by kernel_rfl
variable (a_1:LL)
noncomputable def T:OQ:=if 0≤(a_1.length:Int)∧(a_1.length:Int)≤(bigN:Int)then l3 k a_1 (0:Int) (List.replicate (a_1.length:Int).toNat ([]:LI))else none
theorem of {r} (h:Ev (fun k=>T k a_1) r):F (a_1,())=some r:=Ev.run (fun k=>by kernel_rfl) h
theorem S:a3L prog ⟨27,sig,F⟩:=sound_k (res:=[.tmp 2]) func27 (cok (cM ⟨Ad7.S,nM⟩))
end Ak8
namespace Ad6
noncomputable def sig:Sig:=⟨[pC],[oC]⟩
noncomputable def cfg:Cfg:=cf (cx [⟨27,Ak8.sig,Ak8.F⟩])
noncomputable def fin:=finK cfg.c sig [.cell 2 33]
noncomputable def F (d:LL×Unit):OQ:=anyK (a9n cfg fin (bd f9) (a6P sig.ps d 9))
variable (a_1:LL)
noncomputable def T:OQ:=(Ak8.F (a_1,())).bind fun r2=>some ((r2.1.1,()),())
theorem eq:F (a_1,())=T a_1:=eq_any fun k=>by kernel_rfl
theorem S:a3L prog ⟨9,sig,F⟩:=sound_k (res:=[.cell 2 33]) func9 (cok (cM ⟨Ak8.S,nM⟩))
end Ad6
namespace Aq0
noncomputable def sig:Sig:=⟨[pM],[oM]⟩
noncomputable def cfg:Cfg:=cf (cx [⟨25,Ad7.sig,Ad7.F⟩])
noncomputable def fin:=finK cfg.c sig [.cell 2 70]
noncomputable def F (d:MX×Unit):OM:=anyK (a9n cfg fin (bd f42) (a6P sig.ps d 18))
variable (a_1 a_2 a_3:Int) (a_4:LI)
noncomputable def T:OM:=(Ad7.F (a_4,())).bind fun r5=>some (((a_1,(a_2,(a_3,r5.1.1))),()),())
theorem eq:F ((a_1,(a_2,(a_3,a_4))),())=T a_1 a_2 a_3 a_4:=eq_any fun k=>by kernel_rfl
theorem S:a3L prog ⟨42,sig,F⟩:=sound_k (res:=[.cell 2 70]) func42 (cok (cM ⟨Ad7.S,nM⟩))
end Aq0
namespace Ak9
noncomputable def sig:Sig:=⟨[.val false (.sl TMatrix)],[(.val false,(.sl TMatrix),.deep)]⟩
noncomputable def cfg:Cfg:=cl (cx [⟨42,Aq0.sig,Aq0.F⟩]) fun id=>match id with|3=>([0,3,4],[12])|_=>([],[])
noncomputable def fin:=finK cfg.c sig [.tmp 2]
noncomputable def F (d:LM×Unit):Option ((LM×Unit)×(Unit)):=anyK (a9n cfg fin (bd f26) (a6P sig.ps d 23))
variable (k:Nat) (x2:LM) (i3:Int) (x4:LM)
noncomputable def l3:Option ((LM×Unit)×(Unit)):=Vm.runT cfg fin k [.inLoop (sub [1,1,0,1,0,0] (bd f26)),.inBlock 0,.code (sub [1,1,1] (bd f26))] ⟨[.val false [⟨(.sl TMatrix),.sh,x2⟩],dD,dD,.view 12 (.root 0) 1 false,vI i3]++a9v 18,[(12,⟨false,[⟨(.sl TMatrix),.deep,x4⟩]⟩)]⟩
theorem l3_eq:l3 (k+1) x2 i3 x4=if (decide (i3<(x2.length:Int)))=true then if 0≤i3∧i3<(x2.length:Int)then(Aq0.F (x2.getD i3.toNat (0,0,0,([]:LI)),())).bind fun r5=>if 0≤i3∧i3<(x4.length:Int)then l3 k x2 (IntKind.i64.wrap (i3+1)) (x4.set i3.toNat r5.1.1)else none else none else some ((x4,()),()):=by kernel_rfl
variable (a_1:LM)
noncomputable def T:Option ((LM×Unit)×(Unit)):=if 0≤(a_1.length:Int)∧(a_1.length:Int)≤(bigN:Int)then l3 k a_1 (0:Int) (List.replicate (a_1.length:Int).toNat (0,0,0,([]:LI)))else none
theorem of {r} (h:Ev (fun k=>T k a_1) r):F (a_1,())=some r:=Ev.run (fun k=>by kernel_rfl) h
theorem S:a3L prog ⟨26,sig,F⟩:=sound_k (res:=[.tmp 2]) func26 (cok (cM ⟨Aq0.S,nM⟩))
end Ak9
namespace Ak0
noncomputable def sig:Sig:=⟨[pS],[oS]⟩
noncomputable def cfg:Cfg:=cf (cx [⟨9,Ad6.sig,Ad6.F⟩,⟨25,Ad7.sig,Ad7.F⟩,⟨26,Ak9.sig,Ak9.F⟩])
noncomputable def fin:=finK cfg.c sig [.cell 2 36]
noncomputable def F (d:SF×Unit):OS:=anyK (a9n cfg fin (bd f8) (a6P sig.ps d 20))
variable (a_1:LL) (a_2:Int) (a_3:LI) (a_4:LM)
noncomputable def T:OS:=(Ad6.F (a_1,())).bind fun r5=>(Ad7.F (a_3,())).bind fun r6=>(Ak9.F (a_4,())).bind fun r7=>some (((r5.1.1,(a_2,(r6.1.1,r7.1.1))),()),())
theorem eq:F ((a_1,(a_2,(a_3,a_4))),())=T a_1 a_2 a_3 a_4:=eq_any fun k=>by kernel_rfl
theorem S:a3L prog ⟨8,sig,F⟩:=sound_k (res:=[.cell 2 36]) func8 (cok (cM ⟨Ad6.S,cM ⟨Ad7.S,cM ⟨Ak9.S,nM⟩⟩⟩))
end Ak0
namespace Ac7
noncomputable def sig:Sig:=⟨[pL,pL],[oB]⟩
noncomputable def cfg:Cfg:=cl (cx []) fun id=>match id with|4=>([0,1,5],[])|_=>([],[])
noncomputable def fin:=finK cfg.c sig [.tmp 4]
noncomputable def F (d:LI×LI×Unit):OB:=anyK (a9n cfg fin (bd f30) (a6P sig.ps d 26))
variable (k:Nat) (x3 x4:LI) (i5:Int)
noncomputable def l4:OB:=Vm.runT cfg fin k [.inLoop (sub [1,1,0,1,0,0] (bd f30)),.inBlock 0,.code (sub [1,1,1] (bd f30))] ⟨[vL x3,vL x4,dD,dD,dD,vI i5]++a9v 20,[]⟩
theorem l4_eq:l4 (k+1) x3 x4 i5=if (decide (i5<(x3.length:Int)))=true then if 0≤i5∧i5<(x3.length:Int)then if 0≤i5∧i5<(x4.length:Int)then if ((x3.getD i5.toNat 0:Int)!=(x4.getD i5.toNat 0:Int))=true then some ((false,()),())else l4 k x3 x4 (IntKind.i64.wrap (i5+1))else none else none else some ((true,()),()):=by kernel_rfl
variable (a_1 b_2:LI)
noncomputable def T:OB:=if ((a_1.length:Int)!=(b_2.length:Int))=true then some ((false,()),())else l4 k a_1 b_2 (0:Int)
theorem of {r} (h:Ev (fun k=>T k a_1 b_2) r):F (a_1,b_2,())=some r:=Ev.run (fun k=>by kernel_rfl) h
theorem S:a3L prog ⟨30,sig,F⟩:=sound_k (res:=[.tmp 4]) func30 (cok nM)
end Ac7
namespace Ae2
noncomputable def sig:Sig:=⟨[pQ,pQ],[oB]⟩
noncomputable def cfg:Cfg:=cl (cx [⟨30,Ac7.sig,Ac7.F⟩]) fun id=>match id with|4=>([0,1,5],[])|_=>([],[])
noncomputable def fin:=finK cfg.c sig [.tmp 4]
noncomputable def F (d:LL×LL×Unit):OB:=anyK (a9n cfg fin (bd f11) (a6P sig.ps d 27))
variable (k:Nat) (x3 x4:LL) (i5:Int)
noncomputable def l4:OB:=Vm.runT cfg fin k [.inLoop (sub [1,1,0,1,0,0] (bd f11)),.inBlock 0,.code (sub [1,1,1] (bd f11))] ⟨[vQ x3,vQ x4,dD,dD,dD,vI i5]++a9v 21,[]⟩
theorem l4_eq:l4 (k+1) x3 x4 i5=if (decide (i5<(x3.length:Int)))=true then if 0≤i5∧i5<(x3.length:Int)then if 0≤i5∧i5<(x4.length:Int)then(Ac7.F (x3.getD i5.toNat ([]:LI),x4.getD i5.toNat ([]:LI),())).bind fun r6=>if (!r6.1.1)=true then some ((false,()),())else l4 k x3 x4 (IntKind.i64.wrap (i5+1))else none else none else some ((true,()),()):=by kernel_rfl
variable (a_1 b_2:LL)
noncomputable def T:OB:=if ((a_1.length:Int)!=(b_2.length:Int))=true then some ((false,()),())else l4 k a_1 b_2 (0:Int)
theorem of {r} (h:Ev (fun k=>T k a_1 b_2) r):F (a_1,b_2,())=some r:=Ev.run (fun k=>by kernel_rfl) h
theorem S:a3L prog ⟨11,sig,F⟩:=sound_k (res:=[.tmp 4]) func11 (cok (cM ⟨Ac7.S,nM⟩))
end Ae2
namespace Ah0
noncomputable def sig:Sig:=⟨[pC,pC],[oB]⟩
noncomputable def cfg:Cfg:=cf (cx [⟨11,Ae2.sig,Ae2.F⟩])
noncomputable def fin:=finK cfg.c sig [.tmp 4]
noncomputable def F (d:LL×LL×Unit):OB:=anyK (a9n cfg fin (bd f13) (a6P sig.ps d 11))
variable (a_1 b_2:LL)
noncomputable def T:OB:=(Ae2.F (a_1,b_2,())).bind fun r3=>if (!r3.1.1)=true then some ((false,()),())else some ((true,()),())
theorem eq:F (a_1,b_2,())=T a_1 b_2:=eq_any fun k=>by kernel_rfl
theorem S:a3L prog ⟨13,sig,F⟩:=sound_k (res:=[.tmp 4]) func13 (cok (cM ⟨Ae2.S,nM⟩))
end Ah0
namespace Ap6
noncomputable def sig:Sig:=⟨[pM,pM],[oB]⟩
noncomputable def cfg:Cfg:=cf (cx [⟨30,Ac7.sig,Ac7.F⟩])
noncomputable def fin:=finK cfg.c sig [.tmp 4]
noncomputable def F (d:MX×MX×Unit):OB:=anyK (a9n cfg fin (bd f49) (a6P sig.ps d 26))
variable (a_1 a_2 a_3:Int) (a_4:LI) (b_5 b_6 b_7:Int) (b_8:LI)
noncomputable def T:OB:=if (a_1 !=b_5)=true then some ((false,()),())else if (a_2 !=b_6)=true then some ((false,()),())else if (a_3 !=b_7)=true then some ((false,()),())else(Ac7.F (a_4,b_8,())).bind fun r9=>if (!r9.1.1)=true then some ((false,()),())else some ((true,()),())
theorem eq:F ((a_1,(a_2,(a_3,a_4))),(b_5,(b_6,(b_7,b_8))),())=T a_1 a_2 a_3 a_4 b_5 b_6 b_7 b_8:=eq_any fun k=>by kernel_rfl
theorem S:a3L prog ⟨49,sig,F⟩:=sound_k (res:=[.tmp 4]) func49 (cok (cM ⟨Ac7.S,nM⟩))
end Ap6
namespace Ai8
noncomputable def sig:Sig:=⟨[.val false (.sl TMatrix),.val false (.sl TMatrix)],[oB]⟩
noncomputable def cfg:Cfg:=cl (cx [⟨49,Ap6.sig,Ap6.F⟩]) fun id=>match id with|4=>([0,1,5],[])|_=>([],[])
noncomputable def fin:=finK cfg.c sig [.tmp 4]
noncomputable def F (d:LM×LM×Unit):OB:=anyK (a9n cfg fin (bd f31) (a6P sig.ps d 27))
variable (k:Nat) (x3 x4:LM) (i5:Int)
noncomputable def l4:OB:=Vm.runT cfg fin k [.inLoop (sub [1,1,0,1,0,0] (bd f31)),.inBlock 0,.code (sub [1,1,1] (bd f31))] ⟨[.val false [⟨(.sl TMatrix),.sh,x3⟩],.val false [⟨(.sl TMatrix),.sh,x4⟩],dD,dD,dD,vI i5]++a9v 21,[]⟩
theorem l4_eq:l4 (k+1) x3 x4 i5=if (decide (i5<(x3.length:Int)))=true then if 0≤i5∧i5<(x3.length:Int)then if 0≤i5∧i5<(x4.length:Int)then(Ap6.F (x3.getD i5.toNat (0,0,0,([]:LI)),x4.getD i5.toNat (0,0,0,([]:LI)),())).bind fun r6=>if (!r6.1.1)=true then some ((false,()),())else l4 k x3 x4 (IntKind.i64.wrap (i5+1))else none else none else some ((true,()),()):=by kernel_rfl
variable (a_1 b_2:LM)
noncomputable def T:OB:=if ((a_1.length:Int)!=(b_2.length:Int))=true then some ((false,()),())else l4 k a_1 b_2 (0:Int)
theorem of {r} (h:Ev (fun k=>T k a_1 b_2) r):F (a_1,b_2,())=some r:=Ev.run (fun k=>by kernel_rfl) h
theorem S:a3L prog ⟨31,sig,F⟩:=sound_k (res:=[.tmp 4]) func31 (cok (cM ⟨Ap6.S,nM⟩))
end Ai8
namespace Ap7
noncomputable def sig:Sig:=⟨[pS,pS],[oB]⟩
noncomputable def cfg:Cfg:=cf (cx [⟨13,Ah0.sig,Ah0.F⟩,⟨30,Ac7.sig,Ac7.F⟩,⟨31,Ai8.sig,Ai8.F⟩])
noncomputable def fin:=finK cfg.c sig [.tmp 4]
noncomputable def F (d:SF×SF×Unit):OB:=anyK (a9n cfg fin (bd f12) (a6P sig.ps d 28))
variable (a_1:LL) (a_2:Int) (a_3:LI) (a_4:LM) (b_5:LL) (b_6:Int) (b_7:LI) (b_8:LM)
noncomputable def T:OB:=(Ah0.F (a_1,b_5,())).bind fun r9=>if (!r9.1.1)=true then some ((false,()),())else if (a_2 !=b_6)=true then some ((false,()),())else(Ac7.F (a_3,b_7,())).bind fun r10=>if (!r10.1.1)=true then some ((false,()),())else(Ai8.F (a_4,b_8,())).bind fun r11=>if (!r11.1.1)=true then some ((false,()),())else some ((true,()),())
theorem eq:F ((a_1,(a_2,(a_3,a_4))),(b_5,(b_6,(b_7,b_8))),())=T a_1 a_2 a_3 a_4 b_5 b_6 b_7 b_8:=eq_any fun k=>by kernel_rfl
theorem S:a3L prog ⟨12,sig,F⟩:=sound_k (res:=[.tmp 4]) func12 (cok (cM ⟨Ah0.S,cM ⟨Ac7.S,cM ⟨Ai8.S,nM⟩⟩⟩))
end Ap7
namespace Ae3
noncomputable def sig:Sig:=⟨[.wr false tL .deep,pI],[oI]⟩
noncomputable def cfg:Cfg:=⟨cx [],[0],[],fun id=>match id with|2=>([0,1,5],[0])|_=>([],[]),fun _=>[]⟩
noncomputable def fin:=finK cfg.c sig [.tmp 4]
noncomputable def F (d:LI×Int×Unit):Option ((Int×Unit)×(LI×Unit)):=anyK (a9n cfg fin (bd f32) (a6P sig.ps d 19))
variable (k:Nat) (i3 i4:Int) (x5:LI)
noncomputable def l2:Option ((Int×Unit)×(LI×Unit)):=Vm.runT cfg fin k [.inLoop (sub [1,0,1,0,0] (bd f32)),.inBlock 0,.code (sub [1,1] (bd f32))] ⟨[.view 0 (.root 0) 1 false,vI i3,dD,dD,dD,vI i4]++a9v 13,[(0,⟨false,[dL x5]⟩)]⟩
theorem l2_eq:l2 (k+1) i3 i4 x5=if (decide (i4<(x5.length:Int)))=true then if 0≤i4∧i4<(x5.length:Int)then l2 k (IntKind.i64.wrap (i3+1)) (IntKind.i64.wrap (i4+1)) (x5.set i4.toNat i3)else none else some ((i3,()),(x5,())):=by kernel_rfl
variable (a_1:LI) (k_2:Int)
noncomputable def T:Option ((Int×Unit)×(LI×Unit)):=l2 k k_2 (0:Int) a_1
theorem of {r} (h:Ev (fun k=>T k a_1 k_2) r):F (a_1,k_2,())=some r:=Ev.run (fun k=>by kernel_rfl) h
theorem S:a3L prog ⟨32,sig,F⟩:=sound_k (res:=[.tmp 4]) func32 (cok nM)
end Ae3
namespace Ag0
noncomputable def sig:Sig:=⟨[.wr false tQ .deep,pI],[oI]⟩
noncomputable def cfg:Cfg:=⟨cx [⟨32,Ae3.sig,Ae3.F⟩],[0],[],fun id=>match id with|2=>([0,1,5],[0])|_=>([],[]),fun _=>[]⟩
noncomputable def fin:=finK cfg.c sig [.tmp 4]
noncomputable def F (d:LL×Int×Unit):Option ((Int×Unit)×(LL×Unit)):=anyK (a9n cfg fin (bd f16) (a6P sig.ps d 19))
variable (k:Nat) (i3 i4:Int) (x5:LL)
noncomputable def l2:Option ((Int×Unit)×(LL×Unit)):=Vm.runT cfg fin k [.inLoop (sub [1,0,1,0,0] (bd f16)),.inBlock 0,.code (sub [1,1] (bd f16))] ⟨[.view 0 (.root 0) 1 false,vI i3,dD,dD,dD,vI i4]++a9v 13,[(0,⟨false,[dQ x5]⟩)]⟩
theorem l2_eq:l2 (k+1) i3 i4 x5=if (decide (i4<(x5.length:Int)))=true then if 0≤i4∧i4<(x5.length:Int)then(Ae3.F (x5.getD i4.toNat ([]:LI),i3,())).bind fun r6=>l2 k r6.1.1 (IntKind.i64.wrap (i4+1)) (x5.set i4.toNat r6.2.1)else none else some ((i3,()),(x5,())):=by kernel_rfl
variable (a_1:LL) (k_2:Int)
noncomputable def T:Option ((Int×Unit)×(LL×Unit)):=l2 k k_2 (0:Int) a_1
theorem of {r} (h:Ev (fun k=>T k a_1 k_2) r):F (a_1,k_2,())=some r:=Ev.run (fun k=>by kernel_rfl) h
theorem S:a3L prog ⟨16,sig,F⟩:=sound_k (res:=[.tmp 4]) func16 (cok (cM ⟨Ae3.S,nM⟩))
end Ag0
namespace Ah1
noncomputable def sig:Sig:=⟨[.wr true tQ .deep,pI],[oI]⟩
noncomputable def cfg:Cfg:=⟨cx [⟨16,Ag0.sig,Ag0.F⟩],[0],[],fun _=>([],[]),fun _=>[]⟩
noncomputable def fin:=finK cfg.c sig [.tmp 4]
noncomputable def F (d:LL×Int×Unit):Option ((Int×Unit)×(LL×Unit)):=anyK (a9n cfg fin (bd f15) (a6P sig.ps d 10))
variable (a_1:LL) (k_2:Int)
noncomputable def T:Option ((Int×Unit)×(LL×Unit)):=(Ag0.F (a_1,k_2,())).bind fun r3=>some ((r3.1.1,()),(r3.2.1,()))
theorem eq:F (a_1,k_2,())=T a_1 k_2:=eq_any fun k=>by kernel_rfl
theorem S:a3L prog ⟨15,sig,F⟩:=sound_k (res:=[.tmp 4]) func15 (cok (cM ⟨Ag0.S,nM⟩))
end Ah1
namespace Am4
noncomputable def sig:Sig:=⟨[.wr false (.sl TMatrix) .deep,pI],[oI]⟩
noncomputable def cfg:Cfg:=⟨cx [⟨32,Ae3.sig,Ae3.F⟩],[0],[],fun id=>match id with|2=>([0,1,5],[0])|_=>([],[]),fun _=>[]⟩
noncomputable def fin:=finK cfg.c sig [.tmp 4]
noncomputable def F (d:LM×Int×Unit):Option ((Int×Unit)×(LM×Unit)):=anyK (a9n cfg fin (bd f33) (a6P sig.ps d 41))
variable (k:Nat) (i3 i4:Int) (x5:LM)
noncomputable def l2:Option ((Int×Unit)×(LM×Unit)):=Vm.runT cfg fin k [.inLoop (sub [1,0,1,0,0] (bd f33)),.inBlock 0,.code (sub [1,1] (bd f33))] ⟨[.view 0 (.root 0) 1 false,vI i3,dD,dD,dD,vI i4]++a9v 35,[(0,⟨false,[⟨(.sl TMatrix),.deep,x5⟩]⟩)]⟩
theorem l2_eq:l2 (k+1) i3 i4 x5=if (decide (i4<(x5.length:Int)))=true then if 0≤i4∧i4<(x5.length:Int)then if 0≤i4∧i4<((x5.set i4.toNat (i3,(x5.getD i4.toNat (0,0,0,([]:LI))).2)).length:Int)then let y6:LM:=(x5.set i4.toNat (i3,(x5.getD i4.toNat (0,0,0,([]:LI))).2)).set i4.toNat (((x5.set i4.toNat (i3,(x5.getD i4.toNat (0,0,0,([]:LI))).2)).getD i4.toNat (0,0,0,([]:LI))).1,(IntKind.i64.wrap (i3+1),(((x5.set i4.toNat (i3,(x5.getD i4.toNat (0,0,0,([]:LI))).2)).getD i4.toNat (0,0,0,([]:LI))).2).2));if 0≤i4∧i4<(y6.length:Int)then let y7:LM:=y6.set i4.toNat ((y6.getD i4.toNat (0,0,0,([]:LI))).1,(((y6.getD i4.toNat (0,0,0,([]:LI))).2).1,(IntKind.i64.wrap ((IntKind.i64.wrap (i3+1))+1),(((y6.getD i4.toNat (0,0,0,([]:LI))).2).2).2)));if 0≤i4∧i4<(y7.length:Int)then(Ae3.F ((((y7.getD i4.toNat (0,0,0,([]:LI))).2).2).2,IntKind.i64.wrap ((IntKind.i64.wrap ((IntKind.i64.wrap (i3+1))+1))+1),())).bind fun r8=>l2 k r8.1.1 (IntKind.i64.wrap (i4+1)) (y7.set i4.toNat ((y7.getD i4.toNat (0,0,0,([]:LI))).1,(((y7.getD i4.toNat (0,0,0,([]:LI))).2).1,((((y7.getD i4.toNat (0,0,0,([]:LI))).2).2).1,r8.2.1))))else none else none else none else none else some ((i3,()),(x5,())):=by kernel_rfl
variable (a_1:LM) (k_2:Int)
noncomputable def T:Option ((Int×Unit)×(LM×Unit)):=l2 k k_2 (0:Int) a_1
theorem of {r} (h:Ev (fun k=>T k a_1 k_2) r):F (a_1,k_2,())=some r:=Ev.run (fun k=>by kernel_rfl) h
theorem S:a3L prog ⟨33,sig,F⟩:=sound_k (res:=[.tmp 4]) func33 (cok (cM ⟨Ae3.S,nM⟩))
end Am4
namespace Ap8
noncomputable def sig:Sig:=⟨[.wr true TSheaf .deep,pI],[oI]⟩
noncomputable def cfg:Cfg:=⟨cx [⟨15,Ah1.sig,Ah1.F⟩,⟨32,Ae3.sig,Ae3.F⟩,⟨33,Am4.sig,Am4.F⟩],[0],[],fun _=>([],[]),fun _=>[]⟩
noncomputable def fin:=finK cfg.c sig [.tmp 4]
noncomputable def F (d:SF×Int×Unit):Option ((Int×Unit)×(SF×Unit)):=anyK (a9n cfg fin (bd f14) (a6P sig.ps d 18))
variable (a_1:LL) (a_2:Int) (a_3:LI) (a_4:LM) (k_5:Int)
noncomputable def T:Option ((Int×Unit)×(SF×Unit)):=(Ah1.F (a_1,k_5,())).bind fun r6=>(Ae3.F (a_3,r6.1.1,())).bind fun r7=>(Am4.F (a_4,r7.1.1,())).bind fun r8=>some ((r8.1.1,()),((r6.2.1,(a_2,(r7.2.1,r8.2.1))),()))
theorem eq:F ((a_1,(a_2,(a_3,a_4))),k_5,())=T a_1 a_2 a_3 a_4 k_5:=eq_any fun k=>by kernel_rfl
theorem S:a3L prog ⟨14,sig,F⟩:=sound_k (res:=[.tmp 4]) func14 (cok (cM ⟨Ah1.S,cM ⟨Ae3.S,cM ⟨Am4.S,nM⟩⟩⟩))
end Ap8
namespace Am3
noncomputable def sig:Sig:=⟨[pL,pI],[oI]⟩
noncomputable def cfg:Cfg:=cl (cx []) fun id=>match id with|2=>([0,1,5],[])|_=>([],[])
noncomputable def fin:=finK cfg.c sig [.tmp 4]
noncomputable def F (d:LI×Int×Unit):OI:=anyK (a9n cfg fin (bd f34) (a6P sig.ps d 21))
variable (k:Nat) (x3:LI) (i4 i5:Int)
noncomputable def l2:OI:=Vm.runT cfg fin k [.inLoop (sub [1,0,1,0,0] (bd f34)),.inBlock 0,.code (sub [1,1] (bd f34))] ⟨[vL x3,vI i4,dD,dD,dD,vI i5]++a9v 15,[]⟩
theorem l2_eq:l2 (k+1) x3 i4 i5=if (decide (i5<(x3.length:Int)))=true then if 0≤i5∧i5<(x3.length:Int)then if ((x3.getD i5.toNat 0:Int)!=i4)=true then some (((-1:Int),()),())else l2 k x3 (IntKind.i64.wrap (i4+1)) (IntKind.i64.wrap (i5+1))else none else some ((i4,()),()):=by kernel_rfl
variable (a_1:LI) (k_2:Int)
noncomputable def T:OI:=l2 k a_1 k_2 (0:Int)
theorem of {r} (h:Ev (fun k=>T k a_1 k_2) r):F (a_1,k_2,())=some r:=Ev.run (fun k=>by kernel_rfl) h
theorem S:a3L prog ⟨34,sig,F⟩:=sound_k (res:=[.tmp 4]) func34 (cok nM)
end Am3
namespace Aj9
noncomputable def sig:Sig:=⟨[pQ,pI],[oI]⟩
noncomputable def cfg:Cfg:=cl (cx [⟨34,Am3.sig,Am3.F⟩]) fun id=>match id with|2=>([0,1,5],[])|_=>([],[])
noncomputable def fin:=finK cfg.c sig [.tmp 4]
noncomputable def F (d:LL×Int×Unit):OI:=anyK (a9n cfg fin (bd f17) (a6P sig.ps d 21))
variable (k:Nat) (x3:LL) (i4 i5:Int)
noncomputable def l2:OI:=Vm.runT cfg fin k [.inLoop (sub [1,0,1,0,0] (bd f17)),.inBlock 0,.code (sub [1,1] (bd f17))] ⟨[vQ x3,vI i4,dD,dD,dD,vI i5]++a9v 15,[]⟩
theorem l2_eq:l2 (k+1) x3 i4 i5=if (decide (i5<(x3.length:Int)))=true then if 0≤i5∧i5<(x3.length:Int)then(Am3.F (x3.getD i5.toNat ([]:LI),i4,())).bind fun r6=>if (decide (r6.1.1<0))=true then some (((-1:Int),()),())else l2 k x3 r6.1.1 (IntKind.i64.wrap (i5+1))else none else some ((i4,()),()):=by kernel_rfl
variable (a_1:LL) (k_2:Int)
noncomputable def T:OI:=l2 k a_1 k_2 (0:Int)
theorem of {r} (h:Ev (fun k=>T k a_1 k_2) r):F (a_1,k_2,())=some r:=Ev.run (fun k=>by kernel_rfl) h
theorem S:a3L prog ⟨17,sig,F⟩:=sound_k (res:=[.tmp 4]) func17 (cok (cM ⟨Am3.S,nM⟩))
end Aj9
namespace Aa7
noncomputable def sig:Sig:=⟨[pI,pI,pI],[oB]⟩
noncomputable def cfg:Cfg:=cf (cx [])
noncomputable def fin:=finK cfg.c sig [.tmp 6]
noncomputable def F (d:Int×Int×Int×Unit):OB:=anyK (a9n cfg fin (bd f82) (a6P sig.ps d 15))
variable (n_1 low_2 high_3:Int)
noncomputable def T:OB:=if (decide (n_1≥low_2))=true then some ((decide (n_1≤high_3),()),())else some ((false,()),())
theorem eq:F (n_1,low_2,high_3,())=T n_1 low_2 high_3:=eq_any fun k=>by kernel_rfl
theorem S:a3L prog ⟨82,sig,F⟩:=sound_k (res:=[.tmp 6]) func82 (cok nM)
end Aa7
namespace Am6
noncomputable def sig:Sig:=⟨[pL,pI,pI],[oB]⟩
noncomputable def cfg:Cfg:=cl (cx [⟨82,Aa7.sig,Aa7.F⟩]) fun id=>match id with|2=>([0,1,2,7],[])|_=>([],[])
noncomputable def fin:=finK cfg.c sig [.tmp 6]
noncomputable def F (d:LI×Int×Int×Unit):OB:=anyK (a9n cfg fin (bd f83) (a6P sig.ps d 38))
variable (k:Nat) (x4:LI) (i5 i6 i7:Int)
noncomputable def l2:OB:=Vm.runT cfg fin k [.inLoop (sub [1,0,1,0,0] (bd f83)),.inBlock 0,.code (sub [1,1] (bd f83))] ⟨[vL x4,vI i5,vI i6,dD,dD,dD,dD,vI i7]++a9v 30,[]⟩
theorem l2_eq:l2 (k+1) x4 i5 i6 i7=if (decide (i7<(x4.length:Int)))=true then if 0≤i7∧i7<(x4.length:Int)then(Aa7.F ((x4.getD i7.toNat 0:Int),i5,i6,())).bind fun r8=>if (!r8.1.1)=true then some ((false,()),())else if (decide (i7>0))=true then if 0≤(IntKind.i64.wrap (i7-1))∧(IntKind.i64.wrap (i7-1))<(x4.length:Int)then if 0≤i7∧i7<(x4.length:Int)then if (decide ((x4.getD (IntKind.i64.wrap (i7-1)).toNat 0)≥(x4.getD i7.toNat 0:Int)))=true then some ((false,()),())else l2 k x4 i5 i6 (IntKind.i64.wrap (i7+1))else none else none else l2 k x4 i5 i6 (IntKind.i64.wrap (i7+1))else none else some ((true,()),()):=by kernel_rfl
variable (list_1:LI) (low_2 high_3:Int)
noncomputable def T:OB:=l2 k list_1 low_2 high_3 (0:Int)
theorem of {r} (h:Ev (fun k=>T k list_1 low_2 high_3) r):F (list_1,low_2,high_3,())=some r:=Ev.run (fun k=>by kernel_rfl) h
theorem S:a3L prog ⟨83,sig,F⟩:=sound_k (res:=[.tmp 6]) func83 (cok (cM ⟨Aa7.S,nM⟩))
end Am6
namespace Aq3
noncomputable def sig:Sig:=⟨[pL],[oB]⟩
noncomputable def cfg:Cfg:=cf (cx [⟨82,Aa7.sig,Aa7.F⟩,⟨83,Am6.sig,Am6.F⟩])
noncomputable def fin:=finK cfg.c sig [.tmp 2]
noncomputable def F (d:LI×Unit):OB:=anyK (a9n cfg fin (bd f52) (a6P sig.ps d 10))
variable (s_1:LI)
noncomputable def T:OB:=(Aa7.F ((s_1.length:Int),(1:Int),(4:Int),())).bind fun r2=>if r2.1.1=true then(Am6.F (s_1,(0:Int),(9:Int),())).bind fun r3=>some ((r3.1.1,()),())else some ((false,()),())
theorem eq:F (s_1,())=T s_1:=eq_any fun k=>by kernel_rfl
theorem S:a3L prog ⟨52,sig,F⟩:=sound_k (res:=[.tmp 2]) func52 (cok (cM ⟨Aa7.S,cM ⟨Am6.S,nM⟩⟩))
end Aq3
namespace Aj2
noncomputable def sig:Sig:=⟨[pL,pL],[oB]⟩
noncomputable def cfg:Cfg:=cl (cx []) fun id=>match id with|4=>([0,1,5],[])|_=>([],[])
noncomputable def fin:=finK cfg.c sig [.tmp 4]
noncomputable def F (d:LI×LI×Unit):OB:=anyK (a9n cfg fin (bd f53) (a6P sig.ps d 40))
variable (k:Nat) (x3 x4:LI) (i5:Int)
noncomputable def l4:OB:=Vm.runT cfg fin k [.inLoop (sub [1,1,0,1,0,0] (bd f53)),.inBlock 0,.code (sub [1,1,1] (bd f53))] ⟨[vL x3,vL x4,dD,dD,dD,vI i5]++a9v 34,[]⟩
theorem l4_eq:l4 (k+1) x3 x4 i5=if (decide (i5<(x3.length:Int)))=true then if 0≤i5∧i5<(x3.length:Int)then if 0≤i5∧i5<(x4.length:Int)then if ((x3.getD i5.toNat 0:Int)!=(x4.getD i5.toNat 0:Int))=true then if 0≤i5∧i5<(x3.length:Int)then if 0≤i5∧i5<(x4.length:Int)then some ((decide ((x3.getD i5.toNat 0:Int)<(x4.getD i5.toNat 0:Int)),()),())else none else none else l4 k x3 x4 (IntKind.i64.wrap (i5+1))else none else none else some ((false,()),()):=by kernel_rfl
variable (a_1 b_2:LI)
noncomputable def T:OB:=if ((a_1.length:Int)!=(b_2.length:Int))=true then some ((decide ((a_1.length:Int)<(b_2.length:Int)),()),())else l4 k a_1 b_2 (0:Int)
theorem of {r} (h:Ev (fun k=>T k a_1 b_2) r):F (a_1,b_2,())=some r:=Ev.run (fun k=>by kernel_rfl) h
theorem S:a3L prog ⟨53,sig,F⟩:=sound_k (res:=[.tmp 4]) func53 (cok nM)
end Aj2
namespace Ai0
noncomputable def sig:Sig:=⟨[pL,pL],[oB]⟩
noncomputable def cfg:Cfg:=cl (cx []) fun id=>match id with|4=>([0,1,5],[])|_=>([],[])
noncomputable def fin:=finK cfg.c sig [.tmp 4]
noncomputable def F (d:LI×LI×Unit):OB:=anyK (a9n cfg fin (bd f84) (a6P sig.ps d 26))
variable (k:Nat) (x3 x4:LI) (i5:Int)
noncomputable def l4:OB:=Vm.runT cfg fin k [.inLoop (sub [1,1,0,1,0,0] (bd f84)),.inBlock 0,.code (sub [1,1,1] (bd f84))] ⟨[vL x3,vL x4,dD,dD,dD,vI i5]++a9v 20,[]⟩
theorem l4_eq:l4 (k+1) x3 x4 i5=if (decide (i5<(x3.length:Int)))=true then if 0≤i5∧i5<(x3.length:Int)then if 0≤i5∧i5<(x4.length:Int)then if ((x3.getD i5.toNat 0:Int)!=(x4.getD i5.toNat 0:Int))=true then some ((false,()),())else l4 k x3 x4 (IntKind.i64.wrap (i5+1))else none else none else some ((true,()),()):=by kernel_rfl
variable (a_1 b_2:LI)
noncomputable def T:OB:=if ((a_1.length:Int)!=(b_2.length:Int))=true then some ((false,()),())else l4 k a_1 b_2 (0:Int)
theorem of {r} (h:Ev (fun k=>T k a_1 b_2) r):F (a_1,b_2,())=some r:=Ev.run (fun k=>by kernel_rfl) h
theorem S:a3L prog ⟨84,sig,F⟩:=sound_k (res:=[.tmp 4]) func84 (cok nM)
end Ai0
namespace Aa1
noncomputable def sig:Sig:=⟨[qC,pL],[oI]⟩
noncomputable def cfg:Cfg:=cl (cx [⟨84,Ai0.sig,Ai0.F⟩]) fun id=>match id with|2=>([0,1,5],[])|_=>([],[])
noncomputable def fin:=finK cfg.c sig [.tmp 4]
noncomputable def F (d:LL×LI×Unit):OI:=anyK (a9n cfg fin (bd f54) (a6P sig.ps d 25))
variable (k:Nat) (x3:LL) (x4:LI) (i5:Int)
noncomputable def l2:OI:=Vm.runT cfg fin k [.inLoop (sub [1,0,1,0,0] (bd f54)),.inBlock 0,.code (sub [1,1] (bd f54))] ⟨[.rptr false [cQ x3],vL x4,dD,dD,dD,vI i5]++a9v 19,[]⟩
theorem l2_eq:l2 (k+1) x3 x4 i5=if (decide (i5<(x3.length:Int)))=true then if 0≤i5∧i5<(x3.length:Int)then(Ai0.F (x3.getD i5.toNat ([]:LI),x4,())).bind fun r6=>if r6.1.1=true then some ((i5,()),())else l2 k x3 x4 (IntKind.i64.wrap (i5+1))else none else some (((-1:Int),()),()):=by kernel_rfl
variable (c_1:LL) (s_2:LI)
noncomputable def T:OI:=l2 k c_1 s_2 (0:Int)
theorem of {r} (h:Ev (fun k=>T k c_1 s_2) r):F (c_1,s_2,())=some r:=Ev.run (fun k=>by kernel_rfl) h
theorem S:a3L prog ⟨54,sig,F⟩:=sound_k (res:=[.tmp 4]) func54 (cok (cM ⟨Ai0.S,nM⟩))
end Aa1
namespace Ab2
noncomputable def sig:Sig:=⟨[pL],[oL]⟩
noncomputable def cfg:Cfg:=cf (cx [])
noncomputable def fin:=finK cfg.c sig [.tmp 2]
noncomputable def F (d:LI×Unit):OL:=anyK (a9n cfg fin (bd f56) (a6P sig.ps d 6))
variable (list_1:LI)
noncomputable def T:OL:=if ([]:LI).length+list_1.length≤bigA then some ((([]:LI)++list_1,()),())else none
theorem eq:F (list_1,())=T list_1:=eq_any fun k=>by kernel_rfl
theorem S:a3L prog ⟨56,sig,F⟩:=sound_k (res:=[.tmp 2]) func56 (cok nM)
end Ab2
namespace Ai2
noncomputable def sig:Sig:=⟨[pL,pI],[oL]⟩
noncomputable def cfg:Cfg:=cf (cx [⟨56,Ab2.sig,Ab2.F⟩])
noncomputable def fin:=finK cfg.c sig [.tmp 4]
noncomputable def F (d:LI×Int×Unit):OL:=anyK (a9n cfg fin (bd f55) (a6P sig.ps d 16))
variable (s_1:LI) (k_2:Int)
noncomputable def T:OL:=if 0≤(0:Int)∧(0:Int)≤k_2∧k_2≤(s_1.length:Int)then(Ab2.F (cutL s_1 (0:Int) k_2,())).bind fun r3=>if 0≤(IntKind.i64.wrap (k_2+(1:Int)))∧(IntKind.i64.wrap (k_2+(1:Int)))≤(s_1.length:Int)∧(s_1.length:Int)≤(s_1.length:Int)then if r3.1.1.length+(cutL s_1 (IntKind.i64.wrap (k_2+(1:Int))) (s_1.length:Int)).length≤bigA then some ((r3.1.1++(cutL s_1 (IntKind.i64.wrap (k_2+(1:Int))) (s_1.length:Int)),()),())else none else none else none
theorem eq:F (s_1,k_2,())=T s_1 k_2:=eq_any fun k=>by kernel_rfl
theorem S:a3L prog ⟨55,sig,F⟩:=sound_k (res:=[.tmp 4]) func55 (cok (cM ⟨Ab2.S,nM⟩))
end Ai2
namespace Aa3
noncomputable def sig:Sig:=⟨[qC],[oB]⟩
noncomputable def cfg:Cfg:=cl (cx [⟨52,Aq3.sig,Aq3.F⟩,⟨53,Aj2.sig,Aj2.F⟩,⟨54,Aa1.sig,Aa1.F⟩,⟨55,Ai2.sig,Ai2.F⟩]) fun id=>match id with|4=>([0,3],[])|10=>([0,3,4,5],[])|_=>([],[])
noncomputable def fin:=finK cfg.c sig [.tmp 2]
noncomputable def F (d:LL×Unit):OB:=anyK (a9n cfg fin (bd f37) (a6P sig.ps d 65))
variable (k:Nat) (x2:LL) (i3:Int)
noncomputable def l4:OB:=Vm.runT cfg fin k [.inLoop (sub [1,1,0,1,0,0] (bd f37)),.inBlock 0,.code (sub [1,1,1] (bd f37))] ⟨[.rptr false [cQ x2],dD,dD,vI i3]++a9v 61,[]⟩
variable (x6:LL) (i7:Int) (x8:LI) (i9:Int)
noncomputable def l10:OB:=Vm.runT cfg fin k [.inLoop (sub [1,1,0,1,0,0,1,0,0,1,1,1,0,0] (bd f37)),.inBlock 2,.inBlock 1,.code (sub [1,1,0,1,0,0,1,1] (bd f37)),.inLoop (sub [1,1,0,1,0,0] (bd f37)),.inBlock 0,.code (sub [1,1,1] (bd f37))] ⟨[.rptr false [cQ x6],dD,dD,vI i7,vL x8,vI i9]++a9v 59,[]⟩
theorem l4_eq:l4 (k+1) x2 i3=if (decide (i3<(x2.length:Int)))=true then if 0≤i3∧i3<(x2.length:Int)then(Aq3.F (x2.getD i3.toNat ([]:LI),())).bind fun r4=>if (!r4.1.1)=true then some ((false,()),())else if (decide (i3>0))=true then if 0≤(IntKind.i64.wrap (i3-1))∧(IntKind.i64.wrap (i3-1))<(x2.length:Int)then(Aj2.F (x2.getD (IntKind.i64.wrap (i3-1)).toNat ([]:LI),x2.getD i3.toNat ([]:LI),())).bind fun r5=>if (!r5.1.1)=true then some ((false,()),())else l10 k x2 i3 (x2.getD i3.toNat ([]:LI)) (0:Int)else none else l10 k x2 i3 (x2.getD i3.toNat ([]:LI)) (0:Int)else none else some ((true,()),()):=by kernel_rfl
theorem l10_eq:l10 (k+1) x6 i7 x8 i9=if (decide (i9<(x8.length:Int)))=true then if (decide ((x8.length:Int)>1))=true then(Ai2.F (x8,i9,())).bind fun r10=>(Aa1.F (x6,r10.1.1,())).bind fun r11=>if (decide (r11.1.1<0))=true then some ((false,()),())else l10 k x6 i7 x8 (IntKind.i64.wrap (i9+1))else l4 k x6 (IntKind.i64.wrap (i7+1))else l4 k x6 (IntKind.i64.wrap (i7+1)):=by kernel_rfl
variable (toArray_1:LL)
noncomputable def T:OB:=if (decide ((toArray_1.length:Int)>48))=true then some ((false,()),())else l4 k toArray_1 (0:Int)
theorem of {r} (h:Ev (fun k=>T k toArray_1) r):F (toArray_1,())=some r:=Ev.run (fun k=>by kernel_rfl) h
theorem S:a3L prog ⟨37,sig,F⟩:=sound_k (res:=[.tmp 2]) func37 (cok (cM ⟨Aq3.S,cM ⟨Aj2.S,cM ⟨Aa1.S,cM ⟨Ai2.S,nM⟩⟩⟩⟩))
end Aa3
namespace Aj1
noncomputable def sig:Sig:=⟨[pI],[oB]⟩
noncomputable def cfg:Cfg:=cl (cx [⟨82,Aa7.sig,Aa7.F⟩]) fun id=>match id with|4=>([0,3],[])|_=>([],[])
noncomputable def fin:=finK cfg.c sig [.tmp 2]
noncomputable def F (d:Int×Unit):OB:=anyK (a9n cfg fin (bd f119) (a6P sig.ps d 18))
variable (k:Nat) (i3 i4:Int)
noncomputable def l4:OB:=Vm.runT cfg fin k [.inLoop (sub [1,1,0,1,0,0] (bd f119)),.inBlock 0,.code (sub [1,1,1] (bd f119))] ⟨[vI i3,dD,dD,vI i4]++a9v 14,[]⟩
theorem l4_eq:l4 (k+1) i3 i4=if (decide ((IntKind.i64.wrap (i4*i4))≤i3))=true then if i4=0 then none else if ((i3.tmod i4)==0)=true then some ((false,()),())else l4 k i3 (IntKind.i64.wrap (i4+1))else some ((true,()),()):=by kernel_rfl
variable (p_1:Int)
noncomputable def T:OB:=(Aa7.F (p_1,(2:Int),(251:Int),())).bind fun r2=>if (!r2.1.1)=true then some ((false,()),())else l4 k p_1 (2:Int)
theorem of {r} (h:Ev (fun k=>T k p_1) r):F (p_1,())=some r:=Ev.run (fun k=>by kernel_rfl) h
theorem S:a3L prog ⟨119,sig,F⟩:=sound_k (res:=[.tmp 2]) func119 (cok (cM ⟨Aa7.S,nM⟩))
end Aj1
namespace Ak1
noncomputable def sig:Sig:=⟨[pI],[oB]⟩
noncomputable def cfg:Cfg:=cf (cx [⟨119,Aj1.sig,Aj1.F⟩])
noncomputable def fin:=finK cfg.c sig [.tmp 2]
noncomputable def F (d:Int×Unit):OB:=anyK (a9n cfg fin (bd f75) (a6P sig.ps d 5))
variable (p_1:Int)
noncomputable def T:OB:=(Aj1.F (p_1,())).bind fun r2=>some ((r2.1.1,()),())
theorem eq:F (p_1,())=T p_1:=eq_any fun k=>by kernel_rfl
theorem S:a3L prog ⟨75,sig,F⟩:=sound_k (res:=[.tmp 2]) func75 (cok (cM ⟨Aj1.S,nM⟩))
end Ak1
namespace Ah6
noncomputable def sig:Sig:=⟨[pL,pI,pI],[oB]⟩
noncomputable def cfg:Cfg:=cl (cx [⟨82,Aa7.sig,Aa7.F⟩]) fun id=>match id with|2=>([0,1,2,7],[])|_=>([],[])
noncomputable def fin:=finK cfg.c sig [.tmp 6]
noncomputable def F (d:LI×Int×Int×Unit):OB:=anyK (a9n cfg fin (bd f120) (a6P sig.ps d 26))
variable (k:Nat) (x4:LI) (i5 i6 i7:Int)
noncomputable def l2:OB:=Vm.runT cfg fin k [.inLoop (sub [1,0,1,0,0] (bd f120)),.inBlock 0,.code (sub [1,1] (bd f120))] ⟨[vL x4,vI i5,vI i6,dD,dD,dD,dD,vI i7]++a9v 18,[]⟩
theorem l2_eq:l2 (k+1) x4 i5 i6 i7=if (decide (i7<(x4.length:Int)))=true then if 0≤i7∧i7<(x4.length:Int)then(Aa7.F ((x4.getD i7.toNat 0:Int),(0:Int),IntKind.i64.wrap (i6-1),())).bind fun r8=>if (!r8.1.1)=true then some ((false,()),())else l2 k x4 i5 i6 (IntKind.i64.wrap (i7+1))else none else some (((x4.length:Int)==i5,()),()):=by kernel_rfl
variable (v_1:LI) (n_2 p_3:Int)
noncomputable def T:OB:=l2 k v_1 n_2 p_3 (0:Int)
theorem of {r} (h:Ev (fun k=>T k v_1 n_2 p_3) r):F (v_1,n_2,p_3,())=some r:=Ev.run (fun k=>by kernel_rfl) h
theorem S:a3L prog ⟨120,sig,F⟩:=sound_k (res:=[.tmp 6]) func120 (cok (cM ⟨Aa7.S,nM⟩))
end Ah6
namespace Ae5
noncomputable def sig:Sig:=⟨[qC,pI],[oL]⟩
noncomputable def cfg:Cfg:=cl (cx []) fun id=>match id with|3=>([0,1,5,6],[20])|_=>([],[])
noncomputable def fin:=finK cfg.c sig [.tmp 4]
noncomputable def F (d:LL×Int×Unit):OL:=anyK (a9n cfg fin (bd f127) (a6P sig.ps d 33))
variable (k:Nat) (x3:LL) (i4 i5:Int) (x6:LI)
noncomputable def l3:OL:=Vm.runT cfg fin k [.inLoop (sub [1,1,0,1,0,0] (bd f127)),.inBlock 0,.code (sub [1,1,1] (bd f127))] ⟨[.rptr false [cQ x3],vI i4,dD,dD,dD,.view 20 (.root 0) 1 false,vI i5]++a9v 26,[(20,⟨false,[dL x6]⟩)]⟩
theorem l3_eq:l3 (k+1) x3 i4 i5 x6=if (decide (i5<(x3.length:Int)))=true then if 0≤i5∧i5<(x3.length:Int)then if (((x3.getD i5.toNat ([]:LI)).length:Int)==(IntKind.i64.wrap (i4+1)))=true then if x6.length+[i5].length≤bigA then l3 k x3 i4 (IntKind.i64.wrap (i5+1)) (x6++[i5])else none else l3 k x3 i4 (IntKind.i64.wrap (i5+1)) x6 else none else some ((x6,()),()):=by kernel_rfl
variable (c_1:LL) (dimension_2:Int)
noncomputable def T:OL:=l3 k c_1 dimension_2 (0:Int) ([]:LI)
theorem of {r} (h:Ev (fun k=>T k c_1 dimension_2) r):F (c_1,dimension_2,())=some r:=Ev.run (fun k=>by kernel_rfl) h
theorem S:a3L prog ⟨127,sig,F⟩:=sound_k (res:=[.tmp 4]) func127 (cok nM)
end Ae5
namespace Ad4
noncomputable def sig:Sig:=⟨[qC,pL,pI],[oI]⟩
noncomputable def cfg:Cfg:=cl (cx [⟨127,Ae5.sig,Ae5.F⟩]) fun id=>match id with|4=>([1,7,8,9],[28])|_=>([],[])
noncomputable def fin:=finK cfg.c sig [.tmp 6]
noncomputable def F (d:LL×LI×Int×Unit):OI:=anyK (a9n cfg fin (bd f121) (a6P sig.ps d 29))
variable (k:Nat) (x5:LI) (i6 i7:Int) (x8:LI)
noncomputable def l4:OI:=Vm.runT cfg fin k [.inLoop (sub [1,1,1,0,1,0,0] (bd f121)),.inBlock 0,.code (sub [1,1,1,1] (bd f121))] ⟨[dD,vL x5,dD,dD,dD,dD,dD,.view 28 (.root 0) 1 false,vI i6,vI i7]++a9v 19,[(28,⟨false,[dL x8]⟩)]⟩
theorem l4_eq:l4 (k+1) x5 i6 i7 x8=if (decide (i7<(x8.length:Int)))=true then if 0≤i7∧i7<(x8.length:Int)then if 0≤(x8.getD i7.toNat 0:Int)∧(x8.getD i7.toNat 0:Int)<(x5.length:Int)then l4 k x5 (IntKind.i64.wrap (i6+(x5.getD (x8.getD i7.toNat 0:Int).toNat 0))) (IntKind.i64.wrap (i7+1)) x8 else none else none else some ((i6,()),()):=by kernel_rfl
variable (c_1:LL) (stalks_2:LI) (k_3:Int)
noncomputable def T:OI:=(Ae5.F (c_1,k_3,())).bind fun r4=>l4 k stalks_2 (0:Int) (0:Int) r4.1.1
theorem of {r} (h:Ev (fun k=>T k c_1 stalks_2 k_3) r):F (c_1,stalks_2,k_3,())=some r:=Ev.run (fun k=>by kernel_rfl) h
theorem S:a3L prog ⟨121,sig,F⟩:=sound_k (res:=[.tmp 6]) func121 (cok (cM ⟨Ae5.S,nM⟩))
end Ad4
namespace Aj3
noncomputable def sig:Sig:=⟨[qC,pL],[oB]⟩
noncomputable def cfg:Cfg:=cl (cx [⟨120,Ah6.sig,Ah6.F⟩,⟨121,Ad4.sig,Ad4.F⟩]) fun id=>match id with|4=>([0,1,5],[])|_=>([],[])
noncomputable def fin:=finK cfg.c sig [.tmp 4]
noncomputable def F (d:LL×LI×Unit):OB:=anyK (a9n cfg fin (bd f76) (a6P sig.ps d 23))
variable (k:Nat) (x4:LL) (x5:LI) (i6:Int)
noncomputable def l4:OB:=Vm.runT cfg fin k [.inLoop (sub [1,1,0,1,0,0] (bd f76)),.inBlock 0,.code (sub [1,1,1] (bd f76))] ⟨[.rptr false [cQ x4],vL x5,dD,dD,dD,vI i6]++a9v 17,[]⟩
theorem l4_eq:l4 (k+1) x4 x5 i6=if (decide (i6≤3))=true then(Ad4.F (x4,x5,i6,())).bind fun r7=>if (decide (r7.1.1>32))=true then some ((false,()),())else l4 k x4 x5 (IntKind.i64.wrap (i6+1))else some ((true,()),()):=by kernel_rfl
variable (c_1:LL) (stalks_2:LI)
noncomputable def T:OB:=(Ah6.F (stalks_2,(c_1.length:Int),(4:Int),())).bind fun r3=>if (!r3.1.1)=true then some ((false,()),())else l4 k c_1 stalks_2 (0:Int)
theorem of {r} (h:Ev (fun k=>T k c_1 stalks_2) r):F (c_1,stalks_2,())=some r:=Ev.run (fun k=>by kernel_rfl) h
theorem S:a3L prog ⟨76,sig,F⟩:=sound_k (res:=[.tmp 4]) func76 (cok (cM ⟨Ah6.S,cM ⟨Ad4.S,nM⟩⟩))
end Aj3
namespace Ab8
noncomputable def sig:Sig:=⟨[qC,pI,pI],[oI]⟩
noncomputable def cfg:Cfg:=cl (cx []) fun id=>match id with|3=>([0,1,2,7,8],[])|_=>([],[])
noncomputable def fin:=finK cfg.c sig [.tmp 6]
noncomputable def F (d:LL×Int×Int×Unit):OI:=anyK (a9n cfg fin (bd f79) (a6P sig.ps d 36))
variable (k:Nat) (x4:LL) (i5 i6 i7 i8:Int)
noncomputable def l3:OI:=Vm.runT cfg fin k [.inLoop (sub [1,1,0,1,0,0] (bd f79)),.inBlock 0,.code (sub [1,1,1] (bd f79))] ⟨[.rptr false [cQ x4],vI i5,vI i6,dD,dD,dD,dD,vI i7,vI i8]++a9v 27,[]⟩
theorem l3_eq:l3 (k+1) x4 i5 i6 i7 i8=if (decide (i8<i5))=true then if 0≤i8∧i8<(x4.length:Int)then if (decide (((x4.getD i8.toNat ([]:LI)).length:Int)>1))=true then if 0≤i8∧i8<(x4.length:Int)then l3 k x4 i5 i6 (IntKind.i64.wrap (i7+((x4.getD i8.toNat ([]:LI)).length:Int))) (IntKind.i64.wrap (i8+1))else none else l3 k x4 i5 i6 i7 (IntKind.i64.wrap (i8+1))else none else some ((IntKind.i64.wrap (i7+i6),()),()):=by kernel_rfl
variable (c_1:LL) (simplex_2 i_3:Int)
noncomputable def T:OI:=l3 k c_1 simplex_2 i_3 (0:Int) (0:Int)
theorem of {r} (h:Ev (fun k=>T k c_1 simplex_2 i_3) r):F (c_1,simplex_2,i_3,())=some r:=Ev.run (fun k=>by kernel_rfl) h
theorem S:a3L prog ⟨79,sig,F⟩:=sound_k (res:=[.tmp 6]) func79 (cok nM)
end Ab8
namespace Ar9
noncomputable def sig:Sig:=⟨[qC],[oI]⟩
noncomputable def cfg:Cfg:=cf (cx [⟨79,Ab8.sig,Ab8.F⟩])
noncomputable def fin:=finK cfg.c sig [.tmp 2]
noncomputable def F (d:LL×Unit):OI:=anyK (a9n cfg fin (bd f77) (a6P sig.ps d 10))
variable (c_1:LL)
noncomputable def T:OI:=(Ab8.F (c_1,(c_1.length:Int),(0:Int),())).bind fun r2=>some ((r2.1.1,()),())
theorem eq:F (c_1,())=T c_1:=eq_any fun k=>by kernel_rfl
theorem S:a3L prog ⟨77,sig,F⟩:=sound_k (res:=[.tmp 2]) func77 (cok (cM ⟨Ab8.S,nM⟩))
end Ar9
namespace Aa2
noncomputable def sig:Sig:=⟨[qC,pI],[oL]⟩
noncomputable def cfg:Cfg:=cl (cx [⟨54,Aa1.sig,Aa1.F⟩,⟨55,Ai2.sig,Ai2.F⟩]) fun id=>match id with|4=>([0,5,6,7],[24])|_=>([],[])
noncomputable def fin:=finK cfg.c sig [.tmp 4]
noncomputable def F (d:LL×Int×Unit):OL:=anyK (a9n cfg fin (bd f122) (a6P sig.ps d 36))
variable (k:Nat) (x3:LL) (x4:LI) (i5:Int) (x6:LI)
noncomputable def l4:OL:=Vm.runT cfg fin k [.inLoop (sub [1,1,1,0,1,0,0] (bd f122)),.inBlock 0,.code (sub [1,1,1,1] (bd f122))] ⟨[.rptr false [cQ x3],dD,dD,dD,dD,vL x4,.view 24 (.root 0) 1 false,vI i5]++a9v 28,[(24,⟨false,[dL x6]⟩)]⟩
theorem l4_eq:l4 (k+1) x3 x4 i5 x6=if (decide (i5<(x4.length:Int)))=true then if (decide ((x4.length:Int)>1))=true then(Ai2.F (x4,i5,())).bind fun r7=>(Aa1.F (x3,r7.1.1,())).bind fun r8=>if x6.length+[r8.1.1].length≤bigA then l4 k x3 x4 (IntKind.i64.wrap (i5+1)) (x6++[r8.1.1])else none else some ((x6,()),())else some ((x6,()),()):=by kernel_rfl
variable (c_1:LL) (k_2:Int)
noncomputable def T:OL:=if 0≤k_2∧k_2<(c_1.length:Int)then l4 k c_1 (c_1.getD k_2.toNat ([]:LI)) (0:Int) ([]:LI)else none
theorem of {r} (h:Ev (fun k=>T k c_1 k_2) r):F (c_1,k_2,())=some r:=Ev.run (fun k=>by kernel_rfl) h
theorem S:a3L prog ⟨122,sig,F⟩:=sound_k (res:=[.tmp 4]) func122 (cok (cM ⟨Aa1.S,cM ⟨Ai2.S,nM⟩⟩))
end Aa2
namespace Aq2
noncomputable def sig:Sig:=⟨[qM],[oB]⟩
noncomputable def cfg:Cfg:=cf (cx [⟨75,Ak1.sig,Ak1.F⟩,⟨82,Aa7.sig,Aa7.F⟩,⟨120,Ah6.sig,Ah6.F⟩])
noncomputable def fin:=finK cfg.c sig [.tmp 2]
noncomputable def F (d:MX×Unit):OB:=anyK (a9n cfg fin (bd f123) (a6P sig.ps d 42))
variable (m_1 m_2 m_3:Int) (m_4:LI)
noncomputable def T:OB:=(Ak1.F (m_1,())).bind fun r5=>if r5.1.1=true then(Aa7.F (m_2,(0:Int),(32:Int),())).bind fun r6=>if r6.1.1=true then(Aa7.F (m_3,(0:Int),(32:Int),())).bind fun r7=>if r7.1.1=true then(Ah6.F (m_4,IntKind.i64.wrap (m_2*m_3),m_1,())).bind fun r8=>some ((r8.1.1,()),())else some ((false,()),())else some ((false,()),())else some ((false,()),())
theorem eq:F ((m_1,(m_2,(m_3,m_4))),())=T m_1 m_2 m_3 m_4:=eq_any fun k=>by kernel_rfl
theorem S:a3L prog ⟨123,sig,F⟩:=sound_k (res:=[.tmp 2]) func123 (cok (cM ⟨Ak1.S,cM ⟨Aa7.S,cM ⟨Ah6.S,nM⟩⟩⟩))
end Aq2
namespace Aq5
noncomputable def sig:Sig:=⟨[qS,pI,pI,qM],[oB]⟩
noncomputable def cfg:Cfg:=cf (cx [⟨122,Aa2.sig,Aa2.F⟩,⟨123,Aq2.sig,Aq2.F⟩])
noncomputable def fin:=finK cfg.c sig [.tmp 8]
noncomputable def F (d:SF×Int×Int×MX×Unit):OB:=anyK (a9n cfg fin (bd f78) (a6P sig.ps d 59))
noncomputable def T (s_1:LL) (s_2:Int) (s_3:LI) (s_4:LM) (simplex_5 i_6 m_7 m_8 m_9:Int) (m_10:LI):OB:=(Aa2.F (s_1,simplex_5,())).bind fun r11=>if 0≤i_6∧i_6<(r11.1.1.length:Int)then(Aq2.F ((m_7,(m_8,(m_9,m_10))),())).bind fun r12=>if r12.1.1=true then if (m_7==s_2)=true then if 0≤simplex_5∧simplex_5<(s_3.length:Int)then if (m_8==(s_3.getD simplex_5.toNat 0:Int))=true then if 0≤(r11.1.1.getD i_6.toNat 0:Int)∧(r11.1.1.getD i_6.toNat 0:Int)<(s_3.length:Int)then some ((m_9==(s_3.getD (r11.1.1.getD i_6.toNat 0:Int).toNat 0),()),())else none else some ((false,()),())else none else some ((false,()),())else some ((false,()),())else none
theorem eq (s_1:LL) (s_2:Int) (s_3:LI) (s_4:LM) (simplex_5 i_6 m_7 m_8 m_9:Int) (m_10:LI):F ((s_1,(s_2,(s_3,s_4))),simplex_5,i_6,(m_7,(m_8,(m_9,m_10))),())=T s_1 s_2 s_3 s_4 simplex_5 i_6 m_7 m_8 m_9 m_10:=eq_any fun k=>by kernel_rfl
theorem S:a3L prog ⟨78,sig,F⟩:=sound_k (res:=[.tmp 8]) func78 (cok (cM ⟨Aa2.S,cM ⟨Aq2.S,nM⟩⟩))
end Aq5
namespace Aa8
noncomputable def sig:Sig:=⟨[qS],[oB]⟩
noncomputable def cfg:Cfg:=cl (cx [⟨37,Aa3.sig,Aa3.F⟩,⟨75,Ak1.sig,Ak1.F⟩,⟨76,Aj3.sig,Aj3.F⟩,⟨77,Ar9.sig,Ar9.F⟩,⟨78,Aq5.sig,Aq5.F⟩,⟨79,Ab8.sig,Ab8.F⟩]) fun id=>match id with|4=>([0,3],[])|7=>([0,3,4],[])|_=>([],[])
noncomputable def fin:=finK cfg.c sig [.tmp 2]
noncomputable def F (d:SF×Unit):OB:=anyK (a9n cfg fin (bd f50) (a6P sig.ps d 92))
variable (k:Nat) (x9:LL) (i10:Int) (x11:LI) (x12:LM) (i13:Int)
noncomputable def l4:OB:=Vm.runT cfg fin k [.inLoop (sub [1,1,0,1,0,0] (bd f50)),.inBlock 0,.code (sub [1,1,1] (bd f50))] ⟨[.rptr false [cQ x9,cI i10,cL x11,⟨(.sl TMatrix),.sh,x12⟩],dD,dD,vI i13]++a9v 88,[]⟩
variable (x14:LL) (i15:Int) (x16:LI) (x17:LM) (i18 i19:Int)
noncomputable def l7:OB:=Vm.runT cfg fin k [.inLoop (sub [1,1,0,1,0,0,1,0,0,1,0,0] (bd f50)),.inBlock 2,.inBlock 1,.code (sub [1,1,0,1,0,0,1,1] (bd f50)),.inLoop (sub [1,1,0,1,0,0] (bd f50)),.inBlock 0,.code (sub [1,1,1] (bd f50))] ⟨[.rptr false [cQ x14,cI i15,cL x16,⟨(.sl TMatrix),.sh,x17⟩],dD,dD,vI i18,vI i19]++a9v 87,[]⟩
theorem l4_eq:l4 (k+1) x9 i10 x11 x12 i13=if (decide (i13<(x9.length:Int)))=true then l7 k x9 i10 x11 x12 i13 (0:Int)else some ((true,()),()):=by kernel_rfl
theorem l7_eq:l7 (k+1) x14 i15 x16 x17 i18 i19=if 0≤i18∧i18<(x14.length:Int)then if (decide (i19<((x14.getD i18.toNat ([]:LI)).length:Int)))=true then if 0≤i18∧i18<(x14.length:Int)then if (decide (((x14.getD i18.toNat ([]:LI)).length:Int)>1))=true then(Ab8.F (x14,i18,i19,())).bind fun r20=>if 0≤r20.1.1∧r20.1.1<(x17.length:Int)then(Aq5.F ((x14,(i15,(x16,x17))),i18,i19,x17.getD r20.1.1.toNat (0,0,0,([]:LI)),())).bind fun r21=>if (!r21.1.1)=true then some ((false,()),())else l7 k x14 i15 x16 x17 i18 (IntKind.i64.wrap (i19+1))else none else l4 k x14 i15 x16 x17 (IntKind.i64.wrap (i18+1))else none else l4 k x14 i15 x16 x17 (IntKind.i64.wrap (i18+1))else none:=by kernel_rfl
variable (toArray_1:LL) (toArray_2:Int) (toArray_3:LI) (toArray_4:LM)
noncomputable def T:OB:=(Aa3.F (toArray_1,())).bind fun r5=>if (!r5.1.1)=true then some ((false,()),())else(Ak1.F (toArray_2,())).bind fun r6=>if (!r6.1.1)=true then some ((false,()),())else(Aj3.F (toArray_1,toArray_3,())).bind fun r7=>if (!r7.1.1)=true then some ((false,()),())else(Ar9.F (toArray_1,())).bind fun r8=>if ((toArray_4.length:Int)!=r8.1.1)=true then some ((false,()),())else l4 k toArray_1 toArray_2 toArray_3 toArray_4 (0:Int)
theorem of {r} (h:Ev (fun k=>T k toArray_1 toArray_2 toArray_3 toArray_4) r):F ((toArray_1,(toArray_2,(toArray_3,toArray_4))),())=some r:=Ev.run (fun k=>by kernel_rfl) h
theorem S:a3L prog ⟨50,sig,F⟩:=sound_k (res:=[.tmp 2]) func50 (cok (cM ⟨Aa3.S,cM ⟨Ak1.S,cM ⟨Aj3.S,cM ⟨Ar9.S,cM ⟨Aq5.S,cM ⟨Ab8.S,nM⟩⟩⟩⟩⟩⟩))
end Aa8
namespace Ad0
noncomputable def sig:Sig:=⟨[pI,pI,pI],[oM]⟩
noncomputable def cfg:Cfg:=cf (cx [])
noncomputable def fin:=finK cfg.c sig [.cell 6 70]
noncomputable def F (d:Int×Int×Int×Unit):OM:=anyK (a9n cfg fin (bd f126) (a6P sig.ps d 15))
variable (p_1 rows_2 columns_3:Int)
noncomputable def T:OM:=if 0≤(IntKind.i64.wrap (rows_2*columns_3))∧(IntKind.i64.wrap (rows_2*columns_3))≤(bigN:Int)then some (((p_1,(rows_2,(columns_3,List.replicate (IntKind.i64.wrap (rows_2*columns_3)).toNat (0:Int)))),()),())else none
theorem eq:F (p_1,rows_2,columns_3,())=T p_1 rows_2 columns_3:=eq_any fun k=>by kernel_rfl
theorem S:a3L prog ⟨126,sig,F⟩:=sound_k (res:=[.cell 6 70]) func126 (cok nM)
end Ad0
namespace Ac5
noncomputable def sig:Sig:=⟨[qM,qM],[oM]⟩
noncomputable def cfg:Cfg:=cl (cx [⟨126,Ad0.sig,Ad0.F⟩]) fun id=>match id with|3=>([0,1,4,5,6],[16,20])|6=>([0,1,4,5,6,7],[16,20])|10=>([0,1,4,5,6,7,8,9],[16,20])|_=>([],[])
noncomputable def fin:=finK cfg.c sig [.cell 4 70]
noncomputable def F (d:MX×MX×Unit):OM:=anyK (a9n cfg fin (bd f124) (a6P sig.ps d 96))
variable (k:Nat) (i10 i11 i12:Int) (x13:LI) (i14 i15 i16:Int) (x17:LI) (i18 i19 i20 i21:Int) (x22:LI) (i23 i24 i25:Int) (x26:LI)
noncomputable def l3:OM:=Vm.runT cfg fin k [.inLoop (sub [1,1,0,1,0,0] (bd f124)),.inBlock 0,.code (sub [1,1,1] (bd f124))] ⟨[.rptr false [cI i10,cI i11,cI i12,cL x13],.rptr false [cI i14,cI i15,cI i16,cL x17],dD,dD,.ref 16 (.root 0),.ref 20 (.root 0),vI i18]++a9v 89,[(16,⟨true,[cI i19,cI i20,cI i21,dL x22]⟩),(20,⟨true,[cI i23,cI i24,cI i25,dL x26]⟩)]⟩
variable (i27 i28 i29:Int) (x30:LI) (i31 i32 i33:Int) (x34:LI) (i35 i36 i37 i38 i39:Int) (x40:LI) (i41 i42 i43:Int) (x44:LI)
noncomputable def l6:OM:=Vm.runT cfg fin k [.inLoop (sub [1,1,0,1,0,0,1,0,0,1,0,0] (bd f124)),.inBlock 2,.inBlock 1,.code (sub [1,1,0,1,0,0,1,1] (bd f124)),.inLoop (sub [1,1,0,1,0,0] (bd f124)),.inBlock 0,.code (sub [1,1,1] (bd f124))] ⟨[.rptr false [cI i27,cI i28,cI i29,cL x30],.rptr false [cI i31,cI i32,cI i33,cL x34],dD,dD,.ref 16 (.root 0),.ref 20 (.root 0),vI i35,vI i36]++a9v 88,[(16,⟨true,[cI i37,cI i38,cI i39,dL x40]⟩),(20,⟨true,[cI i41,cI i42,cI i43,dL x44]⟩)]⟩
variable (i45 i46 i47:Int) (x48:LI) (i49 i50 i51:Int) (x52:LI) (i53 i54 i55 i56 i57 i58 i59:Int) (x60:LI) (i61 i62 i63:Int) (x64:LI)
noncomputable def l10:OM:=Vm.runT cfg fin k [.inLoop (sub [1,1,0,1,0,0,1,0,0,1,0,0,1,0,0,1,0,1,0,0] (bd f124)),.inBlock 4,.code (sub [1,1,0,1,0,0,1,0,0,1,0,0,1,0,0,1,1] (bd f124)),.inBlock 3,.code (sub [1,1,0,1,0,0,1,0,0,1,0,0,1,1] (bd f124)),.inLoop (sub [1,1,0,1,0,0,1,0,0,1,0,0] (bd f124)),.inBlock 2,.inBlock 1,.code (sub [1,1,0,1,0,0,1,1] (bd f124)),.inLoop (sub [1,1,0,1,0,0] (bd f124)),.inBlock 0,.code (sub [1,1,1] (bd f124))] ⟨[.rptr false [cI i45,cI i46,cI i47,cL x48],.rptr false [cI i49,cI i50,cI i51,cL x52],dD,dD,.ref 16 (.root 0),.ref 20 (.root 0),vI i53,vI i54,vI i55,vI i56]++a9v 86,[(16,⟨true,[cI i57,cI i58,cI i59,dL x60]⟩),(20,⟨true,[cI i61,cI i62,cI i63,dL x64]⟩)]⟩
theorem l3_eq:l3 (k+1) i10 i11 i12 x13 i14 i15 i16 x17 i18 i19 i20 i21 x22 i23 i24 i25 x26=if (decide (i18<i11))=true then l6 k i10 i11 i12 x13 i14 i15 i16 x17 i18 (0:Int) i19 i20 i21 x22 i23 i24 i25 x26 else some (((i23,(i24,(i25,x26))),()),()):=by kernel_rfl
theorem l6_eq:l6 (k+1) i27 i28 i29 x30 i31 i32 i33 x34 i35 i36 i37 i38 i39 x40 i41 i42 i43 x44=if (decide (i36<i33))=true then l10 k i27 i28 i29 x30 i31 i32 i33 x34 i35 i36 (0:Int) (0:Int) i37 i38 i39 x40 i41 i42 i43 x44 else l3 k i27 i28 i29 x30 i31 i32 i33 x34 (IntKind.i64.wrap (i35+1)) i37 i38 i39 x40 i41 i42 i43 x44:=by kernel_rfl
theorem l10_eq:l10 (k+1) i45 i46 i47 x48 i49 i50 i51 x52 i53 i54 i55 i56 i57 i58 i59 x60 i61 i62 i63 x64=if (decide (i56<i47))=true then if 0≤(IntKind.i64.wrap ((IntKind.i64.wrap (i53*i47))+i56))∧(IntKind.i64.wrap ((IntKind.i64.wrap (i53*i47))+i56))<(x48.length:Int)then if 0≤(IntKind.i64.wrap ((IntKind.i64.wrap (i56*i51))+i54))∧(IntKind.i64.wrap ((IntKind.i64.wrap (i56*i51))+i54))<(x52.length:Int)then l10 k i45 i46 i47 x48 i49 i50 i51 x52 i53 i54 (IntKind.i64.wrap (i55+(IntKind.i64.wrap ((x48.getD (IntKind.i64.wrap ((IntKind.i64.wrap (i53*i47))+i56)).toNat 0:Int)*(x52.getD (IntKind.i64.wrap ((IntKind.i64.wrap (i56*i51))+i54)).toNat 0:Int))))) (IntKind.i64.wrap (i56+1)) i57 i58 i59 x60 i61 i62 i63 x64 else none else none else if i45=0 then none else if 0≤(IntKind.i64.wrap ((IntKind.i64.wrap (i53*i51))+i54))∧(IntKind.i64.wrap ((IntKind.i64.wrap (i53*i51))+i54))<(x64.length:Int)then l6 k i45 i46 i47 x48 i49 i50 i51 x52 i53 (IntKind.i64.wrap (i54+1)) i57 i58 i59 x60 i61 i62 i63 (x64.set (IntKind.i64.wrap ((IntKind.i64.wrap (i53*i51))+i54)).toNat (i55.tmod i45))else none:=by kernel_rfl
variable (toArray_1 toArray_2 toArray_3:Int) (toArray_4:LI) (a_5 a_6 a_7:Int) (a_8:LI)
noncomputable def T:OM:=(Ad0.F (toArray_1,toArray_2,a_7,())).bind fun r9=>l3 k toArray_1 toArray_2 toArray_3 toArray_4 a_5 a_6 a_7 a_8 (0:Int) 0 0 0 ([]) r9.1.1.1 r9.1.1.2.1 r9.1.1.2.2.1 r9.1.1.2.2.2
theorem of {r} (h:Ev (fun k=>T k toArray_1 toArray_2 toArray_3 toArray_4 a_5 a_6 a_7 a_8) r):F ((toArray_1,(toArray_2,(toArray_3,toArray_4))),(a_5,(a_6,(a_7,a_8))),())=some r:=Ev.run (fun k=>by kernel_rfl) h
theorem S:a3L prog ⟨124,sig,F⟩:=sound_k (res:=[.cell 4 70]) func124 (cok (cM ⟨Ad0.S,nM⟩))
end Ac5
namespace Aa4
noncomputable def sig:Sig:=⟨[qS,pI,pI],[(.ptr,TMatrix,.sh)]⟩
noncomputable def cfg:Cfg:=cf (cx [⟨79,Ab8.sig,Ab8.F⟩])
noncomputable def fin:=finK cfg.c sig [.tmp 6]
noncomputable def F (d:SF×Int×Int×Unit):OM:=anyK (a9n cfg fin (bd f125) (a6P sig.ps d 18))
noncomputable def T (s_1:LL) (s_2:Int) (s_3:LI) (s_4:LM) (simplex_5 i_6:Int):OM:=(Ab8.F (s_1,simplex_5,i_6,())).bind fun r7=>if 0≤r7.1.1∧r7.1.1<(s_4.length:Int)then some ((s_4.getD r7.1.1.toNat (0,0,0,([]:LI)),()),())else none
theorem eq (s_1:LL) (s_2:Int) (s_3:LI) (s_4:LM) (simplex_5 i_6:Int):F ((s_1,(s_2,(s_3,s_4))),simplex_5,i_6,())=T s_1 s_2 s_3 s_4 simplex_5 i_6:=eq_any fun k=>by kernel_rfl
theorem S:a3L prog ⟨125,sig,F⟩:=sound_k (res:=[.tmp 6]) func125 (cok (cM ⟨Ab8.S,nM⟩))
end Aa4
namespace Ai3
noncomputable def sig:Sig:=⟨[qS,pI,pI,pI],[oM]⟩
noncomputable def cfg:Cfg:=cf (cx [⟨122,Aa2.sig,Aa2.F⟩,⟨124,Ac5.sig,Ac5.F⟩,⟨125,Aa4.sig,Aa4.F⟩])
noncomputable def fin:=finK cfg.c sig [.cell 8 70]
noncomputable def F (d:SF×Int×Int×Int×Unit):OM:=anyK (a9n cfg fin (bd f80) (a6P sig.ps d 32))
variable (s_1:LL) (s_2:Int) (s_3:LI) (s_4:LM) (simplex_5 i_6 j_7:Int)
noncomputable def T:OM:=(Aa2.F (s_1,simplex_5,())).bind fun r8=>if 0≤i_6∧i_6<(r8.1.1.length:Int)then if (decide (j_7>i_6))=true then(Aa4.F ((s_1,(s_2,(s_3,s_4))),simplex_5,i_6,())).bind fun r9=>(Aa4.F ((s_1,(s_2,(s_3,s_4))),(r8.1.1.getD i_6.toNat 0:Int),IntKind.i64.wrap (j_7-(1:Int)),())).bind fun r10=>(Ac5.F (r9.1.1,r10.1.1,())).bind fun r11=>some ((r11.1.1,()),())else(Aa4.F ((s_1,(s_2,(s_3,s_4))),simplex_5,i_6,())).bind fun r12=>(Aa4.F ((s_1,(s_2,(s_3,s_4))),(r8.1.1.getD i_6.toNat 0:Int),j_7,())).bind fun r13=>(Ac5.F (r12.1.1,r13.1.1,())).bind fun r14=>some ((r14.1.1,()),())else none
theorem eq:F ((s_1,(s_2,(s_3,s_4))),simplex_5,i_6,j_7,())=T s_1 s_2 s_3 s_4 simplex_5 i_6 j_7:=eq_any fun k=>by kernel_rfl
theorem S:a3L prog ⟨80,sig,F⟩:=sound_k (res:=[.cell 8 70]) func80 (cok (cM ⟨Aa2.S,cM ⟨Ac5.S,cM ⟨Aa4.S,nM⟩⟩⟩))
end Ai3
namespace Af0
noncomputable def sig:Sig:=⟨[qM,qM],[oB]⟩
noncomputable def cfg:Cfg:=cl (cx []) fun id=>match id with|4=>([0,1,5],[])|_=>([],[])
noncomputable def fin:=finK cfg.c sig [.tmp 4]
noncomputable def F (d:MX×MX×Unit):OB:=anyK (a9n cfg fin (bd f81) (a6P sig.ps d 74))
variable (k:Nat) (i9 i10 i11:Int) (x12:LI) (i13 i14 i15:Int) (x16:LI) (i17:Int)
noncomputable def l4:OB:=Vm.runT cfg fin k [.inLoop (sub [1,1,0,1,0,0] (bd f81)),.inBlock 0,.code (sub [1,1,1] (bd f81))] ⟨[.rptr false [cI i9,cI i10,cI i11,cL x12],.rptr false [cI i13,cI i14,cI i15,cL x16],dD,dD,dD,vI i17]++a9v 68,[]⟩
theorem l4_eq:l4 (k+1) i9 i10 i11 x12 i13 i14 i15 x16 i17=if (decide (i17<(x12.length:Int)))=true then if 0≤i17∧i17<(x12.length:Int)then if 0≤i17∧i17<(x16.length:Int)then if ((x12.getD i17.toNat 0:Int)!=(x16.getD i17.toNat 0:Int))=true then some ((false,()),())else l4 k i9 i10 i11 x12 i13 i14 i15 x16 (IntKind.i64.wrap (i17+1))else none else none else some ((true,()),()):=by kernel_rfl
variable (toArray_1 toArray_2 toArray_3:Int) (toArray_4:LI) (a_5 a_6 a_7:Int) (a_8:LI)
noncomputable def T:OB:=if (toArray_1 !=a_5)=true then some ((false,()),())else if (toArray_2 !=a_6)=true then some ((false,()),())else if (toArray_3 !=a_7)=true then some ((false,()),())else if ((toArray_4.length:Int)!=(a_8.length:Int))=true then some ((false,()),())else l4 k toArray_1 toArray_2 toArray_3 toArray_4 a_5 a_6 a_7 a_8 (0:Int)
theorem of {r} (h:Ev (fun k=>T k toArray_1 toArray_2 toArray_3 toArray_4 a_5 a_6 a_7 a_8) r):F ((toArray_1,(toArray_2,(toArray_3,toArray_4))),(a_5,(a_6,(a_7,a_8))),())=some r:=Ev.run (fun k=>by kernel_rfl) h
theorem S:a3L prog ⟨81,sig,F⟩:=sound_k (res:=[.tmp 4]) func81 (cok nM)
end Af0
namespace Ab9
noncomputable def sig:Sig:=⟨[qS],[oI,oI,oI]⟩
noncomputable def cfg:Cfg:=cl (cx [⟨80,Ai3.sig,Ai3.F⟩,⟨81,Af0.sig,Af0.F⟩]) fun id=>match id with|2=>([0,5],[])|6=>([0,5,6,7],[])|9=>([0,5,6,7,8],[])|_=>([],[])
noncomputable def fin:=finK cfg.c sig [.tmp 2,.tmp 3,.tmp 4]
noncomputable def F (d:SF×Unit):Option ((Int×Int×Int×Unit)×(Unit)):=anyK (a9n cfg fin (bd f51) (a6P sig.ps d 61))
variable (k:Nat) (x5:LL) (i6:Int) (x7:LI) (x8:LM) (i9:Int)
noncomputable def l2:Option ((Int×Int×Int×Unit)×(Unit)):=Vm.runT cfg fin k [.inLoop (sub [1,0,1,0,0] (bd f51)),.inBlock 0,.code (sub [1,1] (bd f51))] ⟨[.rptr false [cQ x5,cI i6,cL x7,⟨(.sl TMatrix),.sh,x8⟩],dD,dD,dD,dD,vI i9]++a9v 55,[]⟩
variable (x10:LL) (i11:Int) (x12:LI) (x13:LM) (i14 i15 i16:Int)
noncomputable def l6:Option ((Int×Int×Int×Unit)×(Unit)):=Vm.runT cfg fin k [.inLoop (sub [1,0,1,0,0,1,0,0,1,1,0,0] (bd f51)),.inBlock 2,.inBlock 1,.code (sub [1,0,1,0,0,1,1] (bd f51)),.inLoop (sub [1,0,1,0,0] (bd f51)),.inBlock 0,.code (sub [1,1] (bd f51))] ⟨[.rptr false [cQ x10,cI i11,cL x12,⟨(.sl TMatrix),.sh,x13⟩],dD,dD,dD,dD,vI i14,vI i15,vI i16]++a9v 53,[]⟩
variable (x17:LL) (i18:Int) (x19:LI) (x20:LM) (i21 i22 i23 i24:Int)
noncomputable def l9:Option ((Int×Int×Int×Unit)×(Unit)):=Vm.runT cfg fin k [.inLoop (sub [1,0,1,0,0,1,0,0,1,1,0,0,1,0,0,1,0,0] (bd f51)),.inBlock 4,.inBlock 3,.code (sub [1,0,1,0,0,1,0,0,1,1,0,0,1,1] (bd f51)),.inLoop (sub [1,0,1,0,0,1,0,0,1,1,0,0] (bd f51)),.inBlock 2,.inBlock 1,.code (sub [1,0,1,0,0,1,1] (bd f51)),.inLoop (sub [1,0,1,0,0] (bd f51)),.inBlock 0,.code (sub [1,1] (bd f51))] ⟨[.rptr false [cQ x17,cI i18,cL x19,⟨(.sl TMatrix),.sh,x20⟩],dD,dD,dD,dD,vI i21,vI i22,vI i23,vI i24]++a9v 52,[]⟩
theorem l2_eq:l2 (k+1) x5 i6 x7 x8 i9=if (decide (i9<(x5.length:Int)))=true then if 0≤i9∧i9<(x5.length:Int)then l6 k x5 i6 x7 x8 i9 ((x5.getD i9.toNat ([]:LI)).length:Int) (0:Int)else none else some (((-1:Int),((0:Int),((0:Int),()))),()):=by kernel_rfl
theorem l6_eq:l6 (k+1) x10 i11 x12 x13 i14 i15 i16=if (decide (i16<i15))=true then if (decide (i15>2))=true then l9 k x10 i11 x12 x13 i14 i15 i16 (IntKind.i64.wrap (i16+1))else l2 k x10 i11 x12 x13 (IntKind.i64.wrap (i14+1))else l2 k x10 i11 x12 x13 (IntKind.i64.wrap (i14+1)):=by kernel_rfl
theorem l9_eq:l9 (k+1) x17 i18 x19 x20 i21 i22 i23 i24=if (decide (i24<i22))=true then(Ai3.F ((x17,(i18,(x19,x20))),i21,i23,i24,())).bind fun r25=>(Ai3.F ((x17,(i18,(x19,x20))),i21,i24,i23,())).bind fun r26=>(Af0.F (r25.1.1,r26.1.1,())).bind fun r27=>if (!r27.1.1)=true then some ((i21,(i23,(i24,()))),())else l9 k x17 i18 x19 x20 i21 i22 i23 (IntKind.i64.wrap (i24+1))else l6 k x17 i18 x19 x20 i21 i22 (IntKind.i64.wrap (i23+1)):=by kernel_rfl
variable (s_1:LL) (s_2:Int) (s_3:LI) (s_4:LM)
noncomputable def T:Option ((Int×Int×Int×Unit)×(Unit)):=l2 k s_1 s_2 s_3 s_4 (0:Int)
theorem of {r} (h:Ev (fun k=>T k s_1 s_2 s_3 s_4) r):F ((s_1,(s_2,(s_3,s_4))),())=some r:=Ev.run (fun k=>by kernel_rfl) h
theorem S:a3L prog ⟨51,sig,F⟩:=sound_k (res:=[.tmp 2,.tmp 3,.tmp 4]) func51 (cok (cM ⟨Ai3.S,cM ⟨Af0.S,nM⟩⟩))
end Ab9
namespace Ad1
noncomputable def sig:Sig:=⟨[qS],[oB]⟩
noncomputable def cfg:Cfg:=cf (cx [⟨50,Aa8.sig,Aa8.F⟩,⟨51,Ab9.sig,Ab9.F⟩])
noncomputable def fin:=finK cfg.c sig [.tmp 2]
noncomputable def F (d:SF×Unit):OB:=anyK (a9n cfg fin (bd f36) (a6P sig.ps d 17))
variable (s_1:LL) (s_2:Int) (s_3:LI) (s_4:LM)
noncomputable def T:OB:=(Aa8.F ((s_1,(s_2,(s_3,s_4))),())).bind fun r5=>if (!r5.1.1)=true then some ((false,()),())else(Ab9.F ((s_1,(s_2,(s_3,s_4))),())).bind fun r6=>some ((decide (r6.1.1<0),()),())
theorem eq:F ((s_1,(s_2,(s_3,s_4))),())=T s_1 s_2 s_3 s_4:=eq_any fun k=>by kernel_rfl
theorem S:a3L prog ⟨36,sig,F⟩:=sound_k (res:=[.tmp 2]) func36 (cok (cM ⟨Aa8.S,cM ⟨Ab9.S,nM⟩⟩))
end Ad1
namespace Ad2
noncomputable def sig:Sig:=⟨[qC,qC],[oC]⟩
noncomputable def cfg:Cfg:=cl (cx [⟨54,Aa1.sig,Aa1.F⟩,⟨56,Ab2.sig,Ab2.F⟩]) fun id=>match id with|3=>([0,1,4,5,6],[16,20])|_=>([],[])
noncomputable def fin:=finK cfg.c sig [.cell 4 33]
noncomputable def F (d:LL×LL×Unit):OQ:=anyK (a9n cfg fin (bd f39) (a6P sig.ps d 40))
variable (k:Nat) (x3 x4:LL) (i5:Int) (x6 x7:LL)
noncomputable def l3:OQ:=Vm.runT cfg fin k [.inLoop (sub [1,1,0,1,0,0] (bd f39)),.inBlock 0,.code (sub [1,1,1] (bd f39))] ⟨[.rptr false [cQ x3],.rptr false [cQ x4],dD,dD,.ref 16 (.root 0),.view 20 (.root 0) 1 false,vI i5]++a9v 33,[(16,⟨true,[dQ x6]⟩),(20,⟨false,[dQ x7]⟩)]⟩
theorem l3_eq:l3 (k+1) x3 x4 i5 x6 x7=if (decide (i5<(x3.length:Int)))=true then if 0≤i5∧i5<(x3.length:Int)then(Aa1.F (x4,x3.getD i5.toNat ([]:LI),())).bind fun r8=>if (decide (r8.1.1≥0))=true then if 0≤i5∧i5<(x3.length:Int)then(Ab2.F (x3.getD i5.toNat ([]:LI),())).bind fun r9=>if x7.length+[r9.1.1].length≤bigA then l3 k x3 x4 (IntKind.i64.wrap (i5+1)) x6 (x7++[r9.1.1])else none else none else l3 k x3 x4 (IntKind.i64.wrap (i5+1)) x6 x7 else none else some ((x7,()),()):=by kernel_rfl
variable (a_1 b_2:LL)
noncomputable def T:OQ:=l3 k a_1 b_2 (0:Int) ([]:LL) ([]:LL)
theorem of {r} (h:Ev (fun k=>T k a_1 b_2) r):F (a_1,b_2,())=some r:=Ev.run (fun k=>by kernel_rfl) h
theorem S:a3L prog ⟨39,sig,F⟩:=sound_k (res:=[.cell 4 33]) func39 (cok (cM ⟨Aa1.S,cM ⟨Ab2.S,nM⟩⟩))
end Ad2
namespace Ae7
noncomputable def sig:Sig:=⟨[qC,qC,qC],[oB]⟩
noncomputable def cfg:Cfg:=cl (cx [⟨39,Ad2.sig,Ad2.F⟩,⟨54,Aa1.sig,Aa1.F⟩]) fun id=>match id with|6=>([0,1,2,9],[])|_=>([],[])
noncomputable def fin:=finK cfg.c sig [.tmp 6]
noncomputable def F (d:LL×LL×LL×Unit):OB:=anyK (a9n cfg fin (bd f38) (a6P sig.ps d 67))
variable (k:Nat) (x6 x7 x8:LL) (i9:Int)
noncomputable def l6:OB:=Vm.runT cfg fin k [.inLoop (sub [1,1,1,1,0,1,0,0] (bd f38)),.inBlock 0,.code (sub [1,1,1,1,1] (bd f38))] ⟨[.rptr false [cQ x6],.rptr false [cQ x7],.rptr false [cQ x8],dD,dD,dD,dD,dD,dD,vI i9]++a9v 57,[]⟩
theorem l6_eq:l6 (k+1) x6 x7 x8 i9=if (decide (i9<(x6.length:Int)))=true then if 0≤i9∧i9<(x6.length:Int)then(Aa1.F (x7,x6.getD i9.toNat ([]:LI),())).bind fun r10=>if (decide (r10.1.1<0))=true then if 0≤i9∧i9<(x6.length:Int)then(Aa1.F (x8,x6.getD i9.toNat ([]:LI),())).bind fun r11=>if (decide (r11.1.1<0))=true then some ((false,()),())else l6 k x6 x7 x8 (IntKind.i64.wrap (i9+1))else none else l6 k x6 x7 x8 (IntKind.i64.wrap (i9+1))else none else some ((true,()),()):=by kernel_rfl
variable (toArray_1 a_2 a_3:LL)
noncomputable def T:OB:=(Ad2.F (a_2,toArray_1,())).bind fun r4=>(Ad2.F (a_3,toArray_1,())).bind fun r5=>if ((r4.1.1.length:Int)!=(a_2.length:Int))=true then some ((false,()),())else if ((r5.1.1.length:Int)!=(a_3.length:Int))=true then some ((false,()),())else l6 k toArray_1 a_2 a_3 (0:Int)
theorem of {r} (h:Ev (fun k=>T k toArray_1 a_2 a_3) r):F (toArray_1,a_2,a_3,())=some r:=Ev.run (fun k=>by kernel_rfl) h
theorem S:a3L prog ⟨38,sig,F⟩:=sound_k (res:=[.tmp 6]) func38 (cok (cM ⟨Ad2.S,cM ⟨Aa1.S,nM⟩⟩))
end Ae7
namespace Al6
noncomputable def sig:Sig:=⟨[qS,qC,qC],[oI]⟩
noncomputable def cfg:Cfg:=cf (cx [⟨36,Ad1.sig,Ad1.F⟩,⟨37,Aa3.sig,Aa3.F⟩,⟨38,Ae7.sig,Ae7.F⟩])
noncomputable def fin:=finK cfg.c sig [.tmp 6]
noncomputable def F (d:SF×LL×LL×Unit):OI:=anyK (a9n cfg fin (bd f23) (a6P sig.ps d 27))
variable (s_1:LL) (s_2:Int) (s_3:LI) (s_4:LM) (a_5 b_6:LL)
noncomputable def T:OI:=(Ad1.F ((s_1,(s_2,(s_3,s_4))),())).bind fun r7=>if (!r7.1.1)=true then some ((1,()),())else(Aa3.F (a_5,())).bind fun r8=>if (!r8.1.1)=true then some ((1,()),())else(Aa3.F (b_6,())).bind fun r9=>if (!r9.1.1)=true then some ((1,()),())else(Ae7.F (s_1,a_5,b_6,())).bind fun r10=>if (!r10.1.1)=true then some ((6,()),())else some ((0,()),())
theorem eq:F ((s_1,(s_2,(s_3,s_4))),a_5,b_6,())=T s_1 s_2 s_3 s_4 a_5 b_6:=eq_any fun k=>by kernel_rfl
theorem S:a3L prog ⟨23,sig,F⟩:=sound_k (res:=[.tmp 6]) func23 (cok (cM ⟨Ad1.S,cM ⟨Aa3.S,cM ⟨Ae7.S,nM⟩⟩⟩))
end Al6
namespace Ag2
noncomputable def sig:Sig:=⟨[qS,pI],[oI]⟩
noncomputable def cfg:Cfg:=cl (cx []) fun id=>match id with|3=>([0,1,5,6],[])|_=>([],[])
noncomputable def fin:=finK cfg.c sig [.tmp 4]
noncomputable def F (d:SF×Int×Unit):OI:=anyK (a9n cfg fin (bd f128) (a6P sig.ps d 41))
variable (k:Nat) (x6:LL) (i7:Int) (x8:LI) (x9:LM) (i10 i11 i12:Int)
noncomputable def l3:OI:=Vm.runT cfg fin k [.inLoop (sub [1,1,0,1,0,0] (bd f128)),.inBlock 0,.code (sub [1,1,1] (bd f128))] ⟨[.rptr false [cQ x6,cI i7,cL x8,⟨(.sl TMatrix),.sh,x9⟩],vI i10,dD,dD,dD,vI i11,vI i12]++a9v 34,[]⟩
theorem l3_eq:l3 (k+1) x6 i7 x8 x9 i10 i11 i12=if (decide (i12<i10))=true then if 0≤i12∧i12<(x6.length:Int)then if 0≤i10∧i10<(x6.length:Int)then if (((x6.getD i12.toNat ([]:LI)).length:Int)==((x6.getD i10.toNat ([]:LI)).length:Int))=true then if 0≤i12∧i12<(x8.length:Int)then l3 k x6 i7 x8 x9 i10 (IntKind.i64.wrap (i11+(x8.getD i12.toNat 0:Int))) (IntKind.i64.wrap (i12+1))else none else l3 k x6 i7 x8 x9 i10 i11 (IntKind.i64.wrap (i12+1))else none else none else some ((i11,()),()):=by kernel_rfl
variable (s_1:LL) (s_2:Int) (s_3:LI) (s_4:LM) (simplex_5:Int)
noncomputable def T:OI:=l3 k s_1 s_2 s_3 s_4 simplex_5 (0:Int) (0:Int)
theorem of {r} (h:Ev (fun k=>T k s_1 s_2 s_3 s_4 simplex_5) r):F ((s_1,(s_2,(s_3,s_4))),simplex_5,())=some r:=Ev.run (fun k=>by kernel_rfl) h
theorem S:a3L prog ⟨128,sig,F⟩:=sound_k (res:=[.tmp 4]) func128 (cok nM)
end Ag2
namespace Aq4
noncomputable def sig:Sig:=⟨[pI,pI],[oI]⟩
noncomputable def cfg:Cfg:=cf (cx [])
noncomputable def fin:=finK cfg.c sig [.tmp 4]
noncomputable def F (d:Int×Int×Unit):OI:=anyK (a9n cfg fin (bd f129) (a6P sig.ps d 12))
variable (i_1 p_2:Int)
noncomputable def T:OI:=if (2:Int)=0 then none else if ((i_1.tmod (2:Int))==0)=true then if p_2=0 then none else some (((1:Int).tmod p_2,()),())else some ((IntKind.i64.wrap (p_2-(1:Int)),()),())
theorem eq:F (i_1,p_2,())=T i_1 p_2:=eq_any fun k=>by kernel_rfl
theorem S:a3L prog ⟨129,sig,F⟩:=sound_k (res:=[.tmp 4]) func129 (cok nM)
end Aq4
namespace Ab5
noncomputable def sig:Sig:=⟨[qS,pI],[oM]⟩
noncomputable def cfg:Cfg:=cl (cx [⟨121,Ad4.sig,Ad4.F⟩,⟨122,Aa2.sig,Aa2.F⟩,⟨125,Aa4.sig,Aa4.F⟩,⟨126,Ad0.sig,Ad0.F⟩,⟨127,Ae5.sig,Ae5.F⟩,⟨128,Ag2.sig,Ag2.F⟩,⟨129,Aq4.sig,Aq4.F⟩]) fun id=>match id with|4=>([0,1,4,5,6,7],[16,20,24])|9=>([0,1,4,5,6,7,8,9,10],[16,20,24,32])|15=>([0,1,4,5,6,7,8,9,10,11,12,13,14],[16,20,24,32])|18=>([0,1,4,5,6,7,8,9,10,11,12,13,14,15],[16,20,24,32])|_=>([],[])
noncomputable def fin:=finK cfg.c sig [.cell 4 70]
noncomputable def F (d:SF×Int×Unit):OM:=anyK (a9n cfg fin (bd f85) (a6P sig.ps d 146))
variable (k:Nat) (x10:LL) (i11:Int) (x12:LI) (x13:LM) (i14 i15 i16 i17 i18:Int) (x19:LI) (i20 i21 i22:Int) (x23 x24:LI)
noncomputable def l4:OM:=Vm.runT cfg fin k [.inLoop (sub [1,1,1,0,1,0,0] (bd f85)),.inBlock 0,.code (sub [1,1,1,1] (bd f85))] ⟨[.rptr false [cQ x10,cI i11,cL x12,⟨(.sl TMatrix),.sh,x13⟩],vI i14,dD,dD,.ref 16 (.root 0),.ref 20 (.root 0),.view 24 (.root 0) 1 false,vI i15]++a9v 138,[(16,⟨true,[cI i16,cI i17,cI i18,dL x19]⟩),(20,⟨true,[cI i20,cI i21,cI i22,dL x23]⟩),(24,⟨false,[dL x24]⟩)]⟩
variable (x27:LL) (i28:Int) (x29:LI) (x30:LM) (i31 i32 i33 i34 i35 i36 i37:Int) (x38:LI) (i39 i40 i41:Int) (x42 x43 x44:LI)
noncomputable def l9:OM:=Vm.runT cfg fin k [.inLoop (sub [1,1,1,0,1,0,0,1,0,0,1,1,1,0,0] (bd f85)),.inBlock 2,.inBlock 1,.code (sub [1,1,1,0,1,0,0,1,1] (bd f85)),.inLoop (sub [1,1,1,0,1,0,0] (bd f85)),.inBlock 0,.code (sub [1,1,1,1] (bd f85))] ⟨[.rptr false [cQ x27,cI i28,cL x29,⟨(.sl TMatrix),.sh,x30⟩],vI i31,dD,dD,.ref 16 (.root 0),.ref 20 (.root 0),.view 24 (.root 0) 1 false,vI i32,.view 32 (.root 0) 1 false,vI i33,vI i34]++a9v 135,[(16,⟨true,[cI i35,cI i36,cI i37,dL x38]⟩),(20,⟨true,[cI i39,cI i40,cI i41,dL x42]⟩),(24,⟨false,[dL x43]⟩),(32,⟨false,[dL x44]⟩)]⟩
variable (x48:LL) (i49:Int) (x50:LI) (x51:LM) (i52 i53 i54 i55 i56 i57 i58:Int) (x59:LI) (i60 i61 i62 i63 i64 i65:Int) (x66:LI) (i67 i68 i69:Int) (x70 x71 x72:LI)
noncomputable def l15:OM:=Vm.runT cfg fin k [.inLoop (sub [1,1,1,0,1,0,0,1,0,0,1,1,1,0,0,1,0,0,1,1,1,1,0,0] (bd f85)),.inBlock 4,.inBlock 3,.code (sub [1,1,1,0,1,0,0,1,0,0,1,1,1,0,0,1,1] (bd f85)),.inLoop (sub [1,1,1,0,1,0,0,1,0,0,1,1,1,0,0] (bd f85)),.inBlock 2,.inBlock 1,.code (sub [1,1,1,0,1,0,0,1,1] (bd f85)),.inLoop (sub [1,1,1,0,1,0,0] (bd f85)),.inBlock 0,.code (sub [1,1,1,1] (bd f85))] ⟨[.rptr false [cQ x48,cI i49,cL x50,⟨(.sl TMatrix),.sh,x51⟩],vI i52,dD,dD,.ref 16 (.root 0),.ref 20 (.root 0),.view 24 (.root 0) 1 false,vI i53,.view 32 (.root 0) 1 false,vI i54,vI i55,.rptr true [cI i56,cI i57,cI i58,cL x59],vI i60,vI i61,vI i62]++a9v 131,[(16,⟨true,[cI i63,cI i64,cI i65,dL x66]⟩),(20,⟨true,[cI i67,cI i68,cI i69,dL x70]⟩),(24,⟨false,[dL x71]⟩),(32,⟨false,[dL x72]⟩)]⟩
variable (x73:LL) (i74:Int) (x75:LI) (x76:LM) (i77 i78 i79 i80 i81 i82 i83:Int) (x84:LI) (i85 i86 i87 i88 i89 i90 i91:Int) (x92:LI) (i93 i94 i95:Int) (x96 x97 x98:LI)
noncomputable def l18:OM:=Vm.runT cfg fin k [.inLoop (sub [1,1,1,0,1,0,0,1,0,0,1,1,1,0,0,1,0,0,1,1,1,1,0,0,1,0,0,1,0,0] (bd f85)),.inBlock 6,.inBlock 5,.code (sub [1,1,1,0,1,0,0,1,0,0,1,1,1,0,0,1,0,0,1,1,1,1,0,0,1,1] (bd f85)),.inLoop (sub [1,1,1,0,1,0,0,1,0,0,1,1,1,0,0,1,0,0,1,1,1,1,0,0] (bd f85)),.inBlock 4,.inBlock 3,.code (sub [1,1,1,0,1,0,0,1,0,0,1,1,1,0,0,1,1] (bd f85)),.inLoop (sub [1,1,1,0,1,0,0,1,0,0,1,1,1,0,0] (bd f85)),.inBlock 2,.inBlock 1,.code (sub [1,1,1,0,1,0,0,1,1] (bd f85)),.inLoop (sub [1,1,1,0,1,0,0] (bd f85)),.inBlock 0,.code (sub [1,1,1,1] (bd f85))] ⟨[.rptr false [cQ x73,cI i74,cL x75,⟨(.sl TMatrix),.sh,x76⟩],vI i77,dD,dD,.ref 16 (.root 0),.ref 20 (.root 0),.view 24 (.root 0) 1 false,vI i78,.view 32 (.root 0) 1 false,vI i79,vI i80,.rptr true [cI i81,cI i82,cI i83,cL x84],vI i85,vI i86,vI i87,vI i88]++a9v 130,[(16,⟨true,[cI i89,cI i90,cI i91,dL x92]⟩),(20,⟨true,[cI i93,cI i94,cI i95,dL x96]⟩),(24,⟨false,[dL x97]⟩),(32,⟨false,[dL x98]⟩)]⟩
theorem l4_eq:l4 (k+1) x10 i11 x12 x13 i14 i15 i16 i17 i18 x19 i20 i21 i22 x23 x24=if (decide (i15<(x24.length:Int)))=true then if (decide (i14≥0))=true then if 0≤i15∧i15<(x24.length:Int)then(Aa2.F (x10,(x24.getD i15.toNat 0:Int),())).bind fun r25=>if 0≤i15∧i15<(x24.length:Int)then(Ag2.F ((x10,(i11,(x12,x13))),(x24.getD i15.toNat 0:Int),())).bind fun r26=>l9 k x10 i11 x12 x13 i14 i15 r26.1.1 (0:Int) i16 i17 i18 x19 i20 i21 i22 x23 x24 r25.1.1 else none else none else some (((i20,(i21,(i22,x23))),()),())else some (((i20,(i21,(i22,x23))),()),()):=by kernel_rfl
theorem l9_eq:l9 (k+1) x27 i28 x29 x30 i31 i32 i33 i34 i35 i36 i37 x38 i39 i40 i41 x42 x43 x44=if (decide (i34<(x44.length:Int)))=true then if 0≤i32∧i32<(x43.length:Int)then(Aa4.F ((x27,(i28,(x29,x30))),(x43.getD i32.toNat 0:Int),i34,())).bind fun r45=>if 0≤i34∧i34<(x44.length:Int)then(Ag2.F ((x27,(i28,(x29,x30))),(x44.getD i34.toNat 0:Int),())).bind fun r46=>(Aq4.F (i34,i28,())).bind fun r47=>l15 k x27 i28 x29 x30 i31 i32 i33 i34 r45.1.1.1 r45.1.1.2.1 r45.1.1.2.2.1 r45.1.1.2.2.2 r46.1.1 r47.1.1 (0:Int) i35 i36 i37 x38 i39 i40 i41 x42 x43 x44 else none else none else l4 k x27 i28 x29 x30 i31 (IntKind.i64.wrap (i32+1)) i35 i36 i37 x38 i39 i40 i41 x42 x43:=by kernel_rfl
theorem l15_eq:l15 (k+1) x48 i49 x50 x51 i52 i53 i54 i55 i56 i57 i58 x59 i60 i61 i62 i63 i64 i65 x66 i67 i68 i69 x70 x71 x72=if (decide (i62<i57))=true then l18 k x48 i49 x50 x51 i52 i53 i54 i55 i56 i57 i58 x59 i60 i61 i62 (0:Int) i63 i64 i65 x66 i67 i68 i69 x70 x71 x72 else l9 k x48 i49 x50 x51 i52 i53 i54 (IntKind.i64.wrap (i55+1)) i63 i64 i65 x66 i67 i68 i69 x70 x71 x72:=by kernel_rfl
theorem l18_eq:l18 (k+1) x73 i74 x75 x76 i77 i78 i79 i80 i81 i82 i83 x84 i85 i86 i87 i88 i89 i90 i91 x92 i93 i94 i95 x96 x97 x98=if (decide (i88<i83))=true then if 0≤(IntKind.i64.wrap ((IntKind.i64.wrap (i87*i83))+i88))∧(IntKind.i64.wrap ((IntKind.i64.wrap (i87*i83))+i88))<(x84.length:Int)then if i74=0 then none else if 0≤(IntKind.i64.wrap ((IntKind.i64.wrap ((IntKind.i64.wrap ((IntKind.i64.wrap (i79+i87))*i95))+i85))+i88))∧(IntKind.i64.wrap ((IntKind.i64.wrap ((IntKind.i64.wrap ((IntKind.i64.wrap (i79+i87))*i95))+i85))+i88))<(x96.length:Int)then let y99:LI:=x96.set (IntKind.i64.wrap ((IntKind.i64.wrap ((IntKind.i64.wrap ((IntKind.i64.wrap (i79+i87))*i95))+i85))+i88)).toNat ((IntKind.i64.wrap ((x84.getD (IntKind.i64.wrap ((IntKind.i64.wrap (i87*i83))+i88)).toNat 0:Int)*i86)).tmod i74);l18 k x73 i74 x75 x76 i77 i78 i79 i80 i81 i82 i83 x84 i85 i86 i87 (IntKind.i64.wrap (i88+1)) i89 i90 i91 x92 i93 i94 i95 y99 x97 x98 else none else none else l15 k x73 i74 x75 x76 i77 i78 i79 i80 i81 i82 i83 x84 i85 i86 (IntKind.i64.wrap (i87+1)) i89 i90 i91 x92 i93 i94 i95 x96 x97 x98:=by kernel_rfl
variable (toArray_1:LL) (toArray_2:Int) (toArray_3:LI) (toArray_4:LM) (a_5:Int)
noncomputable def T:OM:=(Ad4.F (toArray_1,toArray_3,IntKind.i64.wrap (a_5+(1:Int)),())).bind fun r6=>(Ad4.F (toArray_1,toArray_3,a_5,())).bind fun r7=>(Ad0.F (toArray_2,r6.1.1,r7.1.1,())).bind fun r8=>(Ae5.F (toArray_1,IntKind.i64.wrap (a_5+(1:Int)),())).bind fun r9=>l4 k toArray_1 toArray_2 toArray_3 toArray_4 a_5 (0:Int) 0 0 0 ([]) r8.1.1.1 r8.1.1.2.1 r8.1.1.2.2.1 r8.1.1.2.2.2 r9.1.1
theorem of {r} (h:Ev (fun k=>T k toArray_1 toArray_2 toArray_3 toArray_4 a_5) r):F ((toArray_1,(toArray_2,(toArray_3,toArray_4))),a_5,())=some r:=Ev.run (fun k=>by kernel_rfl) h
theorem S:a3L prog ⟨85,sig,F⟩:=sound_k (res:=[.cell 4 70]) func85 (cok (cM ⟨Ad4.S,cM ⟨Aa2.S,cM ⟨Aa4.S,cM ⟨Ad0.S,cM ⟨Ae5.S,cM ⟨Ag2.S,cM ⟨Aq4.S,nM⟩⟩⟩⟩⟩⟩⟩))
end Ab5
namespace Ai1
noncomputable def sig:Sig:=⟨[pI,pI],[oI]⟩
noncomputable def cfg:Cfg:=cl (cx []) fun id=>match id with|3=>([0,1,5,6],[])|_=>([],[])
noncomputable def fin:=finK cfg.c sig [.tmp 4]
noncomputable def F (d:Int×Int×Unit):OI:=anyK (a9n cfg fin (bd f172) (a6P sig.ps d 19))
variable (k:Nat) (i3 i4 i5 i6:Int)
noncomputable def l3:OI:=Vm.runT cfg fin k [.inLoop (sub [1,1,0,1,0,0] (bd f172)),.inBlock 0,.code (sub [1,1,1] (bd f172))] ⟨[vI i3,vI i4,dD,dD,dD,vI i5,vI i6]++a9v 12,[]⟩
theorem l3_eq:l3 (k+1) i3 i4 i5 i6=if (decide (i6>0))=true then if i4=0 then none else l3 k i3 i4 ((IntKind.i64.wrap (i5*i3)).tmod i4) (IntKind.i64.wrap (i6-1))else some ((i5,()),()):=by kernel_rfl
variable (a_1 p_2:Int)
noncomputable def T:OI:=l3 k a_1 p_2 (1:Int) (IntKind.i64.wrap (p_2-(2:Int)))
theorem of {r} (h:Ev (fun k=>T k a_1 p_2) r):F (a_1,p_2,())=some r:=Ev.run (fun k=>by kernel_rfl) h
theorem S:a3L prog ⟨172,sig,F⟩:=sound_k (res:=[.tmp 4]) func172 (cok nM)
end Ai1
namespace Ar8
noncomputable def sig:Sig:=⟨[pI,pI],[oI]⟩
noncomputable def cfg:Cfg:=cf (cx [])
noncomputable def fin:=finK cfg.c sig [.tmp 4]
noncomputable def F (d:Int×Int×Unit):OI:=anyK (a9n cfg fin (bd f173) (a6P sig.ps d 12))
variable (n_1 p_2:Int)
noncomputable def T:OI:=if p_2=0 then none else if p_2=0 then none else some (((IntKind.i64.wrap ((n_1.tmod p_2)+p_2)).tmod p_2,()),())
theorem eq:F (n_1,p_2,())=T n_1 p_2:=eq_any fun k=>by kernel_rfl
theorem S:a3L prog ⟨173,sig,F⟩:=sound_k (res:=[.tmp 4]) func173 (cok nM)
end Ar8
namespace Aa0
noncomputable def sig:Sig:=⟨[qM],[oM,oL,oI]⟩
noncomputable def cfg:Cfg:=cl (cx [⟨56,Ab2.sig,Ab2.F⟩,⟨172,Ai1.sig,Ai1.F⟩,⟨173,Ar8.sig,Ar8.F⟩]) fun id=>match id with|8=>([0,2,5,6,7,8,9,10,11],[8,20,32])|11=>([0,2,5,6,7,8,9,10,11,12],[8,20,32])|17=>([0,2,5,6,7,8,9,10,11,12,13],[8,20,32])|26=>([0,2,5,6,7,8,9,10,11,16,17],[8,20,32])|30=>([0,2,5,6,7,8,9,10,11,18],[8,20,32])|35=>([0,2,5,6,7,8,9,10,11,18,19,20],[8,20,32])|_=>([],[])
noncomputable def fin:=finK cfg.c sig [.cell 2 70,.tmp 3,.tmp 4]
noncomputable def F (d:MX×Unit):Option ((MX×LI×Int×Unit)×(Unit)):=anyK (a9n cfg fin (bd f130) (a6P sig.ps d 246))
variable (k:Nat) (i6 i7 i8:Int) (x9:LI) (i10 i11 i12 i13 i14 i15 i16 i17:Int) (x18:LI) (i19 i20 i21:Int) (x22 x23:LI)
noncomputable def l8:Option ((MX×LI×Int×Unit)×(Unit)):=Vm.runT cfg fin k [.inLoop (sub [1,1,1,1,1,1,1,0,1,0,0] (bd f130)),.inBlock 0,.code (sub [1,1,1,1,1,1,1,1] (bd f130))] ⟨[.rptr false [cI i6,cI i7,cI i8,cL x9],dD,.ref 8 (.root 0),dD,dD,.ref 20 (.root 0),vI i10,vI i11,.view 32 (.root 0) 1 false,vI i12,vI i13,vI i14]++a9v 234,[(8,⟨true,[cI i15,cI i16,cI i17,dL x18]⟩),(20,⟨true,[cI i19,cI i20,cI i21,dL x22]⟩),(32,⟨false,[dL x23]⟩)]⟩
variable (i24 i25 i26:Int) (x27:LI) (i28 i29 i30 i31 i32 i33 i34 i35 i36:Int) (x37:LI) (i38 i39 i40:Int) (x41 x42:LI)
noncomputable def l11:Option ((MX×LI×Int×Unit)×(Unit)):=Vm.runT cfg fin k [.inLoop (sub [1,1,1,1,1,1,1,0,1,0,0,1,0,0,1,0,0,0] (bd f130)),.inBlock 2,.code (sub [1,1,1,1,1,1,1,0,1,0,0,1,0,0,1,1] (bd f130)),.inBlock 1,.code (sub [1,1,1,1,1,1,1,0,1,0,0,1,1] (bd f130)),.inLoop (sub [1,1,1,1,1,1,1,0,1,0,0] (bd f130)),.inBlock 0,.code (sub [1,1,1,1,1,1,1,1] (bd f130))] ⟨[.rptr false [cI i24,cI i25,cI i26,cL x27],dD,.ref 8 (.root 0),dD,dD,.ref 20 (.root 0),vI i28,vI i29,.view 32 (.root 0) 1 false,vI i30,vI i31,vI i32,vI i33]++a9v 233,[(8,⟨true,[cI i34,cI i35,cI i36,dL x37]⟩),(20,⟨true,[cI i38,cI i39,cI i40,dL x41]⟩),(32,⟨false,[dL x42]⟩)]⟩
variable (i43 i44 i45:Int) (x46:LI) (i47 i48 i49 i50 i51 i52 i53 i54 i55 i56:Int) (x57:LI) (i58 i59 i60:Int) (x61 x62:LI)
noncomputable def l17:Option ((MX×LI×Int×Unit)×(Unit)):=Vm.runT cfg fin k [.inLoop (sub [1,1,1,1,1,1,1,0,1,0,0,1,0,0,1,1,1,0,1,0,1,1,0,0] (bd f130)),.inBlock 4,.code (sub [1,1,1,1,1,1,1,0,1,0,0,1,0,0,1,1,1,1] (bd f130)),.inBlock 1,.code (sub [1,1,1,1,1,1,1,0,1,0,0,1,1] (bd f130)),.inLoop (sub [1,1,1,1,1,1,1,0,1,0,0] (bd f130)),.inBlock 0,.code (sub [1,1,1,1,1,1,1,1] (bd f130))] ⟨[.rptr false [cI i43,cI i44,cI i45,cL x46],dD,.ref 8 (.root 0),dD,dD,.ref 20 (.root 0),vI i47,vI i48,.view 32 (.root 0) 1 false,vI i49,vI i50,vI i51,vI i52,vI i53]++a9v 232,[(8,⟨true,[cI i54,cI i55,cI i56,dL x57]⟩),(20,⟨true,[cI i58,cI i59,cI i60,dL x61]⟩),(32,⟨false,[dL x62]⟩)]⟩
variable (i66 i67 i68:Int) (x69:LI) (i70 i71 i72 i73 i74 i75 i76 i77 i78 i79:Int) (x80:LI) (i81 i82 i83:Int) (x84 x85:LI)
noncomputable def l26:Option ((MX×LI×Int×Unit)×(Unit)):=Vm.runT cfg fin k [.inLoop (sub [1,1,1,1,1,1,1,0,1,0,0,1,0,0,1,1,1,1,1,1,1,0,1,0,0] (bd f130)),.inBlock 6,.code (sub [1,1,1,1,1,1,1,0,1,0,0,1,0,0,1,1,1,1,1,1,1,1] (bd f130)),.inBlock 1,.code (sub [1,1,1,1,1,1,1,0,1,0,0,1,1] (bd f130)),.inLoop (sub [1,1,1,1,1,1,1,0,1,0,0] (bd f130)),.inBlock 0,.code (sub [1,1,1,1,1,1,1,1] (bd f130))] ⟨[.rptr false [cI i66,cI i67,cI i68,cL x69],dD,.ref 8 (.root 0),dD,dD,.ref 20 (.root 0),vI i70,vI i71,.view 32 (.root 0) 1 false,vI i72,vI i73,vI i74,dD,dD,dD,dD,vI i75,vI i76]++a9v 228,[(8,⟨true,[cI i77,cI i78,cI i79,dL x80]⟩),(20,⟨true,[cI i81,cI i82,cI i83,dL x84]⟩),(32,⟨false,[dL x85]⟩)]⟩
variable (i87 i88 i89:Int) (x90:LI) (i91 i92 i93 i94 i95 i96 i97 i98 i99:Int) (x100:LI) (i101 i102 i103:Int) (x104 x105:LI)
noncomputable def l30:Option ((MX×LI×Int×Unit)×(Unit)):=Vm.runT cfg fin k [.inLoop (sub [1,1,1,1,1,1,1,0,1,0,0,1,0,0,1,1,1,1,1,1,1,1,0,1,0,0] (bd f130)),.inBlock 8,.code (sub [1,1,1,1,1,1,1,0,1,0,0,1,0,0,1,1,1,1,1,1,1,1,1] (bd f130)),.inBlock 1,.code (sub [1,1,1,1,1,1,1,0,1,0,0,1,1] (bd f130)),.inLoop (sub [1,1,1,1,1,1,1,0,1,0,0] (bd f130)),.inBlock 0,.code (sub [1,1,1,1,1,1,1,1] (bd f130))] ⟨[.rptr false [cI i87,cI i88,cI i89,cL x90],dD,.ref 8 (.root 0),dD,dD,.ref 20 (.root 0),vI i91,vI i92,.view 32 (.root 0) 1 false,vI i93,vI i94,vI i95,dD,dD,dD,dD,dD,dD,vI i96]++a9v 227,[(8,⟨true,[cI i97,cI i98,cI i99,dL x100]⟩),(20,⟨true,[cI i101,cI i102,cI i103,dL x104]⟩),(32,⟨false,[dL x105]⟩)]⟩
variable (i106 i107 i108:Int) (x109:LI) (i110 i111 i112 i113 i114 i115 i116 i117 i118 i119 i120:Int) (x121:LI) (i122 i123 i124:Int) (x125 x126:LI)
noncomputable def l35:Option ((MX×LI×Int×Unit)×(Unit)):=Vm.runT cfg fin k [.inLoop (sub [1,1,1,1,1,1,1,0,1,0,0,1,0,0,1,1,1,1,1,1,1,1,0,1,0,0,1,0,0,1,1,1,0,0] (bd f130)),.inBlock 10,.inBlock 9,.code (sub [1,1,1,1,1,1,1,0,1,0,0,1,0,0,1,1,1,1,1,1,1,1,0,1,0,0,1,1] (bd f130)),.inLoop (sub [1,1,1,1,1,1,1,0,1,0,0,1,0,0,1,1,1,1,1,1,1,1,0,1,0,0] (bd f130)),.inBlock 8,.code (sub [1,1,1,1,1,1,1,0,1,0,0,1,0,0,1,1,1,1,1,1,1,1,1] (bd f130)),.inBlock 1,.code (sub [1,1,1,1,1,1,1,0,1,0,0,1,1] (bd f130)),.inLoop (sub [1,1,1,1,1,1,1,0,1,0,0] (bd f130)),.inBlock 0,.code (sub [1,1,1,1,1,1,1,1] (bd f130))] ⟨[.rptr false [cI i106,cI i107,cI i108,cL x109],dD,.ref 8 (.root 0),dD,dD,.ref 20 (.root 0),vI i110,vI i111,.view 32 (.root 0) 1 false,vI i112,vI i113,vI i114,dD,dD,dD,dD,dD,dD,vI i115,vI i116,vI i117]++a9v 225,[(8,⟨true,[cI i118,cI i119,cI i120,dL x121]⟩),(20,⟨true,[cI i122,cI i123,cI i124,dL x125]⟩),(32,⟨false,[dL x126]⟩)]⟩
theorem l8_eq:l8 (k+1) i6 i7 i8 x9 i10 i11 i12 i13 i14 i15 i16 i17 x18 i19 i20 i21 x22 x23=if (decide (i14<i11))=true then if (decide (i13<i7))=true then l11 k i6 i7 i8 x9 i10 i11 i12 i13 i14 i13 i15 i16 i17 x18 i19 i20 i21 x22 x23 else some (((i19,(i20,(i21,x22))),(x23,(i12,()))),())else some (((i19,(i20,(i21,x22))),(x23,(i12,()))),()):=by kernel_rfl
theorem l11_eq:l11 (k+1) i24 i25 i26 x27 i28 i29 i30 i31 i32 i33 i34 i35 i36 x37 i38 i39 i40 x41 x42=if (decide (i33<i25))=true then if 0≤(IntKind.i64.wrap ((IntKind.i64.wrap (i33*i29))+i32))∧(IntKind.i64.wrap ((IntKind.i64.wrap (i33*i29))+i32))<(x41.length:Int)then if ((x41.getD (IntKind.i64.wrap ((IntKind.i64.wrap (i33*i29))+i32)).toNat 0:Int)==0)=true then l11 k i24 i25 i26 x27 i28 i29 i30 i31 i32 (IntKind.i64.wrap (i33+1)) i34 i35 i36 x37 i38 i39 i40 x41 x42 else if (i33==i25)=true then l8 k i24 i25 i26 x27 i28 i29 i30 i31 (IntKind.i64.wrap (i32+1)) i34 i35 i36 x37 i38 i39 i40 x41 x42 else if (i33 !=i31)=true then l17 k i24 i25 i26 x27 i28 i29 (IntKind.i64.wrap (i28-i30)) i31 i32 i33 (0:Int) i34 i35 i36 x37 i38 i39 i40 x41 x42 else if 0≤(IntKind.i64.wrap ((IntKind.i64.wrap (i31*i29))+i32))∧(IntKind.i64.wrap ((IntKind.i64.wrap (i31*i29))+i32))<(x41.length:Int)then if i28=0 then none else(Ai1.F ((x41.getD (IntKind.i64.wrap ((IntKind.i64.wrap (i31*i29))+i32)).toNat 0:Int),i28,())).bind fun r129=>l26 k i24 i25 i26 x27 i28 i29 ((IntKind.i64.wrap (i30*(x41.getD (IntKind.i64.wrap ((IntKind.i64.wrap (i31*i29))+i32)).toNat 0:Int))).tmod i28) i31 i32 r129.1.1 (0:Int) i34 i35 i36 x37 i38 i39 i40 x41 x42 else none else none else if (i33==i25)=true then l8 k i24 i25 i26 x27 i28 i29 i30 i31 (IntKind.i64.wrap (i32+1)) i34 i35 i36 x37 i38 i39 i40 x41 x42 else if (i33 !=i31)=true then l17 k i24 i25 i26 x27 i28 i29 (IntKind.i64.wrap (i28-i30)) i31 i32 i33 (0:Int) i34 i35 i36 x37 i38 i39 i40 x41 x42 else if 0≤(IntKind.i64.wrap ((IntKind.i64.wrap (i31*i29))+i32))∧(IntKind.i64.wrap ((IntKind.i64.wrap (i31*i29))+i32))<(x41.length:Int)then if i28=0 then none else(Ai1.F ((x41.getD (IntKind.i64.wrap ((IntKind.i64.wrap (i31*i29))+i32)).toNat 0:Int),i28,())).bind fun r130=>l26 k i24 i25 i26 x27 i28 i29 ((IntKind.i64.wrap (i30*(x41.getD (IntKind.i64.wrap ((IntKind.i64.wrap (i31*i29))+i32)).toNat 0:Int))).tmod i28) i31 i32 r130.1.1 (0:Int) i34 i35 i36 x37 i38 i39 i40 x41 x42 else none:=by kernel_rfl
theorem l17_eq:l17 (k+1) i43 i44 i45 x46 i47 i48 i49 i50 i51 i52 i53 i54 i55 i56 x57 i58 i59 i60 x61 x62=if (decide (i53<i48))=true then if 0≤(IntKind.i64.wrap ((IntKind.i64.wrap (i52*i48))+i53))∧(IntKind.i64.wrap ((IntKind.i64.wrap (i52*i48))+i53))<(x61.length:Int)then if 0≤(IntKind.i64.wrap ((IntKind.i64.wrap (i50*i48))+i53))∧(IntKind.i64.wrap ((IntKind.i64.wrap (i50*i48))+i53))<(x61.length:Int)then if 0≤(IntKind.i64.wrap ((IntKind.i64.wrap (i52*i48))+i53))∧(IntKind.i64.wrap ((IntKind.i64.wrap (i52*i48))+i53))<(x61.length:Int)then let y63:LI:=x61.set (IntKind.i64.wrap ((IntKind.i64.wrap (i52*i48))+i53)).toNat (x61.getD (IntKind.i64.wrap ((IntKind.i64.wrap (i50*i48))+i53)).toNat 0:Int);if 0≤(IntKind.i64.wrap ((IntKind.i64.wrap (i50*i48))+i53))∧(IntKind.i64.wrap ((IntKind.i64.wrap (i50*i48))+i53))<(y63.length:Int)then let y64:LI:=y63.set (IntKind.i64.wrap ((IntKind.i64.wrap (i50*i48))+i53)).toNat (x61.getD (IntKind.i64.wrap ((IntKind.i64.wrap (i52*i48))+i53)).toNat 0:Int);l17 k i43 i44 i45 x46 i47 i48 i49 i50 i51 i52 (IntKind.i64.wrap (i53+1)) i54 i55 i56 x57 i58 i59 i60 y64 x62 else none else none else none else none else if 0≤(IntKind.i64.wrap ((IntKind.i64.wrap (i50*i48))+i51))∧(IntKind.i64.wrap ((IntKind.i64.wrap (i50*i48))+i51))<(x61.length:Int)then if i47=0 then none else(Ai1.F ((x61.getD (IntKind.i64.wrap ((IntKind.i64.wrap (i50*i48))+i51)).toNat 0:Int),i47,())).bind fun r65=>l26 k i43 i44 i45 x46 i47 i48 ((IntKind.i64.wrap (i49*(x61.getD (IntKind.i64.wrap ((IntKind.i64.wrap (i50*i48))+i51)).toNat 0:Int))).tmod i47) i50 i51 r65.1.1 (0:Int) i54 i55 i56 x57 i58 i59 i60 x61 x62 else none:=by kernel_rfl
theorem l26_eq:l26 (k+1) i66 i67 i68 x69 i70 i71 i72 i73 i74 i75 i76 i77 i78 i79 x80 i81 i82 i83 x84 x85=if (decide (i76<i71))=true then if 0≤(IntKind.i64.wrap ((IntKind.i64.wrap (i73*i71))+i76))∧(IntKind.i64.wrap ((IntKind.i64.wrap (i73*i71))+i76))<(x84.length:Int)then if i70=0 then none else if 0≤(IntKind.i64.wrap ((IntKind.i64.wrap (i73*i71))+i76))∧(IntKind.i64.wrap ((IntKind.i64.wrap (i73*i71))+i76))<(x84.length:Int)then let y86:LI:=x84.set (IntKind.i64.wrap ((IntKind.i64.wrap (i73*i71))+i76)).toNat ((IntKind.i64.wrap ((x84.getD (IntKind.i64.wrap ((IntKind.i64.wrap (i73*i71))+i76)).toNat 0:Int)*i75)).tmod i70);l26 k i66 i67 i68 x69 i70 i71 i72 i73 i74 i75 (IntKind.i64.wrap (i76+1)) i77 i78 i79 x80 i81 i82 i83 y86 x85 else none else none else l30 k i66 i67 i68 x69 i70 i71 i72 i73 i74 (0:Int) i77 i78 i79 x80 i81 i82 i83 x84 x85:=by kernel_rfl
theorem l30_eq:l30 (k+1) i87 i88 i89 x90 i91 i92 i93 i94 i95 i96 i97 i98 i99 x100 i101 i102 i103 x104 x105=if (decide (i96<i88))=true then if 0≤(IntKind.i64.wrap ((IntKind.i64.wrap (i96*i92))+i95))∧(IntKind.i64.wrap ((IntKind.i64.wrap (i96*i92))+i95))<(x104.length:Int)then if (i96==i94)=true then l30 k i87 i88 i89 x90 i91 i92 i93 i94 i95 (IntKind.i64.wrap (i96+1)) i97 i98 i99 x100 i101 i102 i103 x104 x105 else if ((x104.getD (IntKind.i64.wrap ((IntKind.i64.wrap (i96*i92))+i95)).toNat 0:Int)==0)=true then l30 k i87 i88 i89 x90 i91 i92 i93 i94 i95 (IntKind.i64.wrap (i96+1)) i97 i98 i99 x100 i101 i102 i103 x104 x105 else l35 k i87 i88 i89 x90 i91 i92 i93 i94 i95 i96 (x104.getD (IntKind.i64.wrap ((IntKind.i64.wrap (i96*i92))+i95)).toNat 0:Int) (0:Int) i97 i98 i99 x100 i101 i102 i103 x104 x105 else none else if x105.length+[i95].length≤bigA then l8 k i87 i88 i89 x90 i91 i92 i93 (IntKind.i64.wrap (i94+1)) (IntKind.i64.wrap (i95+1)) i97 i98 i99 x100 i101 i102 i103 x104 (x105++[i95])else none:=by kernel_rfl
theorem l35_eq:l35 (k+1) i106 i107 i108 x109 i110 i111 i112 i113 i114 i115 i116 i117 i118 i119 i120 x121 i122 i123 i124 x125 x126=if (decide (i117<i111))=true then if 0≤(IntKind.i64.wrap ((IntKind.i64.wrap (i115*i111))+i117))∧(IntKind.i64.wrap ((IntKind.i64.wrap (i115*i111))+i117))<(x125.length:Int)then if 0≤(IntKind.i64.wrap ((IntKind.i64.wrap (i113*i111))+i117))∧(IntKind.i64.wrap ((IntKind.i64.wrap (i113*i111))+i117))<(x125.length:Int)then(Ar8.F (IntKind.i64.wrap ((x125.getD (IntKind.i64.wrap ((IntKind.i64.wrap (i115*i111))+i117)).toNat 0:Int)-(IntKind.i64.wrap (i116*(x125.getD (IntKind.i64.wrap ((IntKind.i64.wrap (i113*i111))+i117)).toNat 0:Int)))),i110,())).bind fun r127=>if 0≤(IntKind.i64.wrap ((IntKind.i64.wrap (i115*i111))+i117))∧(IntKind.i64.wrap ((IntKind.i64.wrap (i115*i111))+i117))<(x125.length:Int)then let y128:LI:=x125.set (IntKind.i64.wrap ((IntKind.i64.wrap (i115*i111))+i117)).toNat r127.1.1;l35 k i106 i107 i108 x109 i110 i111 i112 i113 i114 i115 i116 (IntKind.i64.wrap (i117+1)) i118 i119 i120 x121 i122 i123 i124 y128 x126 else none else none else none else l30 k i106 i107 i108 x109 i110 i111 i112 i113 i114 (IntKind.i64.wrap (i115+1)) i118 i119 i120 x121 i122 i123 i124 x125 x126:=by kernel_rfl
variable (toArray_1 toArray_2 toArray_3:Int) (toArray_4:LI)
noncomputable def T:Option ((MX×LI×Int×Unit)×(Unit)):=(Ab2.F (toArray_4,())).bind fun r5=>l8 k toArray_1 toArray_2 toArray_3 toArray_4 toArray_1 toArray_3 (1:Int) (0:Int) (0:Int) 0 0 0 ([]) toArray_1 toArray_2 toArray_3 r5.1.1 ([]:LI)
theorem of {r} (h:Ev (fun k=>T k toArray_1 toArray_2 toArray_3 toArray_4) r):F ((toArray_1,(toArray_2,(toArray_3,toArray_4))),())=some r:=Ev.run (fun k=>by kernel_rfl) h
theorem S:a3L prog ⟨130,sig,F⟩:=sound_k (res:=[.cell 2 70,.tmp 3,.tmp 4]) func130 (cok (cM ⟨Ab2.S,cM ⟨Ai1.S,cM ⟨Ar8.S,nM⟩⟩⟩))
end Aa0
namespace Am7
noncomputable def sig:Sig:=⟨[qM],[oI]⟩
noncomputable def cfg:Cfg:=cf (cx [⟨130,Aa0.sig,Aa0.F⟩])
noncomputable def fin:=finK cfg.c sig [.tmp 2]
noncomputable def F (d:MX×Unit):OI:=anyK (a9n cfg fin (bd f86) (a6P sig.ps d 14))
variable (m_1 m_2 m_3:Int) (m_4:LI)
noncomputable def T:OI:=(Aa0.F ((m_1,(m_2,(m_3,m_4))),())).bind fun r5=>some (((r5.1.2.1.length:Int),()),())
theorem eq:F ((m_1,(m_2,(m_3,m_4))),())=T m_1 m_2 m_3 m_4:=eq_any fun k=>by kernel_rfl
theorem S:a3L prog ⟨86,sig,F⟩:=sound_k (res:=[.tmp 2]) func86 (cok (cM ⟨Aa0.S,nM⟩))
end Am7
namespace As0
noncomputable def sig:Sig:=⟨[qS,pI],[oI]⟩
noncomputable def cfg:Cfg:=cf (cx [⟨85,Ab5.sig,Ab5.F⟩,⟨86,Am7.sig,Am7.F⟩])
noncomputable def fin:=finK cfg.c sig [.tmp 4]
noncomputable def F (d:SF×Int×Unit):OI:=anyK (a9n cfg fin (bd f57) (a6P sig.ps d 20))
variable (s_1:LL) (s_2:Int) (s_3:LI) (s_4:LM) (k_5:Int)
noncomputable def T:OI:=(Ab5.F ((s_1,(s_2,(s_3,s_4))),k_5,())).bind fun r6=>(Ab5.F ((s_1,(s_2,(s_3,s_4))),IntKind.i64.wrap (k_5-(1:Int)),())).bind fun r7=>(Am7.F (r6.1.1,())).bind fun r8=>(Am7.F (r7.1.1,())).bind fun r9=>some ((IntKind.i64.wrap ((IntKind.i64.wrap (r6.1.1.2.2.1-r8.1.1))-r9.1.1),()),())
theorem eq:F ((s_1,(s_2,(s_3,s_4))),k_5,())=T s_1 s_2 s_3 s_4 k_5:=eq_any fun k=>by kernel_rfl
theorem S:a3L prog ⟨57,sig,F⟩:=sound_k (res:=[.tmp 4]) func57 (cok (cM ⟨Ab5.S,cM ⟨Am7.S,nM⟩⟩))
end As0
namespace Ad8
noncomputable def sig:Sig:=⟨[pS],[oL,oI]⟩
noncomputable def cfg:Cfg:=cl (cx [⟨36,Ad1.sig,Ad1.F⟩,⟨57,As0.sig,As0.F⟩]) fun id=>match id with|5=>([1,4,5],[4,16])|_=>([],[])
noncomputable def fin:=finK cfg.c sig [.tmp 2,.tmp 3]
noncomputable def F (d:SF×Unit):Option ((LI×Int×Unit)×(Unit)):=anyK (a9n cfg fin (bd f40) (a6P sig.ps d 19))
variable (k:Nat) (i6:Int) (x7:LL) (i8:Int) (x9:LI) (x10:LM) (x11:LI)
noncomputable def l5:Option ((LI×Int×Unit)×(Unit)):=Vm.runT cfg fin k [.inLoop (sub [1,1,1,0,1,0,0] (bd f40)),.inBlock 0,.code (sub [1,1,1,1] (bd f40))] ⟨[dD,.ref 4 (.root 0),dD,dD,.view 16 (.root 0) 1 false,vI i6]++a9v 13,[(4,⟨true,[cQ x7,cI i8,cL x9,⟨(.sl TMatrix),.sh,x10⟩]⟩),(16,⟨false,[dL x11]⟩)]⟩
theorem l5_eq:l5 (k+1) i6 x7 i8 x9 x10 x11=if (decide (i6≤3))=true then(As0.F ((x7,(i8,(x9,x10))),i6,())).bind fun r12=>if x11.length+[r12.1.1].length≤bigA then l5 k (IntKind.i64.wrap (i6+1)) x7 i8 x9 x10 (x11++[r12.1.1])else none else some ((x11,((0:Int),())),()):=by kernel_rfl
variable (s_1:LL) (s_2:Int) (s_3:LI) (s_4:LM)
noncomputable def T:Option ((LI×Int×Unit)×(Unit)):=(Ad1.F ((s_1,(s_2,(s_3,s_4))),())).bind fun r5=>if (!r5.1.1)=true then some (([],((1:Int),())),())else l5 k (0:Int) s_1 s_2 s_3 s_4 ([]:LI)
theorem of {r} (h:Ev (fun k=>T k s_1 s_2 s_3 s_4) r):F ((s_1,(s_2,(s_3,s_4))),())=some r:=Ev.run (fun k=>by kernel_rfl) h
theorem S:a3L prog ⟨40,sig,F⟩:=sound_k (res:=[.tmp 2,.tmp 3]) func40 (cok (cM ⟨Ad1.S,cM ⟨As0.S,nM⟩⟩))
end Ad8
namespace An0
noncomputable def sig:Sig:=⟨[qC,qC],[oB]⟩
noncomputable def cfg:Cfg:=cl (cx [⟨54,Aa1.sig,Aa1.F⟩]) fun id=>match id with|2=>([0,1,5],[])|_=>([],[])
noncomputable def fin:=finK cfg.c sig [.tmp 4]
noncomputable def F (d:LL×LL×Unit):OB:=anyK (a9n cfg fin (bd f87) (a6P sig.ps d 25))
variable (k:Nat) (x3 x4:LL) (i5:Int)
noncomputable def l2:OB:=Vm.runT cfg fin k [.inLoop (sub [1,0,1,0,0] (bd f87)),.inBlock 0,.code (sub [1,1] (bd f87))] ⟨[.rptr false [cQ x3],.rptr false [cQ x4],dD,dD,dD,vI i5]++a9v 19,[]⟩
theorem l2_eq:l2 (k+1) x3 x4 i5=if (decide (i5<(x3.length:Int)))=true then if 0≤i5∧i5<(x3.length:Int)then(Aa1.F (x4,x3.getD i5.toNat ([]:LI),())).bind fun r6=>if (decide (r6.1.1<0))=true then some ((false,()),())else l2 k x3 x4 (IntKind.i64.wrap (i5+1))else none else some ((true,()),()):=by kernel_rfl
variable (part_1 c_2:LL)
noncomputable def T:OB:=l2 k part_1 c_2 (0:Int)
theorem of {r} (h:Ev (fun k=>T k part_1 c_2) r):F (part_1,c_2,())=some r:=Ev.run (fun k=>by kernel_rfl) h
theorem S:a3L prog ⟨87,sig,F⟩:=sound_k (res:=[.tmp 4]) func87 (cok (cM ⟨Aa1.S,nM⟩))
end An0
namespace Am5
noncomputable def sig:Sig:=⟨[pL,pI],[oL]⟩
noncomputable def cfg:Cfg:=cl (cx []) fun id=>match id with|4=>([0,1,5,6,7],[20])|_=>([],[])
noncomputable def fin:=finK cfg.c sig [.tmp 4]
noncomputable def F (d:LI×Int×Unit):OL:=anyK (a9n cfg fin (bd f174) (a6P sig.ps d 49))
variable (k:Nat) (x3:LI) (i4:Int) (b5:Bool) (i6:Int) (x7:LI)
noncomputable def l4:OL:=Vm.runT cfg fin k [.inLoop (sub [1,1,1,0,1,0,0] (bd f174)),.inBlock 0,.code (sub [1,1,1,1] (bd f174))] ⟨[vL x3,vI i4,dD,dD,dD,.view 20 (.root 0) 1 false,.val false [⟨.bool,.sh,b5⟩],vI i6]++a9v 41,[(20,⟨false,[dL x7]⟩)]⟩
theorem l4_eq:l4 (k+1) x3 i4 b5 i6 x7=if (decide (i6<(x3.length:Int)))=true then if (!b5)=true then if 0≤i6∧i6<(x3.length:Int)then if (decide ((x3.getD i6.toNat 0:Int)≥i4))=true then if 0≤i6∧i6<(x3.length:Int)then if (decide ((x3.getD i6.toNat 0:Int)>i4))=true then if x7.length+[i4].length≤bigA then if 0≤i6∧i6<(x3.length:Int)then if (x7++[i4]).length+[(x3.getD i6.toNat 0:Int)].length≤bigA then l4 k x3 i4 true (IntKind.i64.wrap (i6+1)) ((x7++[i4])++[(x3.getD i6.toNat 0:Int)])else none else none else none else if 0≤i6∧i6<(x3.length:Int)then if x7.length+[(x3.getD i6.toNat 0:Int)].length≤bigA then l4 k x3 i4 true (IntKind.i64.wrap (i6+1)) (x7++[(x3.getD i6.toNat 0:Int)])else none else none else none else if 0≤i6∧i6<(x3.length:Int)then if x7.length+[(x3.getD i6.toNat 0:Int)].length≤bigA then l4 k x3 i4 b5 (IntKind.i64.wrap (i6+1)) (x7++[(x3.getD i6.toNat 0:Int)])else none else none else none else if 0≤i6∧i6<(x3.length:Int)then if x7.length+[(x3.getD i6.toNat 0:Int)].length≤bigA then l4 k x3 i4 b5 (IntKind.i64.wrap (i6+1)) (x7++[(x3.getD i6.toNat 0:Int)])else none else none else if (!b5)=true then if x7.length+[i4].length≤bigA then some ((x7++[i4],()),())else none else some ((x7,()),()):=by kernel_rfl
variable (list_1:LI) (n_2:Int)
noncomputable def T:OL:=l4 k list_1 n_2 false (0:Int) ([]:LI)
theorem of {r} (h:Ev (fun k=>T k list_1 n_2) r):F (list_1,n_2,())=some r:=Ev.run (fun k=>by kernel_rfl) h
theorem S:a3L prog ⟨174,sig,F⟩:=sound_k (res:=[.tmp 4]) func174 (cok nM)
end Am5
namespace Am9
noncomputable def sig:Sig:=⟨[qC,pL,pL],[oL]⟩
noncomputable def cfg:Cfg:=cl (cx [⟨54,Aa1.sig,Aa1.F⟩,⟨174,Am5.sig,Am5.F⟩]) fun id=>match id with|3=>([0,1,2,7,8],[28])|_=>([],[])
noncomputable def fin:=finK cfg.c sig [.tmp 6]
noncomputable def F (d:LL×LI×LI×Unit):OL:=anyK (a9n cfg fin (bd f131) (a6P sig.ps d 29))
variable (k:Nat) (x4:LL) (x5 x6:LI) (i7:Int) (x8:LI)
noncomputable def l3:OL:=Vm.runT cfg fin k [.inLoop (sub [1,1,0,1,0,0] (bd f131)),.inBlock 0,.code (sub [1,1,1] (bd f131))] ⟨[.rptr false [cQ x4],vL x5,vL x6,dD,dD,dD,dD,.view 28 (.root 0) 1 false,vI i7]++a9v 20,[(28,⟨false,[dL x8]⟩)]⟩
theorem l3_eq:l3 (k+1) x4 x5 x6 i7 x8=if (decide (i7<(x6.length:Int)))=true then if 0≤i7∧i7≤(IntKind.i64.wrap (i7+1))∧(IntKind.i64.wrap (i7+1))≤(x6.length:Int)then(Aa1.F (x4,cutL x6 i7 (IntKind.i64.wrap (i7+1)),())).bind fun r9=>if 0≤r9.1.1∧r9.1.1<(x5.length:Int)then(Am5.F (x8,x5.getD r9.1.1.toNat 0,())).bind fun r10=>l3 k x4 x5 x6 (IntKind.i64.wrap (i7+1)) r10.1.1 else none else none else some ((x8,()),()):=by kernel_rfl
variable (c_1:LL) (images_2 s_3:LI)
noncomputable def T:OL:=l3 k c_1 images_2 s_3 (0:Int) ([]:LI)
theorem of {r} (h:Ev (fun k=>T k c_1 images_2 s_3) r):F (c_1,images_2,s_3,())=some r:=Ev.run (fun k=>by kernel_rfl) h
theorem S:a3L prog ⟨131,sig,F⟩:=sound_k (res:=[.tmp 6]) func131 (cok (cM ⟨Aa1.S,cM ⟨Am5.S,nM⟩⟩))
end Am9
namespace Am8
noncomputable def sig:Sig:=⟨[qC,pI],[oC]⟩
noncomputable def cfg:Cfg:=cl (cx [⟨56,Ab2.sig,Ab2.F⟩]) fun id=>match id with|3=>([0,1,4,5,6],[16,20])|_=>([],[])
noncomputable def fin:=finK cfg.c sig [.cell 4 33]
noncomputable def F (d:LL×Int×Unit):OQ:=anyK (a9n cfg fin (bd f175) (a6P sig.ps d 43))
variable (k:Nat) (x3:LL) (i4 i5:Int) (x6 x7:LL)
noncomputable def l3:OQ:=Vm.runT cfg fin k [.inLoop (sub [1,1,0,1,0,0] (bd f175)),.inBlock 0,.code (sub [1,1,1] (bd f175))] ⟨[.rptr false [cQ x3],vI i4,dD,dD,.ref 16 (.root 0),.ref 20 (.root 0),vI i5]++a9v 36,[(16,⟨true,[dQ x6]⟩),(20,⟨true,[dQ x7]⟩)]⟩
theorem l3_eq:l3 (k+1) x3 i4 i5 x6 x7=if (decide (i5<(x3.length:Int)))=true then if 0≤i5∧i5<(x3.length:Int)then if (decide (((x3.getD i5.toNat ([]:LI)).length:Int)≤(IntKind.i64.wrap (i4+1))))=true then if 0≤i5∧i5<(x3.length:Int)then(Ab2.F (x3.getD i5.toNat ([]:LI),())).bind fun r8=>if x7.length+[r8.1.1].length≤bigA then l3 k x3 i4 (IntKind.i64.wrap (i5+1)) x6 (x7++[r8.1.1])else none else none else l3 k x3 i4 (IntKind.i64.wrap (i5+1)) x6 x7 else none else some ((x7,()),()):=by kernel_rfl
variable (c_1:LL) (dimension_2:Int)
noncomputable def T:OQ:=l3 k c_1 dimension_2 (0:Int) ([]:LL) ([]:LL)
theorem of {r} (h:Ev (fun k=>T k c_1 dimension_2) r):F (c_1,dimension_2,())=some r:=Ev.run (fun k=>by kernel_rfl) h
theorem S:a3L prog ⟨175,sig,F⟩:=sound_k (res:=[.cell 4 33]) func175 (cok (cM ⟨Ab2.S,nM⟩))
end Am8
namespace Ag1
noncomputable def sig:Sig:=⟨[qC,pI,pL],[oS]⟩
noncomputable def cfg:Cfg:=cl (cx [⟨56,Ab2.sig,Ab2.F⟩,⟨122,Aa2.sig,Aa2.F⟩,⟨126,Ad0.sig,Ad0.F⟩,⟨175,Am8.sig,Am8.F⟩]) fun id=>match id with|3=>([0,1,2,6,7,8],[24,28])|7=>([0,1,2,6,7,8,9,10],[24,28,36])|_=>([],[])
noncomputable def fin:=finK cfg.c sig [.cell 6 36]
noncomputable def F (d:LL×Int×LI×Unit):OS:=anyK (a9n cfg fin (bd f132) (a6P sig.ps d 55))
variable (k:Nat) (x6:LL) (i7:Int) (x8:LI) (i9:Int) (x10:LL) (i11:Int) (x12:LI) (x13:LM) (x14:LL) (i15:Int) (x16:LI) (x17:LM)
noncomputable def l3:OS:=Vm.runT cfg fin k [.inLoop (sub [1,1,0,1,0,0] (bd f132)),.inBlock 0,.code (sub [1,1,1] (bd f132))] ⟨[.rptr false [cQ x6],vI i7,vL x8,dD,dD,dD,.ref 24 (.root 0),.ref 28 (.root 0),vI i9]++a9v 46,[(24,⟨true,[dQ x10,cI i11,dL x12,⟨(.sl TMatrix),.deep,x13⟩]⟩),(28,⟨true,[dQ x14,cI i15,dL x16,⟨(.sl TMatrix),.deep,x17⟩]⟩)]⟩
variable (x19:LL) (i20:Int) (x21:LI) (i22 i23:Int) (x24:LL) (i25:Int) (x26:LI) (x27:LM) (x28:LL) (i29:Int) (x30:LI) (x31:LM) (x32:LI)
noncomputable def l7:OS:=Vm.runT cfg fin k [.inLoop (sub [1,1,0,1,0,0,1,0,0,1,1,0,0] (bd f132)),.inBlock 2,.inBlock 1,.code (sub [1,1,0,1,0,0,1,1] (bd f132)),.inLoop (sub [1,1,0,1,0,0] (bd f132)),.inBlock 0,.code (sub [1,1,1] (bd f132))] ⟨[.rptr false [cQ x19],vI i20,vL x21,dD,dD,dD,.ref 24 (.root 0),.ref 28 (.root 0),vI i22,.view 36 (.root 0) 1 false,vI i23]++a9v 44,[(24,⟨true,[dQ x24,cI i25,dL x26,⟨(.sl TMatrix),.deep,x27⟩]⟩),(28,⟨true,[dQ x28,cI i29,dL x30,⟨(.sl TMatrix),.deep,x31⟩]⟩),(36,⟨false,[dL x32]⟩)]⟩
theorem l3_eq:l3 (k+1) x6 i7 x8 i9 x10 i11 x12 x13 x14 i15 x16 x17=if (decide (i9<(x6.length:Int)))=true then(Aa2.F (x6,i9,())).bind fun r18=>l7 k x6 i7 x8 i9 (0:Int) x10 i11 x12 x13 x14 i15 x16 x17 r18.1.1 else some (((x14,(i15,(x16,x17))),()),()):=by kernel_rfl
theorem l7_eq:l7 (k+1) x19 i20 x21 i22 i23 x24 i25 x26 x27 x28 i29 x30 x31 x32=if (decide (i23<(x32.length:Int)))=true then if 0≤i22∧i22<(x21.length:Int)then if 0≤i23∧i23<(x32.length:Int)then if 0≤(x32.getD i23.toNat 0:Int)∧(x32.getD i23.toNat 0:Int)<(x21.length:Int)then(Ad0.F (i20,(x21.getD i22.toNat 0:Int),x21.getD (x32.getD i23.toNat 0:Int).toNat 0,())).bind fun r33=>if x31.length+[r33.1.1].length≤bigA then l7 k x19 i20 x21 i22 (IntKind.i64.wrap (i23+1)) x24 i25 x26 x27 x28 i29 x30 (x31++[r33.1.1]) x32 else none else none else none else none else l3 k x19 i20 x21 (IntKind.i64.wrap (i22+1)) x24 i25 x26 x27 x28 i29 x30 x31:=by kernel_rfl
variable (c_1:LL) (p_2:Int) (stalks_3:LI)
noncomputable def T:OS:=(Am8.F (c_1,(3:Int),())).bind fun r4=>(Ab2.F (stalks_3,())).bind fun r5=>l3 k c_1 p_2 stalks_3 (0:Int) ([]) 0 ([]) ([]) r4.1.1 p_2 r5.1.1 ([]:LM)
theorem of {r} (h:Ev (fun k=>T k c_1 p_2 stalks_3) r):F (c_1,p_2,stalks_3,())=some r:=Ev.run (fun k=>by kernel_rfl) h
theorem S:a3L prog ⟨132,sig,F⟩:=sound_k (res:=[.cell 6 36]) func132 (cok (cM ⟨Ab2.S,cM ⟨Aa2.S,cM ⟨Ad0.S,cM ⟨Am8.S,nM⟩⟩⟩⟩))
end Ag1
namespace Al4
noncomputable def sig:Sig:=⟨[pI,pI],[oM]⟩
noncomputable def cfg:Cfg:=cl (cx [⟨126,Ad0.sig,Ad0.F⟩]) fun id=>match id with|3=>([1,4,5,6],[16,20])|_=>([],[])
noncomputable def fin:=finK cfg.c sig [.cell 4 70]
noncomputable def F (d:Int×Int×Unit):OM:=anyK (a9n cfg fin (bd f176) (a6P sig.ps d 25))
variable (k:Nat) (i4 i5 i6 i7 i8:Int) (x9:LI) (i10 i11 i12:Int) (x13:LI)
noncomputable def l3:OM:=Vm.runT cfg fin k [.inLoop (sub [1,1,0,1,0,0] (bd f176)),.inBlock 0,.code (sub [1,1,1] (bd f176))] ⟨[dD,vI i4,dD,dD,.ref 16 (.root 0),.ref 20 (.root 0),vI i5]++a9v 18,[(16,⟨true,[cI i6,cI i7,cI i8,dL x9]⟩),(20,⟨true,[cI i10,cI i11,cI i12,dL x13]⟩)]⟩
theorem l3_eq:l3 (k+1) i4 i5 i6 i7 i8 x9 i10 i11 i12 x13=if (decide (i5<i4))=true then if 0≤(IntKind.i64.wrap ((IntKind.i64.wrap (i5*i4))+i5))∧(IntKind.i64.wrap ((IntKind.i64.wrap (i5*i4))+i5))<(x13.length:Int)then l3 k i4 (IntKind.i64.wrap (i5+1)) i6 i7 i8 x9 i10 i11 i12 (x13.set (IntKind.i64.wrap ((IntKind.i64.wrap (i5*i4))+i5)).toNat (1:Int))else none else some (((i10,(i11,(i12,x13))),()),()):=by kernel_rfl
variable (p_1 n_2:Int)
noncomputable def T:OM:=(Ad0.F (p_1,n_2,n_2,())).bind fun r3=>l3 k n_2 (0:Int) 0 0 0 ([]) r3.1.1.1 r3.1.1.2.1 r3.1.1.2.2.1 r3.1.1.2.2.2
theorem of {r} (h:Ev (fun k=>T k p_1 n_2) r):F (p_1,n_2,())=some r:=Ev.run (fun k=>by kernel_rfl) h
theorem S:a3L prog ⟨176,sig,F⟩:=sound_k (res:=[.cell 4 70]) func176 (cok (cM ⟨Ad0.S,nM⟩))
end Al4
namespace Al3
noncomputable def sig:Sig:=⟨[pL,pI],[oB]⟩
noncomputable def cfg:Cfg:=cl (cx []) fun id=>match id with|2=>([0,1,5],[])|_=>([],[])
noncomputable def fin:=finK cfg.c sig [.tmp 4]
noncomputable def F (d:LI×Int×Unit):OB:=anyK (a9n cfg fin (bd f177) (a6P sig.ps d 18))
variable (k:Nat) (x3:LI) (i4 i5:Int)
noncomputable def l2:OB:=Vm.runT cfg fin k [.inLoop (sub [1,0,1,0,0] (bd f177)),.inBlock 0,.code (sub [1,1] (bd f177))] ⟨[vL x3,vI i4,dD,dD,dD,vI i5]++a9v 12,[]⟩
theorem l2_eq:l2 (k+1) x3 i4 i5=if (decide (i5<(x3.length:Int)))=true then if 0≤i5∧i5<(x3.length:Int)then if ((x3.getD i5.toNat 0:Int)==i4)=true then some ((true,()),())else l2 k x3 i4 (IntKind.i64.wrap (i5+1))else none else some ((false,()),()):=by kernel_rfl
variable (list_1:LI) (n_2:Int)
noncomputable def T:OB:=l2 k list_1 n_2 (0:Int)
theorem of {r} (h:Ev (fun k=>T k list_1 n_2) r):F (list_1,n_2,())=some r:=Ev.run (fun k=>by kernel_rfl) h
theorem S:a3L prog ⟨177,sig,F⟩:=sound_k (res:=[.tmp 4]) func177 (cok nM)
end Al3
namespace Ae6
noncomputable def sig:Sig:=⟨[qS,pI,pI],[oM]⟩
noncomputable def ctx (self:(SF×Int×Int×Unit)→OM):Ctx:=⟨a2i tabl,[⟨122,Aa2.sig,Aa2.F⟩,⟨124,Ac5.sig,Ac5.F⟩,⟨125,Aa4.sig,Aa4.F⟩,⟨176,Al4.sig,Al4.F⟩,⟨177,Al3.sig,Al3.F⟩,⟨133,sig,self⟩],[],[],[],[]⟩
noncomputable def cfg (self:(SF×Int×Int×Unit)→OM):Cfg:=⟨(ctx self),[],[],fun id=>match id with|5=>([0,1,2,6,7,8],[24])|_=>([],[]),fun _=>[]⟩
noncomputable def code:Code:=(f133).body.getD .skip
noncomputable def fin (self:(SF×Int×Int×Unit)→OM):=finK (ctx self) sig [.cell 6 70]
noncomputable def step (self:(SF×Int×Int×Unit)→OM) (d:SF×Int×Int×Unit):OM:=anyK (a9n (cfg self) (fin self) code (a6P sig.ps d 64))
variable (self:(SF×Int×Int×Unit)→OM) (k:Nat) (x8:LL) (i9:Int) (x10:LI) (x11:LM) (i12 i13:Int) (x14:LI) (i15 i16 i17 i18:Int) (x19:LI)
noncomputable def l5:OM:=Vm.runT (cfg self) (fin self) k [.inLoop (sub [1,1,1,1,0,0,0] code),.inBlock 0,.code (sub [1,1,1,1,1] code)] ⟨[.rptr false [cQ x8,cI i9,cL x10,⟨(.sl TMatrix),.sh,x11⟩],vI i12,vI i13,dD,dD,dD,.ref 24 (.root 0),vL x14,vI i15]++a9v 55,[(24,⟨true,[cI i16,cI i17,cI i18,dL x19]⟩)]⟩
theorem l5_eq:l5 self (k+1) x8 i9 x10 x11 i12 i13 x14 i15 i16 i17 i18 x19=if 0≤i12∧i12<(x8.length:Int)then if 0≤i15∧i15<(x14.length:Int)then(Al3.F (x8.getD i12.toNat ([]:LI),(x14.getD i15.toNat 0:Int),())).bind fun r20=>if r20.1.1=true then l5 self k x8 i9 x10 x11 i12 i13 x14 (IntKind.i64.wrap (i15+1)) i16 i17 i18 x19 else(Aa2.F (x8,i13,())).bind fun r21=>if 0≤i15∧i15<(r21.1.1.length:Int)then(self ((x8,(i9,(x10,x11))),i12,(r21.1.1.getD i15.toNat 0:Int),())).bind fun r22=>(Aa4.F ((x8,(i9,(x10,x11))),i13,i15,())).bind fun r23=>(Ac5.F (r23.1.1,r22.1.1,())).bind fun r24=>some ((r24.1.1,()),())else none else none else none:=by kernel_rfl
variable (s_1:LL) (s_2:Int) (s_3:LI) (s_4:LM) (face_5 simplex_6:Int)
noncomputable def T:OM:=if (face_5==simplex_6)=true then if 0≤face_5∧face_5<(s_3.length:Int)then(Al4.F (s_2,(s_3.getD face_5.toNat 0:Int),())).bind fun r7=>some ((r7.1.1,()),())else none else if 0≤simplex_6∧simplex_6<(s_1.length:Int)then l5 self k s_1 s_2 s_3 s_4 face_5 simplex_6 (s_1.getD simplex_6.toNat ([]:LI)) (0:Int) 0 0 0 ([])else none
theorem run (self:(SF×Int×Int×Unit)→OM) (k:Nat) (s_1:LL) (s_2:Int) (s_3:LI) (s_4:LM) (face_5 simplex_6:Int):a9n (cfg self) (fin self) code (a6P sig.ps ((s_1,(s_2,(s_3,s_4))),face_5,simplex_6,()) 64) k=T self k s_1 s_2 s_3 s_4 face_5 simplex_6:=by kernel_rfl
theorem of {r} (h:Ev (fun k=>T self k s_1 s_2 s_3 s_4 face_5 simplex_6) r):step self ((s_1,(s_2,(s_3,s_4))),face_5,simplex_6,())=some r:=Ev.run (fun k=>run self k s_1 s_2 s_3 s_4 face_5 simplex_6) h
theorem ok (self:(SF×Int×Int×Unit)→OM) (hs:a3L prog ⟨133,sig,self⟩):CtxOK prog (ctx self):=⟨nilM,mixed_ok,tab_ok tab_good,consM ⟨Aa2.S,consM ⟨Ac5.S,consM ⟨Aa4.S,consM ⟨Al4.S,consM ⟨Al3.S,consM ⟨hs,nilM⟩⟩⟩⟩⟩⟩,nilM,nilM⟩
theorem stepS (self:(SF×Int×Int×Unit)→OM) (hs:a3L prog ⟨133,sig,self⟩):a3L prog ⟨133,sig,step self⟩:=b3Z (fn:=f133) (code:=code) (g:=cfg self) (res:=[.cell 6 70]) func133 (by kernel_rfl) (by kernel_rfl) (ok self hs) (by kernel_rfl) (by kernel_rfl) (Nat.le_of_ble_eq_true (by kernel_rfl)) (by kernel_rfl)
noncomputable def R:Nat→(SF×Int×Int×Unit)→OM:=recF step
noncomputable def F (d:SF×Int×Int×Unit):OM:=anyE fun q=>R q d
theorem ofR {d:SF×Int×Int×Unit} {r:(MX×Unit)×(Unit)} (h:Ev (fun q=>R q d) r):F d=some r:=anyE_of h
theorem S:a3L prog ⟨133,sig,F⟩:=sound_rec ⟨_,func133,by kernel_rfl,by kernel_rfl⟩ fun self h=>stepS self h
end Ae6
namespace Af8
noncomputable def sig:Sig:=⟨[qS,qC,pL],[oS]⟩
noncomputable def cfg:Cfg:=cl (cx [⟨54,Aa1.sig,Aa1.F⟩,⟨79,Ab8.sig,Ab8.F⟩,⟨122,Aa2.sig,Aa2.F⟩,⟨131,Am9.sig,Am9.F⟩,⟨132,Ag1.sig,Ag1.F⟩,⟨133,Ae6.sig,Ae6.F⟩]) fun id=>match id with|4=>([0,1,2,6,7,8,9],[24,28,32])|11=>([0,1,6,7,11,12],[24,28,44])|15=>([0,1,6,7,11,12,13,14],[24,28,44,52])|_=>([],[])
noncomputable def fin:=finK cfg.c sig [.cell 6 36]
noncomputable def F (d:SF×LL×LI×Unit):OS:=anyK (a9n cfg fin (bd f88) (a6P sig.ps d 100))
variable (k:Nat) (x7:LL) (i8:Int) (x9:LI) (x10:LM) (x11:LL) (x12:LI) (i13:Int) (x14:LL) (i15:Int) (x16:LI) (x17:LM) (x18 x19:LI)
noncomputable def l4:OS:=Vm.runT cfg fin k [.inLoop (sub [1,1,1,0,1,0,0] (bd f88)),.inBlock 0,.code (sub [1,1,1,1] (bd f88))] ⟨[.rptr false [cQ x7,cI i8,cL x9,⟨(.sl TMatrix),.sh,x10⟩],.rptr false [cQ x11],vL x12,dD,dD,dD,.ref 24 (.root 0),.view 28 (.root 0) 1 false,.view 32 (.root 0) 1 false,vI i13]++a9v 90,[(24,⟨true,[dQ x14,cI i15,dL x16,⟨(.sl TMatrix),.deep,x17⟩]⟩),(28,⟨false,[dL x18]⟩),(32,⟨false,[dL x19]⟩)]⟩
variable (x23:LL) (i24:Int) (x25:LI) (x26:LM) (x27:LL) (i28:Int) (x29:LL) (i30:Int) (x31:LI) (x32:LM) (x33:LI) (x34:LL) (i35:Int) (x36:LI) (x37:LM)
noncomputable def l11:OS:=Vm.runT cfg fin k [.inLoop (sub [1,1,1,1,1,0,1,0,0] (bd f88)),.inBlock 2,.code (sub [1,1,1,1,1,1] (bd f88))] ⟨[.rptr false [cQ x23,cI i24,cL x25,⟨(.sl TMatrix),.sh,x26⟩],.rptr false [cQ x27],dD,dD,dD,dD,.ref 24 (.root 0),.view 28 (.root 0) 1 false,dD,dD,dD,.ref 44 (.root 0),vI i28]++a9v 87,[(24,⟨true,[dQ x29,cI i30,dL x31,⟨(.sl TMatrix),.deep,x32⟩]⟩),(28,⟨false,[dL x33]⟩),(44,⟨true,[dQ x34,cI i35,dL x36,⟨(.sl TMatrix),.deep,x37⟩]⟩)]⟩
variable (x39:LL) (i40:Int) (x41:LI) (x42:LM) (x43:LL) (i44 i45:Int) (x46:LL) (i47:Int) (x48:LI) (x49:LM) (x50:LI) (x51:LL) (i52:Int) (x53:LI) (x54:LM) (x55:LI)
noncomputable def l15:OS:=Vm.runT cfg fin k [.inLoop (sub [1,1,1,1,1,0,1,0,0,1,0,0,1,1,0,0] (bd f88)),.inBlock 4,.inBlock 3,.code (sub [1,1,1,1,1,0,1,0,0,1,1] (bd f88)),.inLoop (sub [1,1,1,1,1,0,1,0,0] (bd f88)),.inBlock 2,.code (sub [1,1,1,1,1,1] (bd f88))] ⟨[.rptr false [cQ x39,cI i40,cL x41,⟨(.sl TMatrix),.sh,x42⟩],.rptr false [cQ x43],dD,dD,dD,dD,.ref 24 (.root 0),.view 28 (.root 0) 1 false,dD,dD,dD,.ref 44 (.root 0),vI i44,.view 52 (.root 0) 1 false,vI i45]++a9v 85,[(24,⟨true,[dQ x46,cI i47,dL x48,⟨(.sl TMatrix),.deep,x49⟩]⟩),(28,⟨false,[dL x50]⟩),(44,⟨true,[dQ x51,cI i52,dL x53,⟨(.sl TMatrix),.deep,x54⟩]⟩),(52,⟨false,[dL x55]⟩)]⟩
theorem l4_eq:l4 (k+1) x7 i8 x9 x10 x11 x12 i13 x14 i15 x16 x17 x18 x19=if (decide (i13<(x11.length:Int)))=true then if 0≤i13∧i13<(x11.length:Int)then(Am9.F (x11,x12,x11.getD i13.toNat ([]:LI),())).bind fun r20=>(Aa1.F (x7,r20.1.1,())).bind fun r21=>if x18.length+[r21.1.1].length≤bigA then if 0≤r21.1.1∧r21.1.1<(x9.length:Int)then if x19.length+[x9.getD r21.1.1.toNat 0].length≤bigA then l4 k x7 i8 x9 x10 x11 x12 (IntKind.i64.wrap (i13+1)) x14 i15 x16 x17 (x18++[r21.1.1]) (x19++[x9.getD r21.1.1.toNat 0])else none else none else none else none else(Ag1.F (x11,i8,x19,())).bind fun r22=>l11 k x7 i8 x9 x10 x11 (0:Int) x14 i15 x16 x17 x18 r22.1.1.1 r22.1.1.2.1 r22.1.1.2.2.1 r22.1.1.2.2.2:=by kernel_rfl
theorem l11_eq:l11 (k+1) x23 i24 x25 x26 x27 i28 x29 i30 x31 x32 x33 x34 i35 x36 x37=if (decide (i28<(x27.length:Int)))=true then(Aa2.F (x27,i28,())).bind fun r38=>l15 k x23 i24 x25 x26 x27 i28 (0:Int) x29 i30 x31 x32 x33 x34 i35 x36 x37 r38.1.1 else some (((x34,(i35,(x36,x37))),()),()):=by kernel_rfl
theorem l15_eq:l15 (k+1) x39 i40 x41 x42 x43 i44 i45 x46 i47 x48 x49 x50 x51 i52 x53 x54 x55=if (decide (i45<(x55.length:Int)))=true then(Ab8.F (x43,i44,i45,())).bind fun r56=>if 0≤i45∧i45<(x55.length:Int)then if 0≤(x55.getD i45.toNat 0:Int)∧(x55.getD i45.toNat 0:Int)<(x50.length:Int)then if 0≤i44∧i44<(x50.length:Int)then(Ae6.F ((x39,(i40,(x41,x42))),x50.getD (x55.getD i45.toNat 0:Int).toNat 0,(x50.getD i44.toNat 0:Int),())).bind fun r57=>if 0≤r56.1.1∧r56.1.1<(x54.length:Int)then l15 k x39 i40 x41 x42 x43 i44 (IntKind.i64.wrap (i45+1)) x46 i47 x48 x49 x50 x51 i52 x53 (x54.set r56.1.1.toNat r57.1.1) x55 else none else none else none else none else l11 k x39 i40 x41 x42 x43 (IntKind.i64.wrap (i44+1)) x46 i47 x48 x49 x50 x51 i52 x53 x54:=by kernel_rfl
variable (toArray_1:LL) (toArray_2:Int) (toArray_3:LI) (toArray_4:LM) (a_5:LL) (a_6:LI)
noncomputable def T:OS:=l4 k toArray_1 toArray_2 toArray_3 toArray_4 a_5 a_6 (0:Int) ([]) 0 ([]) ([]) ([]:LI) ([]:LI)
theorem of {r} (h:Ev (fun k=>T k toArray_1 toArray_2 toArray_3 toArray_4 a_5 a_6) r):F ((toArray_1,(toArray_2,(toArray_3,toArray_4))),a_5,a_6,())=some r:=Ev.run (fun k=>by kernel_rfl) h
theorem S:a3L prog ⟨88,sig,F⟩:=sound_k (res:=[.cell 6 36]) func88 (cok (cM ⟨Aa1.S,cM ⟨Ab8.S,cM ⟨Aa2.S,cM ⟨Am9.S,cM ⟨Ag1.S,cM ⟨Ae6.S,nM⟩⟩⟩⟩⟩⟩))
end Af8
namespace Al5
noncomputable def sig:Sig:=⟨[qC],[oL]⟩
noncomputable def cfg:Cfg:=cl (cx [⟨127,Ae5.sig,Ae5.F⟩]) fun id=>match id with|4=>([0,3,4,5],[12,16])|_=>([],[])
noncomputable def fin:=finK cfg.c sig [.tmp 2]
noncomputable def F (d:LL×Unit):OL:=anyK (a9n cfg fin (bd f89) (a6P sig.ps d 31))
variable (k:Nat) (x3:LL) (i4:Int) (x5 x6:LI)
noncomputable def l4:OL:=Vm.runT cfg fin k [.inLoop (sub [1,1,1,0,1,0,0] (bd f89)),.inBlock 0,.code (sub [1,1,1,1] (bd f89))] ⟨[.rptr false [cQ x3],dD,dD,.view 12 (.root 0) 1 false,.view 16 (.root 0) 1 false,vI i4]++a9v 25,[(12,⟨false,[dL x5]⟩),(16,⟨false,[dL x6]⟩)]⟩
theorem l4_eq:l4 (k+1) x3 i4 x5 x6=if (decide (i4<(x6.length:Int)))=true then if 0≤i4∧i4<(x6.length:Int)then if 0≤(x6.getD i4.toNat 0:Int)∧(x6.getD i4.toNat 0:Int)<(x3.length:Int)then if 0≤(0:Int)∧(0:Int)<((x3.getD (x6.getD i4.toNat 0:Int).toNat ([]:LI)).length:Int)then if x5.length+[(x3.getD (x6.getD i4.toNat 0:Int).toNat ([]:LI)).getD (0:Int).toNat 0].length≤bigA then l4 k x3 (IntKind.i64.wrap (i4+1)) (x5++[(x3.getD (x6.getD i4.toNat 0:Int).toNat ([]:LI)).getD (0:Int).toNat 0]) x6 else none else none else none else none else some ((x5,()),()):=by kernel_rfl
variable (c_1:LL)
noncomputable def T:OL:=(Ae5.F (c_1,(0:Int),())).bind fun r2=>l4 k c_1 (0:Int) ([]:LI) r2.1.1
theorem of {r} (h:Ev (fun k=>T k c_1) r):F (c_1,())=some r:=Ev.run (fun k=>by kernel_rfl) h
theorem S:a3L prog ⟨89,sig,F⟩:=sound_k (res:=[.tmp 2]) func89 (cok (cM ⟨Ae5.S,nM⟩))
end Al5
namespace Al2
noncomputable def sig:Sig:=⟨[pS,pC],[oS,oI]⟩
noncomputable def cfg:Cfg:=cf (cx [⟨36,Ad1.sig,Ad1.F⟩,⟨37,Aa3.sig,Aa3.F⟩,⟨87,An0.sig,An0.F⟩,⟨88,Af8.sig,Af8.F⟩,⟨89,Al5.sig,Al5.F⟩])
noncomputable def fin:=finK cfg.c sig [.cell 4 36,.tmp 5]
noncomputable def F (d:SF×LL×Unit):Option ((SF×Int×Unit)×(Unit)):=anyK (a9n cfg fin (bd f58) (a6P sig.ps d 19))
variable (s_1:LL) (s_2:Int) (s_3:LI) (s_4:LM) (part_5:LL)
noncomputable def T:Option ((SF×Int×Unit)×(Unit)):=(Ad1.F ((s_1,(s_2,(s_3,s_4))),())).bind fun r6=>if (!r6.1.1)=true then some ((([],(0,([],[]))),((1:Int),())),())else(Aa3.F (part_5,())).bind fun r7=>if (!r7.1.1)=true then some ((([],(0,([],[]))),((1:Int),())),())else(An0.F (part_5,s_1,())).bind fun r8=>if (!r8.1.1)=true then some ((([],(0,([],[]))),((6:Int),())),())else(Al5.F (part_5,())).bind fun r9=>(Af8.F ((s_1,(s_2,(s_3,s_4))),part_5,r9.1.1,())).bind fun r10=>some ((r10.1.1,((0:Int),())),())
theorem eq:F ((s_1,(s_2,(s_3,s_4))),part_5,())=T s_1 s_2 s_3 s_4 part_5:=eq_any fun k=>by kernel_rfl
theorem S:a3L prog ⟨58,sig,F⟩:=sound_k (res:=[.cell 4 36,.tmp 5]) func58 (cok (cM ⟨Ad1.S,cM ⟨Aa3.S,cM ⟨An0.S,cM ⟨Af8.S,cM ⟨Al5.S,nM⟩⟩⟩⟩⟩))
end Al2
namespace Af9
noncomputable def sig:Sig:=⟨[qS,qC],[oS]⟩
noncomputable def cfg:Cfg:=cf (cx [⟨58,Al2.sig,Al2.F⟩])
noncomputable def fin:=finK cfg.c sig [.cell 4 36]
noncomputable def F (d:SF×LL×Unit):OS:=anyK (a9n cfg fin (bd f41) (a6P sig.ps d 18))
variable (s_1:LL) (s_2:Int) (s_3:LI) (s_4:LM) (part_5:LL)
noncomputable def T:OS:=(Al2.F ((s_1,(s_2,(s_3,s_4))),part_5,())).bind fun r6=>some ((r6.1.1,()),())
theorem eq:F ((s_1,(s_2,(s_3,s_4))),part_5,())=T s_1 s_2 s_3 s_4 part_5:=eq_any fun k=>by kernel_rfl
theorem S:a3L prog ⟨41,sig,F⟩:=sound_k (res:=[.cell 4 36]) func41 (cok (cM ⟨Al2.S,nM⟩))
end Af9
namespace Al7
noncomputable def sig:Sig:=⟨[qS,qC,qC],[oQ]⟩
noncomputable def cfg:Cfg:=cf (cx [⟨39,Ad2.sig,Ad2.F⟩,⟨40,Ad8.sig,Ad8.F⟩,⟨41,Af9.sig,Af9.F⟩])
noncomputable def fin:=finK cfg.c sig [.tmp 6]
noncomputable def F (d:SF×LL×LL×Unit):OQ:=anyK (a9n cfg fin (bd f24) (a6P sig.ps d 58))
variable (s_1:LL) (s_2:Int) (s_3:LI) (s_4:LM) (a_5 b_6:LL)
noncomputable def T:OQ:=(Ad2.F (a_5,b_6,())).bind fun r7=>(Ad8.F ((s_1,(s_2,(s_3,s_4))),())).bind fun r8=>if ([]:LL).length+[r8.1.1].length≤bigA then(Af9.F ((s_1,(s_2,(s_3,s_4))),a_5,())).bind fun r9=>(Ad8.F (r9.1.1,())).bind fun r10=>if (([]:LL)++[r8.1.1]).length+[r10.1.1].length≤bigA then(Af9.F ((s_1,(s_2,(s_3,s_4))),b_6,())).bind fun r11=>(Ad8.F (r11.1.1,())).bind fun r12=>if ((([]:LL)++[r8.1.1])++[r10.1.1]).length+[r12.1.1].length≤bigA then(Af9.F ((s_1,(s_2,(s_3,s_4))),r7.1.1,())).bind fun r13=>(Ad8.F (r13.1.1,())).bind fun r14=>if (((([]:LL)++[r8.1.1])++[r10.1.1])++[r12.1.1]).length+[r14.1.1].length≤bigA then some (((((([]:LL)++[r8.1.1])++[r10.1.1])++[r12.1.1])++[r14.1.1],()),())else none else none else none else none
theorem eq:F ((s_1,(s_2,(s_3,s_4))),a_5,b_6,())=T s_1 s_2 s_3 s_4 a_5 b_6:=eq_any fun k=>by kernel_rfl
theorem S:a3L prog ⟨24,sig,F⟩:=sound_k (res:=[.tmp 6]) func24 (cok (cM ⟨Ad2.S,cM ⟨Ad8.S,cM ⟨Af9.S,nM⟩⟩⟩))
end Al7
namespace Af5
noncomputable def sig:Sig:=⟨[pS,pC,pC],[oQ,oI]⟩
noncomputable def cfg:Cfg:=cl (cx [⟨23,Al6.sig,Al6.F⟩,⟨24,Al7.sig,Al7.F⟩]) fun id=>match id with|8=>([9,10,11,12],[36,40])|_=>([],[])
noncomputable def fin:=finK cfg.c sig [.tmp 6,.tmp 7]
noncomputable def F (d:SF×LL×LL×Unit):Option ((LL×Int×Unit)×(Unit)):=anyK (a9n cfg fin (bd f18) (a6P sig.ps d 64))
variable (k:Nat) (i9 i10:Int) (x11 x12:LL)
noncomputable def l8:Option ((LL×Int×Unit)×(Unit)):=Vm.runT cfg fin k [.inLoop (sub [1,1,1,1,1,1,0,1,0,0] (bd f18)),.inBlock 0,.code (sub [1,1,1,1,1,1,1] (bd f18))] ⟨[dD,dD,dD,dD,dD,dD,dD,dD,dD,.view 36 (.root 0) 1 false,.view 40 (.root 0) 1 false,vI i9,vI i10]++a9v 51,[(36,⟨false,[dQ x11]⟩),(40,⟨false,[dQ x12]⟩)]⟩
theorem l8_eq:l8 (k+1) i9 i10 x11 x12=if (decide (i10≤3))=true then if 0≤(0:Int)∧(0:Int)<(x11.length:Int)then if 0≤i10∧i10<((x11.getD (0:Int).toNat ([]:LI)).length:Int)then if 0≤(1:Int)∧(1:Int)<(x11.length:Int)then if 0≤i10∧i10<((x11.getD (1:Int).toNat ([]:LI)).length:Int)then if 0≤(2:Int)∧(2:Int)<(x11.length:Int)then if 0≤i10∧i10<((x11.getD (2:Int).toNat ([]:LI)).length:Int)then if 0≤(3:Int)∧(3:Int)<(x11.length:Int)then if 0≤i10∧i10<((x11.getD (3:Int).toNat ([]:LI)).length:Int)then if x12.length+[[IntKind.i64.wrap (((x11.getD (0:Int).toNat ([]:LI)).getD i10.toNat 0)-i9),IntKind.i64.wrap ((IntKind.i64.wrap (((x11.getD (1:Int).toNat ([]:LI)).getD i10.toNat 0)+((x11.getD (2:Int).toNat ([]:LI)).getD i10.toNat 0)))-(IntKind.i64.wrap (((x11.getD (0:Int).toNat ([]:LI)).getD i10.toNat 0)-i9))),IntKind.i64.wrap (((x11.getD (3:Int).toNat ([]:LI)).getD i10.toNat 0)-(IntKind.i64.wrap ((IntKind.i64.wrap (((x11.getD (1:Int).toNat ([]:LI)).getD i10.toNat 0)+((x11.getD (2:Int).toNat ([]:LI)).getD i10.toNat 0)))-(IntKind.i64.wrap (((x11.getD (0:Int).toNat ([]:LI)).getD i10.toNat 0)-i9)))))]].length≤bigA then l8 k (IntKind.i64.wrap (((x11.getD (3:Int).toNat ([]:LI)).getD i10.toNat 0)-(IntKind.i64.wrap ((IntKind.i64.wrap (((x11.getD (1:Int).toNat ([]:LI)).getD i10.toNat 0)+((x11.getD (2:Int).toNat ([]:LI)).getD i10.toNat 0)))-(IntKind.i64.wrap (((x11.getD (0:Int).toNat ([]:LI)).getD i10.toNat 0)-i9)))))) (IntKind.i64.wrap (i10+1)) x11 (x12++[[IntKind.i64.wrap (((x11.getD (0:Int).toNat ([]:LI)).getD i10.toNat 0)-i9),IntKind.i64.wrap ((IntKind.i64.wrap (((x11.getD (1:Int).toNat ([]:LI)).getD i10.toNat 0)+((x11.getD (2:Int).toNat ([]:LI)).getD i10.toNat 0)))-(IntKind.i64.wrap (((x11.getD (0:Int).toNat ([]:LI)).getD i10.toNat 0)-i9))),IntKind.i64.wrap (((x11.getD (3:Int).toNat ([]:LI)).getD i10.toNat 0)-(IntKind.i64.wrap ((IntKind.i64.wrap (((x11.getD (1:Int).toNat ([]:LI)).getD i10.toNat 0)+((x11.getD (2:Int).toNat ([]:LI)).getD i10.toNat 0)))-(IntKind.i64.wrap (((x11.getD (0:Int).toNat ([]:LI)).getD i10.toNat 0)-i9)))))]])else none else none else none else none else none else none else none else none else none else some ((x12,((0:Int),())),()):=by kernel_rfl
variable (s_1:LL) (s_2:Int) (s_3:LI) (s_4:LM) (a_5 b_6:LL)
noncomputable def T:Option ((LL×Int×Unit)×(Unit)):=(Al6.F ((s_1,(s_2,(s_3,s_4))),a_5,b_6,())).bind fun r7=>if (r7.1.1 !=0)=true then some (([],(r7.1.1,())),())else(Al7.F ((s_1,(s_2,(s_3,s_4))),a_5,b_6,())).bind fun r8=>l8 k (0:Int) (0:Int) r8.1.1 ([]:LL)
theorem of {r} (h:Ev (fun k=>T k s_1 s_2 s_3 s_4 a_5 b_6) r):F ((s_1,(s_2,(s_3,s_4))),a_5,b_6,())=some r:=Ev.run (fun k=>by kernel_rfl) h
theorem S:a3L prog ⟨18,sig,F⟩:=sound_k (res:=[.tmp 6,.tmp 7]) func18 (cok (cM ⟨Al6.S,cM ⟨Al7.S,nM⟩⟩))
end Af5
namespace Ai6
noncomputable def sig:Sig:=⟨[pL],[oB]⟩
noncomputable def cfg:Cfg:=cl (cx []) fun id=>match id with|2=>([0,3],[])|_=>([],[])
noncomputable def fin:=finK cfg.c sig [.tmp 2]
noncomputable def F (d:LI×Unit):OB:=anyK (a9n cfg fin (bd f98) (a6P sig.ps d 20))
variable (k:Nat) (x2:LI) (i3:Int)
noncomputable def l2:OB:=Vm.runT cfg fin k [.inLoop (sub [1,0,1,0,0] (bd f98)),.inBlock 0,.code (sub [1,1] (bd f98))] ⟨[vL x2,dD,dD,vI i3]++a9v 16,[]⟩
theorem l2_eq:l2 (k+1) x2 i3=if (decide (i3<(x2.length:Int)))=true then if 0≤(IntKind.i64.wrap (i3-1))∧(IntKind.i64.wrap (i3-1))<(x2.length:Int)then if 0≤i3∧i3<(x2.length:Int)then if (decide ((x2.getD (IntKind.i64.wrap (i3-1)).toNat 0)≥(x2.getD i3.toNat 0:Int)))=true then some ((false,()),())else l2 k x2 (IntKind.i64.wrap (i3+1))else none else none else some ((true,()),()):=by kernel_rfl
variable (list_1:LI)
noncomputable def T:OB:=l2 k list_1 (1:Int)
theorem of {r} (h:Ev (fun k=>T k list_1) r):F (list_1,())=some r:=Ev.run (fun k=>by kernel_rfl) h
theorem S:a3L prog ⟨98,sig,F⟩:=sound_k (res:=[.tmp 2]) func98 (cok nM)
end Ai6
namespace Ae4
noncomputable def sig:Sig:=⟨[pL,.fnx ⟨[(false,tI)],[oB]⟩],[oI]⟩
noncomputable def cfg:Cfg:=cl (cx []) fun id=>match id with|2=>([0,1,7,8],[])|_=>([],[])
noncomputable def fin:=finK cfg.c sig [.tmp 4]
noncomputable def F (d:LI×((Int×Unit)→Option (Bool×Unit))×Unit):OI:=anyK (a9n cfg fin (bd f145) (a6P sig.ps d 19))
variable (k:Nat) (x3:LI) (f4:(Int×Unit)→Option (Bool×Unit)) (i5 i6:Int)
noncomputable def l2:OI:=Vm.runT cfg fin k [.inLoop (sub [1,0,1,0,0] (bd f145)),.inBlock 0,.code (sub [1,1] (bd f145))] ⟨[vL x3,.fnx ⟨[(false,tI)],[(.val false,.bool,.deep)]⟩ f4,dD,dD,dD,dD,dD,vI i5,vI i6]++a9v 10,[]⟩
theorem l2_eq:l2 (k+1) x3 f4 i5 i6=if (decide (i6<i5))=true then if 0≤i6∧i6<(x3.length:Int)then(f4 ((x3.getD i6.toNat 0:Int),())).bind fun r7=>if r7.1=true then some ((i6,()),())else l2 k x3 f4 i5 (IntKind.i64.wrap (i6+1))else none else some (((-1:Int),()),()):=by kernel_rfl
variable (s_1:LI) (f_2:(Int×Unit)→Option (Bool×Unit))
noncomputable def T:OI:=l2 k s_1 f_2 (s_1.length:Int) (0:Int)
theorem of {r} (h:Ev (fun k=>T k s_1 f_2) r):F (s_1,f_2,())=some r:=Ev.run (fun k=>by kernel_rfl) h
theorem S:a3L prog ⟨145,sig,F⟩:=sound_k (res:=[.tmp 4]) func145 (cok nM)
end Ae4
namespace Ac9
noncomputable def sig:Sig:=⟨[pL,.fnx ⟨[(false,tI)],[oB]⟩],[oB]⟩
noncomputable def cfg:Cfg:=cf (cx [⟨145,Ae4.sig,Ae4.F⟩])
noncomputable def fin:=finK cfg.c sig [.tmp 4]
noncomputable def F (d:LI×((Int×Unit)→Option (Bool×Unit))×Unit):OB:=anyK (a9n cfg fin (bd f99) (a6P sig.ps d 9))
variable (s_1:LI) (f_2:(Int×Unit)→Option (Bool×Unit))
noncomputable def T:OB:=(Ae4.F (s_1,f_2,())).bind fun r3=>some ((decide (r3.1.1≥0),()),())
theorem eq:F (s_1,f_2,())=T s_1 f_2:=eq_any fun k=>by kernel_rfl
theorem S:a3L prog ⟨99,sig,F⟩:=sound_k (res:=[.tmp 4]) func99 (cok (cM ⟨Ae4.S,nM⟩))
end Ac9
namespace Ab1
noncomputable def sig:Sig:=⟨[pI,pI,pI],[oB]⟩
noncomputable def cfg:Cfg:=cf (cx [])
noncomputable def fin:=finK cfg.c sig [.tmp 6]
noncomputable def F (d:Int×Int×Int×Unit):OB:=anyK (a9n cfg fin (bd f134) (a6P sig.ps d 15))
variable (n_1 low_2 high_3:Int)
noncomputable def T:OB:=if (decide (n_1≥low_2))=true then some ((decide (n_1≤high_3),()),())else some ((false,()),())
theorem eq:F (n_1,low_2,high_3,())=T n_1 low_2 high_3:=eq_any fun k=>by kernel_rfl
theorem S:a3L prog ⟨134,sig,F⟩:=sound_k (res:=[.tmp 6]) func134 (cok nM)
end Ab1
namespace As3
noncomputable def sig:Sig:=⟨[pI],[oB]⟩
noncomputable def cfg:Cfg:=cf (cx [⟨134,Ab1.sig,Ab1.F⟩])
noncomputable def fin:=finK cfg.c sig [.tmp 2]
noncomputable def F (d:Int×Unit):OB:=anyK (a9n cfg fin (bd f101) (a6P sig.ps d 5))
variable (v_1:Int)
noncomputable def T:OB:=(Ab1.F (v_1,(0:Int),(9:Int),())).bind fun r2=>some ((r2.1.1,()),())
theorem eq:F (v_1,())=T v_1:=eq_any fun k=>by kernel_rfl
theorem S:a3L prog ⟨101,sig,F⟩:=sound_k (res:=[.tmp 2]) func101 (cok (cM ⟨Ab1.S,nM⟩))
end As3
namespace Ar1
noncomputable def sig:Sig:=⟨[pI],[oB]⟩
noncomputable def cfg:Cfg:=cf (cx [⟨101,As3.sig,As3.F⟩])
noncomputable def fin:=finK cfg.c sig [.tmp 2]
noncomputable def F (d:Int×Unit):OB:=anyK (a9n cfg fin (bd f100) (a6P sig.ps d 6))
variable (v_1:Int)
noncomputable def T:OB:=(As3.F (v_1,())).bind fun r2=>some ((!r2.1.1,()),())
theorem eq:F (v_1,())=T v_1:=eq_any fun k=>by kernel_rfl
theorem S:a3L prog ⟨100,sig,F⟩:=sound_k (res:=[.tmp 2]) func100 (cok (cM ⟨As3.S,nM⟩))
noncomputable def cloG (y:Unit) (d:Int×Unit):Option (Bool×Unit):=(F (b0V [] [(false,tI)] d y)).map (·.1)
noncomputable def clo:Clo:=⟨100,⟨[(false,tI)],[(.val false,.bool,.deep)]⟩,[],cloG⟩
theorem cloS:a2p prog clo:=sound_clo (s:=⟨[(false,tI)],[(.val false,.bool,.deep)]⟩) (caps:=[]) rfl S
end Ar1
namespace Ao3
noncomputable def sig:Sig:=⟨[pL],[oB]⟩
noncomputable def cfg:Cfg:=cf ⟨a2i tabl,[⟨98,Ai6.sig,Ai6.F⟩,⟨99,Ac9.sig,Ac9.F⟩],[Ar1.clo],[],[],[]⟩
noncomputable def fin:=finK cfg.c sig [.tmp 2]
noncomputable def F (d:LI×Unit):OB:=anyK (a9n cfg fin (bd f61) (a6P sig.ps d 20))
variable (s_1:LI)
noncomputable def T:OB:=if (decide ((s_1.length:Int)≥1))=true then if (decide ((s_1.length:Int)≤4))=true then(Ai6.F (s_1,())).bind fun r2=>if r2.1.1=true then(Ac9.F (s_1,Ar1.cloG (()),())).bind fun r3=>some ((!r3.1.1,()),())else some ((false,()),())else some ((false,()),())else some ((false,()),())
theorem eq:F (s_1,())=T s_1:=eq_any fun k=>by kernel_rfl
theorem S:a3L prog ⟨61,sig,F⟩:=sound_k (res:=[.tmp 2]) func61 (⟨nM,mixed_ok,tab_ok tab_good,cM ⟨Ai6.S,cM ⟨Ac9.S,nM⟩⟩,cM ⟨Ar1.cloS,nM⟩,nM⟩)
end Ao3
namespace Aj4
noncomputable def sig:Sig:=⟨[pL],[oI]⟩
noncomputable def cfg:Cfg:=cl (cx []) fun id=>match id with|3=>([3,6,7,8],[])|_=>([],[])
noncomputable def fin:=finK cfg.c sig [.tmp 2]
noncomputable def F (d:LI×Unit):OI:=anyK (a9n cfg fin (bd f102) (a6P sig.ps d 18))
variable (k:Nat) (i2:Int) (x3:LI) (i4 i5:Int)
noncomputable def l3:OI:=Vm.runT cfg fin k [.inLoop (sub [1,1,0,1,0,0] (bd f102)),.inBlock 0,.code (sub [1,1,1] (bd f102))] ⟨[dD,dD,dD,vI i2,dD,dD,vL x3,vI i4,vI i5]++a9v 9,[]⟩
theorem l3_eq:l3 (k+1) i2 x3 i4 i5=if (decide (i5<i4))=true then if 0≤i5∧i5<(x3.length:Int)then if ((x3.getD i5.toNat 0:Int)!=i2)=true then some (((x3.getD i5.toNat 0:Int),()),())else l3 k i2 x3 i4 (IntKind.i64.wrap (i5+1))else none else some ((i2,()),()):=by kernel_rfl
variable (vals_1:LI)
noncomputable def T:OI:=l3 k (0:Int) vals_1 (vals_1.length:Int) (0:Int)
theorem of {r} (h:Ev (fun k=>T k vals_1) r):F (vals_1,())=some r:=Ev.run (fun k=>by kernel_rfl) h
theorem S:a3L prog ⟨102,sig,F⟩:=sound_k (res:=[.tmp 2]) func102 (cok nM)
end Aj4
namespace An7
noncomputable def sig:Sig:=⟨[pI],[oB]⟩
noncomputable def cfg:Cfg:=cf (cx [])
noncomputable def fin:=finK cfg.c sig [.tmp 2]
noncomputable def F (d:Int×Unit):OB:=anyK (a9n cfg fin (bd f146) (a6P sig.ps d 6))
variable (x_1:Int)
noncomputable def T:OB:=some ((x_1 !=x_1,()),())
theorem eq:F (x_1,())=T x_1:=eq_any fun k=>by kernel_rfl
theorem S:a3L prog ⟨146,sig,F⟩:=sound_k (res:=[.tmp 2]) func146 (cok nM)
end An7
namespace An5
noncomputable def sig:Sig:=⟨[pI,pI],[oI]⟩
noncomputable def cfg:Cfg:=cf (cx [⟨146,An7.sig,An7.F⟩])
noncomputable def fin:=finK cfg.c sig [.tmp 4]
noncomputable def F (d:Int×Int×Unit):OI:=anyK (a9n cfg fin (bd f103) (a6P sig.ps d 20))
variable (x_1 y_2:Int)
noncomputable def T:OI:=(An7.F (x_1,())).bind fun r3=>(An7.F (y_2,())).bind fun r4=>if r3.1.1=true then if r4.1.1=true then some ((0,()),())else some (((-1:Int),()),())else if r4.1.1=true then some ((1,()),())else if (decide (x_1<y_2))=true then some (((-1:Int),()),())else if (decide (x_1>y_2))=true then some ((1,()),())else some ((0,()),())
theorem eq:F (x_1,y_2,())=T x_1 y_2:=eq_any fun k=>by kernel_rfl
theorem S:a3L prog ⟨103,sig,F⟩:=sound_k (res:=[.tmp 4]) func103 (cok (cM ⟨An7.S,nM⟩))
end An5
namespace An8
noncomputable def sig:Sig:=⟨[pI],[oB]⟩
noncomputable def cfg:Cfg:=cf (cx [])
noncomputable def fin:=finK cfg.c sig [.tmp 2]
noncomputable def F (d:Int×Unit):OB:=anyK (a9n cfg fin (bd f182) (a6P sig.ps d 6))
variable (x_1:Int)
noncomputable def T:OB:=some ((x_1 !=x_1,()),())
theorem eq:F (x_1,())=T x_1:=eq_any fun k=>by kernel_rfl
theorem S:a3L prog ⟨182,sig,F⟩:=sound_k (res:=[.tmp 2]) func182 (cok nM)
end An8
namespace An6
noncomputable def sig:Sig:=⟨[pI,pI],[oI]⟩
noncomputable def cfg:Cfg:=cf (cx [⟨182,An8.sig,An8.F⟩])
noncomputable def fin:=finK cfg.c sig [.tmp 4]
noncomputable def F (d:Int×Int×Unit):OI:=anyK (a9n cfg fin (bd f147) (a6P sig.ps d 20))
variable (x_1 y_2:Int)
noncomputable def T:OI:=(An8.F (x_1,())).bind fun r3=>(An8.F (y_2,())).bind fun r4=>if r3.1.1=true then if r4.1.1=true then some ((0,()),())else some (((-1:Int),()),())else if r4.1.1=true then some ((1,()),())else if (decide (x_1<y_2))=true then some (((-1:Int),()),())else if (decide (x_1>y_2))=true then some ((1,()),())else some ((0,()),())
theorem eq:F (x_1,y_2,())=T x_1 y_2:=eq_any fun k=>by kernel_rfl
theorem S:a3L prog ⟨147,sig,F⟩:=sound_k (res:=[.tmp 4]) func147 (cok (cM ⟨An8.S,nM⟩))
end An6
namespace Al0
noncomputable def sig:Sig:=⟨[pL,pL],[oI]⟩
noncomputable def cfg:Cfg:=cl (cx [⟨147,An6.sig,An6.F⟩]) fun id=>match id with|2=>([0,1,9,10,11],[])|_=>([],[])
noncomputable def fin:=finK cfg.c sig [.tmp 4]
noncomputable def F (d:LI×LI×Unit):OI:=anyK (a9n cfg fin (bd f104) (a6P sig.ps d 36))
variable (k:Nat) (x3 x4 x5:LI) (i6 i7:Int)
noncomputable def l2:OI:=Vm.runT cfg fin k [.inLoop (sub [1,0,1,0,0] (bd f104)),.inBlock 0,.code (sub [1,1] (bd f104))] ⟨[vL x3,vL x4,dD,dD,dD,dD,dD,dD,dD,vL x5,vI i6,vI i7]++a9v 24,[]⟩
theorem l2_eq:l2 (k+1) x3 x4 x5 i6 i7=if (decide (i7<i6))=true then if 0≤i7∧i7<(x5.length:Int)then if (decide (i7≥(x4.length:Int)))=true then some ((1,()),())else if 0≤i7∧i7<(x4.length:Int)then(An6.F ((x5.getD i7.toNat 0:Int),(x4.getD i7.toNat 0:Int),())).bind fun r8=>if (r8.1.1 !=0)=true then some ((r8.1.1,()),())else l2 k x3 x4 x5 i6 (IntKind.i64.wrap (i7+1))else none else none else if (decide ((x3.length:Int)<(x4.length:Int)))=true then some (((-1:Int),()),())else some ((0,()),()):=by kernel_rfl
variable (s1_1 s2_2:LI)
noncomputable def T:OI:=l2 k s1_1 s2_2 s1_1 (s1_1.length:Int) (0:Int)
theorem of {r} (h:Ev (fun k=>T k s1_1 s2_2) r):F (s1_1,s2_2,())=some r:=Ev.run (fun k=>by kernel_rfl) h
theorem S:a3L prog ⟨104,sig,F⟩:=sound_k (res:=[.tmp 4]) func104 (cok (cM ⟨An6.S,nM⟩))
end Al0
namespace Ac3
noncomputable def sig:Sig:=⟨[pL,pL],[oI]⟩
noncomputable def cfg:Cfg:=cf (cx [⟨102,Aj4.sig,Aj4.F⟩,⟨103,An5.sig,An5.F⟩,⟨104,Al0.sig,Al0.F⟩])
noncomputable def fin:=finK cfg.c sig [.tmp 4]
noncomputable def F (d:LI×LI×Unit):OI:=anyK (a9n cfg fin (bd f62) (a6P sig.ps d 15))
variable (a_1 b_2:LI)
noncomputable def T:OI:=(An5.F ((a_1.length:Int),(b_2.length:Int),())).bind fun r3=>(Al0.F (a_1,b_2,())).bind fun r4=>(Aj4.F ([r3.1.1,r4.1.1],())).bind fun r5=>some ((r5.1.1,()),())
theorem eq:F (a_1,b_2,())=T a_1 b_2:=eq_any fun k=>by kernel_rfl
theorem S:a3L prog ⟨62,sig,F⟩:=sound_k (res:=[.tmp 4]) func62 (cok (cM ⟨Aj4.S,cM ⟨An5.S,cM ⟨Al0.S,nM⟩⟩⟩))
noncomputable def cloG (y:Unit) (d:LI×LI×Unit):Option (Int×Unit):=(F (b0V [] [(false,tL),(false,tL)] d y)).map (·.1)
noncomputable def clo:Clo:=⟨62,⟨[(false,tL),(false,tL)],[(.val false,tI,.deep)]⟩,[],cloG⟩
theorem cloS:a2p prog clo:=sound_clo (s:=⟨[(false,tL),(false,tL)],[(.val false,tI,.deep)]⟩) (caps:=[]) rfl S
end Ac3
namespace Ah5
noncomputable def sig:Sig:=⟨[pQ,.fnx ⟨[(false,tL)],[oB]⟩],[oI]⟩
noncomputable def cfg:Cfg:=cl (cx []) fun id=>match id with|2=>([0,1,7,8],[])|_=>([],[])
noncomputable def fin:=finK cfg.c sig [.tmp 4]
noncomputable def F (d:LL×((LI×Unit)→Option (Bool×Unit))×Unit):OI:=anyK (a9n cfg fin (bd f105) (a6P sig.ps d 19))
variable (k:Nat) (x3:LL) (f4:(LI×Unit)→Option (Bool×Unit)) (i5 i6:Int)
noncomputable def l2:OI:=Vm.runT cfg fin k [.inLoop (sub [1,0,1,0,0] (bd f105)),.inBlock 0,.code (sub [1,1] (bd f105))] ⟨[vQ x3,.fnx ⟨[(false,tL)],[(.val false,.bool,.deep)]⟩ f4,dD,dD,dD,dD,dD,vI i5,vI i6]++a9v 10,[]⟩
theorem l2_eq:l2 (k+1) x3 f4 i5 i6=if (decide (i6<i5))=true then if 0≤i6∧i6<(x3.length:Int)then(f4 (x3.getD i6.toNat ([]:LI),())).bind fun r7=>if r7.1=true then some ((i6,()),())else l2 k x3 f4 i5 (IntKind.i64.wrap (i6+1))else none else some (((-1:Int),()),()):=by kernel_rfl
variable (s_1:LL) (f_2:(LI×Unit)→Option (Bool×Unit))
noncomputable def T:OI:=l2 k s_1 f_2 (s_1.length:Int) (0:Int)
theorem of {r} (h:Ev (fun k=>T k s_1 f_2) r):F (s_1,f_2,())=some r:=Ev.run (fun k=>by kernel_rfl) h
theorem S:a3L prog ⟨105,sig,F⟩:=sound_k (res:=[.tmp 4]) func105 (cok nM)
end Ah5
namespace An4
noncomputable def sig:Sig:=⟨[pQ,.fnx ⟨[(false,tL)],[oB]⟩],[oB]⟩
noncomputable def cfg:Cfg:=cf (cx [⟨105,Ah5.sig,Ah5.F⟩])
noncomputable def fin:=finK cfg.c sig [.tmp 4]
noncomputable def F (d:LL×((LI×Unit)→Option (Bool×Unit))×Unit):OB:=anyK (a9n cfg fin (bd f63) (a6P sig.ps d 9))
variable (s_1:LL) (f_2:(LI×Unit)→Option (Bool×Unit))
noncomputable def T:OB:=(Ah5.F (s_1,f_2,())).bind fun r3=>some ((decide (r3.1.1≥0),()),())
theorem eq:F (s_1,f_2,())=T s_1 f_2:=eq_any fun k=>by kernel_rfl
theorem S:a3L prog ⟨63,sig,F⟩:=sound_k (res:=[.tmp 4]) func63 (cok (cM ⟨Ah5.S,nM⟩))
end An4
namespace Ah4
noncomputable def sig:Sig:=⟨[pQ],[oL]⟩
noncomputable def cfg:Cfg:=cl (⟨a2i tabl,[],[],[],[(148,tI)],[]⟩) fun id=>match id with|3=>([0,3,9,10,11],[])|11=>([6,25,26,27],[24])|_=>([],[])
noncomputable def fin:=finK cfg.c sig [.tmp 2]
noncomputable def F (d:LL×Unit):OL:=anyK (a9n cfg fin (bd f106) (a6P sig.ps d 36))
variable (k:Nat) (x2:LL) (i3:Int) (x4:LL) (i5 i6:Int)
noncomputable def l3:OL:=Vm.runT cfg fin k [.inLoop (sub [1,1,0,1,0,0] (bd f106)),.inBlock 0,.code (sub [1,1,1] (bd f106))] ⟨[vQ x2,dD,dD,vI i3,dD,dD,dD,dD,dD,vQ x4,vI i5,vI i6]++a9v 24,[]⟩
variable (x7:LL) (i8 i9:Int) (x10:LI)
noncomputable def l11:OL:=Vm.runT cfg fin k [.inLoop (sub [1,1,1,1,0,1,0,0] (bd f106)),.inBlock 2,.code (sub [1,1,1,1,1] (bd f106))] ⟨[dD,dD,dD,dD,dD,dD,.view 24 (.root 0) 1 false,dD,dD,dD,dD,dD,dD,dD,dD,dD,dD,dD,dD,dD,dD,dD,dD,dD,dD,vQ x7,vI i8,vI i9]++a9v 8,[(24,⟨false,[dL x10]⟩)]⟩
theorem l3_eq:l3 (k+1) x2 i3 x4 i5 i6=if (decide (i6<i5))=true then if 0≤i6∧i6<(x4.length:Int)then if (decide ((IntKind.i64.wrap (i3+((x4.getD i6.toNat ([]:LI)).length:Int)))<0))=true then none else l3 k x2 (IntKind.i64.wrap (i3+((x4.getD i6.toNat ([]:LI)).length:Int))) x4 i5 (IntKind.i64.wrap (i6+1))else none else if 0≤i3∧i3≤(bigN:Int)then l11 k x2 (x2.length:Int) (0:Int) ([]:LI)else none:=by kernel_rfl
theorem l11_eq:l11 (k+1) x7 i8 i9 x10=if (decide (i9<i8))=true then if 0≤i9∧i9<(x7.length:Int)then if x10.length+(x7.getD i9.toNat ([]:LI)).length≤bigA then l11 k x7 i8 (IntKind.i64.wrap (i9+1)) (x10++(x7.getD i9.toNat ([]:LI)))else none else none else some ((x10,()),()):=by kernel_rfl
variable (slices_1:LL)
noncomputable def T:OL:=l3 k slices_1 (0:Int) slices_1 (slices_1.length:Int) (0:Int)
theorem of {r} (h:Ev (fun k=>T k slices_1) r):F (slices_1,())=some r:=Ev.run (fun k=>by kernel_rfl) h
theorem S:a3L prog ⟨106,sig,F⟩:=sound_k (res:=[.tmp 2]) func106 (⟨nM,mixed_ok,tab_ok tab_good,nM,nM,cM ⟨slices_Grow_Lint64_int64.growOK,nM⟩⟩)
end Ah4
namespace Ae0
noncomputable def sig:Sig:=⟨[pL],[oQ]⟩
noncomputable def cfg:Cfg:=cl (cx [⟨106,Ah4.sig,Ah4.F⟩]) fun id=>match id with|3=>([0,3,6,7],[12])|_=>([],[])
noncomputable def fin:=finK cfg.c sig [.tmp 2]
noncomputable def F (d:LI×Unit):OQ:=anyK (a9n cfg fin (bd f64) (a6P sig.ps d 27))
variable (k:Nat) (x2:LI) (i3 i4:Int) (x5:LL)
noncomputable def l3:OQ:=Vm.runT cfg fin k [.inLoop (sub [1,1,0,1,0,0] (bd f64)),.inBlock 0,.code (sub [1,1,1] (bd f64))] ⟨[vL x2,dD,dD,.view 12 (.root 0) 1 false,dD,dD,vI i3,vI i4]++a9v 19,[(12,⟨false,[dQ x5]⟩)]⟩
theorem l3_eq:l3 (k+1) x2 i3 i4 x5=if (decide (i4<i3))=true then if (decide ((x2.length:Int)>1))=true then if 0≤(0:Int)∧(0:Int)≤i4∧i4≤(x2.length:Int)then if 0≤(IntKind.i64.wrap (i4+1))∧(IntKind.i64.wrap (i4+1))≤(x2.length:Int)∧(x2.length:Int)≤(x2.length:Int)then(Ah4.F ([cutL x2 (0:Int) i4,cutL x2 (IntKind.i64.wrap (i4+1)) (x2.length:Int)],())).bind fun r6=>if x5.length+[r6.1.1].length≤bigA then l3 k x2 i3 (IntKind.i64.wrap (i4+1)) (x5++[r6.1.1])else none else none else none else l3 k x2 i3 (IntKind.i64.wrap (i4+1)) x5 else some ((x5,()),()):=by kernel_rfl
variable (s_1:LI)
noncomputable def T:OQ:=l3 k s_1 (s_1.length:Int) (0:Int) ([])
theorem of {r} (h:Ev (fun k=>T k s_1) r):F (s_1,())=some r:=Ev.run (fun k=>by kernel_rfl) h
theorem S:a3L prog ⟨64,sig,F⟩:=sound_k (res:=[.tmp 2]) func64 (cok (cM ⟨Ah4.S,nM⟩))
end Ae0
namespace Aq1
noncomputable def sig:Sig:=⟨[pQ,pL,.fnx ⟨[(false,tL),(false,tL)],[oI]⟩],[oI,oB]⟩
noncomputable def cfg:Cfg:=cl (cx []) fun id=>match id with|3=>([0,1,2,8,9,10],[])|_=>([],[])
noncomputable def fin:=finK cfg.c sig [.tmp 6,.tmp 7]
noncomputable def F (d:LL×LI×((LI×LI×Unit)→Option (Int×Unit))×Unit):Option ((Int×Bool×Unit)×(Unit)):=anyK (a9n cfg fin (bd f107) (a6P sig.ps d 49))
variable (k:Nat) (x4:LL) (x5:LI) (f6:(LI×LI×Unit)→Option (Int×Unit)) (i7 i8 i9:Int)
noncomputable def l3:Option ((Int×Bool×Unit)×(Unit)):=Vm.runT cfg fin k [.inLoop (sub [1,1,1,0,0,0] (bd f107)),.inBlock 0,.code (sub [1,1,1,1] (bd f107))] ⟨[vQ x4,vL x5,.fnx ⟨[(false,tL),(false,tL)],[(.val false,tI,.deep)]⟩ f6,dD,dD,dD,dD,dD,vI i7,vI i8,vI i9]++a9v 38,[]⟩
theorem l3_eq:l3 (k+1) x4 x5 f6 i7 i8 i9=if (decide (i8<i9))=true then if (1:Int)<0 then none else if 0≤(IntKind.i64.wrap ((IntKind.u64.wrap (IntKind.i64.wrap (i8+i9))).fdiv (2 ^ (min (1:Int).toNat IntKind.u64.bits))))∧(IntKind.i64.wrap ((IntKind.u64.wrap (IntKind.i64.wrap (i8+i9))).fdiv (2 ^ (min (1:Int).toNat IntKind.u64.bits))))<(x4.length:Int)then(f6 (x4.getD (IntKind.i64.wrap ((IntKind.u64.wrap (IntKind.i64.wrap (i8+i9))).fdiv (2 ^ (min (1:Int).toNat IntKind.u64.bits)))).toNat ([]:LI),x5,())).bind fun r10=>if (decide (r10.1<0))=true then l3 k x4 x5 f6 i7 (IntKind.i64.wrap ((IntKind.i64.wrap ((IntKind.u64.wrap (IntKind.i64.wrap (i8+i9))).fdiv (2 ^ (min (1:Int).toNat IntKind.u64.bits))))+1)) i9 else l3 k x4 x5 f6 i7 i8 (IntKind.i64.wrap ((IntKind.u64.wrap (IntKind.i64.wrap (i8+i9))).fdiv (2 ^ (min (1:Int).toNat IntKind.u64.bits))))else none else if (decide (i8<i7))=true then if 0≤i8∧i8<(x4.length:Int)then(f6 (x4.getD i8.toNat ([]:LI),x5,())).bind fun r11=>some ((i8,(r11.1==(0:Int),())),())else none else some ((i8,(false,())),()):=by kernel_rfl
variable (x_1:LL) (target_2:LI) (f_3:(LI×LI×Unit)→Option (Int×Unit))
noncomputable def T:Option ((Int×Bool×Unit)×(Unit)):=l3 k x_1 target_2 f_3 (x_1.length:Int) (0:Int) (x_1.length:Int)
theorem of {r} (h:Ev (fun k=>T k x_1 target_2 f_3) r):F (x_1,target_2,f_3,())=some r:=Ev.run (fun k=>by kernel_rfl) h
theorem S:a3L prog ⟨107,sig,F⟩:=sound_k (res:=[.tmp 6,.tmp 7]) func107 (cok nM)
end Aq1
namespace Ab6
noncomputable def sig:Sig:=⟨[pC,pL],[oI]⟩
noncomputable def cfg:Cfg:=cf ⟨a2i tabl,[⟨107,Aq1.sig,Aq1.F⟩],[Ac3.clo],[],[],[]⟩
noncomputable def fin:=finK cfg.c sig [.tmp 4]
noncomputable def F (d:LL×LI×Unit):OI:=anyK (a9n cfg fin (bd f66) (a6P sig.ps d 17))
variable (c_1:LL) (s_2:LI)
noncomputable def T:OI:=(Aq1.F (c_1,s_2,Ac3.cloG (()),())).bind fun r3=>if (!r3.1.2.1)=true then some (((-1:Int),()),())else some ((r3.1.1,()),())
theorem eq:F (c_1,s_2,())=T c_1 s_2:=eq_any fun k=>by kernel_rfl
theorem S:a3L prog ⟨66,sig,F⟩:=sound_k (res:=[.tmp 4]) func66 (⟨nM,mixed_ok,tab_ok tab_good,cM ⟨Aq1.S,nM⟩,cM ⟨Ac3.cloS,nM⟩,nM⟩)
end Ab6
namespace Ao1
noncomputable def sig:Sig:=⟨[pL,qC,.rptr tI],[oB]⟩
noncomputable def cfg:Cfg:=cf (cx [⟨66,Ab6.sig,Ab6.F⟩])
noncomputable def fin:=finK cfg.c sig [.tmp 4]
noncomputable def F (d:LI×LL×Int×Unit):OB:=anyK (a9n cfg fin (bd f65) (a6P sig.ps d 13))
variable (f_1:LI) (a_2:LL) (a_3:Int)
noncomputable def T:OB:=if 0≤(0:Int)∧(0:Int)≤a_3∧a_3≤(a_2.length:Int)then(Ab6.F (cutL a_2 (0:Int) a_3,f_1,())).bind fun r4=>some ((decide (r4.1.1<0),()),())else none
theorem eq:F (f_1,a_2,a_3,())=T f_1 a_2 a_3:=eq_any fun k=>by kernel_rfl
theorem S:a3L prog ⟨65,sig,F⟩:=sound_k (res:=[.tmp 4]) func65 (cok (cM ⟨Ab6.S,nM⟩))
noncomputable def cloG (y:LL×Int×Unit) (d:LI×Unit):Option (Bool×Unit):=(F (b0V [.rptr tQ,.rptr tI] [(false,tL)] d y)).map (·.1)
noncomputable def clo:Clo:=⟨65,⟨[(false,tL)],[(.val false,.bool,.deep)]⟩,[.rptr tQ,.rptr tI],cloG⟩
theorem cloS:a2p prog clo:=sound_clo (s:=⟨[(false,tL)],[(.val false,.bool,.deep)]⟩) (caps:=[.rptr tQ,.rptr tI]) rfl S
end Ao1
namespace Aa9
noncomputable def sig:Sig:=⟨[pC],[oB]⟩
noncomputable def cfg:Cfg:=cl (⟨a2i tabl,[⟨61,Ao3.sig,Ao3.F⟩,⟨62,Ac3.sig,Ac3.F⟩,⟨63,An4.sig,An4.F⟩,⟨64,Ae0.sig,Ae0.F⟩],[Ao1.clo],[],[],[]⟩) fun id=>match id with|2=>([1,6,7,8],[4])|_=>([],[])
noncomputable def fin:=finK cfg.c sig [.tmp 2]
noncomputable def F (d:LL×Unit):OB:=anyK (a9n cfg fin (bd f44) (a6P sig.ps d 40))
variable (k:Nat) (x2:LL) (i3 i4:Int) (x5:LL)
noncomputable def l2:OB:=Vm.runT cfg fin k [.inLoop (sub [1,0,1,0,0] (bd f44)),.inBlock 0,.code (sub [1,1] (bd f44))] ⟨[dD,.ref 4 (.root 0),dD,dD,dD,dD,vQ x2,vI i3,vI i4]++a9v 31,[(4,⟨true,[cQ x5]⟩)]⟩
theorem l2_eq:l2 (k+1) x2 i3 i4 x5=if (decide (i4<i3))=true then if 0≤i4∧i4<(x2.length:Int)then(Ao3.F (x2.getD i4.toNat ([]:LI),())).bind fun r6=>if (!r6.1.1)=true then some ((false,()),())else if (decide (i4>0))=true then if 0≤(IntKind.i64.wrap (i4-1))∧(IntKind.i64.wrap (i4-1))<(x5.length:Int)then(Ac3.F (x5.getD (IntKind.i64.wrap (i4-1)).toNat ([]:LI),x2.getD i4.toNat ([]:LI),())).bind fun r7=>if (decide (r7.1.1≥0))=true then some ((false,()),())else(Ae0.F (x2.getD i4.toNat ([]:LI),())).bind fun r8=>(An4.F (r8.1.1,Ao1.cloG (x5,i4,()),())).bind fun r9=>if r9.1.1=true then some ((false,()),())else l2 k x2 i3 (IntKind.i64.wrap (i4+1)) x5 else none else(Ae0.F (x2.getD i4.toNat ([]:LI),())).bind fun r10=>(An4.F (r10.1.1,Ao1.cloG (x5,i4,()),())).bind fun r11=>if r11.1.1=true then some ((false,()),())else l2 k x2 i3 (IntKind.i64.wrap (i4+1)) x5 else none else some ((decide ((x5.length:Int)≤48),()),()):=by kernel_rfl
variable (c_1:LL)
noncomputable def T:OB:=l2 k c_1 (c_1.length:Int) (0:Int) c_1
theorem of {r} (h:Ev (fun k=>T k c_1) r):F (c_1,())=some r:=Ev.run (fun k=>by kernel_rfl) h
theorem S:a3L prog ⟨44,sig,F⟩:=sound_k (res:=[.tmp 2]) func44 (⟨nM,mixed_ok,tab_ok tab_good,cM ⟨Ao3.S,cM ⟨Ac3.S,cM ⟨An4.S,cM ⟨Ae0.S,nM⟩⟩⟩⟩,cM ⟨Ao1.cloS,nM⟩,nM⟩)
end Aa9
namespace Af7
noncomputable def sig:Sig:=⟨[pI],[oB]⟩
noncomputable def cfg:Cfg:=cl (cx [⟨134,Ab1.sig,Ab1.F⟩]) fun id=>match id with|4=>([0,3],[])|_=>([],[])
noncomputable def fin:=finK cfg.c sig [.tmp 2]
noncomputable def F (d:Int×Unit):OB:=anyK (a9n cfg fin (bd f90) (a6P sig.ps d 18))
variable (k:Nat) (i3 i4:Int)
noncomputable def l4:OB:=Vm.runT cfg fin k [.inLoop (sub [1,1,0,1,0,0] (bd f90)),.inBlock 0,.code (sub [1,1,1] (bd f90))] ⟨[vI i3,dD,dD,vI i4]++a9v 14,[]⟩
theorem l4_eq:l4 (k+1) i3 i4=if (decide ((IntKind.i64.wrap (i4*i4))≤i3))=true then if i4=0 then none else if ((i3.tmod i4)==0)=true then some ((false,()),())else l4 k i3 (IntKind.i64.wrap (i4+1))else some ((true,()),()):=by kernel_rfl
variable (p_1:Int)
noncomputable def T:OB:=(Ab1.F (p_1,(2:Int),(251:Int),())).bind fun r2=>if (!r2.1.1)=true then some ((false,()),())else l4 k p_1 (2:Int)
theorem of {r} (h:Ev (fun k=>T k p_1) r):F (p_1,())=some r:=Ev.run (fun k=>by kernel_rfl) h
theorem S:a3L prog ⟨90,sig,F⟩:=sound_k (res:=[.tmp 2]) func90 (cok (cM ⟨Ab1.S,nM⟩))
end Af7
namespace Ac6
noncomputable def sig:Sig:=⟨[pL],[oI]⟩
noncomputable def cfg:Cfg:=cf (cx [])
noncomputable def fin:=finK cfg.c sig [.tmp 2]
noncomputable def F (d:LI×Unit):OI:=anyK (a9n cfg fin (bd f179) (a6P sig.ps d 5))
variable (list_1:LI)
noncomputable def T:OI:=some (((list_1.length:Int),()),())
theorem eq:F (list_1,())=T list_1:=eq_any fun k=>by kernel_rfl
theorem S:a3L prog ⟨179,sig,F⟩:=sound_k (res:=[.tmp 2]) func179 (cok nM)
end Ac6
namespace Ae1
noncomputable def sig:Sig:=⟨[pC,pI],[oL]⟩
noncomputable def cfg:Cfg:=cl (cx [⟨179,Ac6.sig,Ac6.F⟩]) fun id=>match id with|3=>([1,5,9,10,11],[20])|_=>([],[])
noncomputable def fin:=finK cfg.c sig [.tmp 4]
noncomputable def F (d:LL×Int×Unit):OL:=anyK (a9n cfg fin (bd f168) (a6P sig.ps d 27))
variable (k:Nat) (i3:Int) (x4:LL) (i5 i6:Int) (x7:LI)
noncomputable def l3:OL:=Vm.runT cfg fin k [.inLoop (sub [1,1,0,1,0,0] (bd f168)),.inBlock 0,.code (sub [1,1,1] (bd f168))] ⟨[dD,vI i3,dD,dD,dD,.view 20 (.root 0) 1 false,dD,dD,dD,vQ x4,vI i5,vI i6]++a9v 15,[(20,⟨false,[dL x7]⟩)]⟩
theorem l3_eq:l3 (k+1) i3 x4 i5 i6 x7=if (decide (i6<i5))=true then if 0≤i6∧i6<(x4.length:Int)then(Ac6.F (x4.getD i6.toNat ([]:LI),())).bind fun r8=>if (r8.1.1==(IntKind.i64.wrap (i3+1)))=true then if x7.length+[i6].length≤bigA then l3 k i3 x4 i5 (IntKind.i64.wrap (i6+1)) (x7++[i6])else none else l3 k i3 x4 i5 (IntKind.i64.wrap (i6+1)) x7 else none else some ((x7,()),()):=by kernel_rfl
variable (c_1:LL) (dimension_2:Int)
noncomputable def T:OL:=l3 k dimension_2 c_1 (c_1.length:Int) (0:Int) ([])
theorem of {r} (h:Ev (fun k=>T k c_1 dimension_2) r):F (c_1,dimension_2,())=some r:=Ev.run (fun k=>by kernel_rfl) h
theorem S:a3L prog ⟨168,sig,F⟩:=sound_k (res:=[.tmp 4]) func168 (cok (cM ⟨Ac6.S,nM⟩))
end Ae1
namespace Ac4
noncomputable def sig:Sig:=⟨[pS,pI],[oI]⟩
noncomputable def cfg:Cfg:=cl (cx [⟨168,Ae1.sig,Ae1.F⟩]) fun id=>match id with|3=>([2,5,11,12,13],[8,44])|_=>([],[])
noncomputable def fin:=finK cfg.c sig [.tmp 4]
noncomputable def F (d:SF×Int×Unit):OI:=anyK (a9n cfg fin (bd f136) (a6P sig.ps d 26))
variable (k:Nat) (i7 i8 i9:Int) (x10:LL) (i11:Int) (x12:LI) (x13:LM) (x14:LI)
noncomputable def l3:OI:=Vm.runT cfg fin k [.inLoop (sub [1,1,0,1,0,0] (bd f136)),.inBlock 0,.code (sub [1,1,1] (bd f136))] ⟨[dD,dD,.ref 8 (.root 0),dD,dD,vI i7,dD,dD,dD,dD,dD,.view 44 (.root 0) 1 false,vI i8,vI i9]++a9v 12,[(8,⟨true,[cQ x10,cI i11,cL x12,⟨(.sl TMatrix),.sh,x13⟩]⟩),(44,⟨false,[dL x14]⟩)]⟩
theorem l3_eq:l3 (k+1) i7 i8 i9 x10 i11 x12 x13 x14=if (decide (i9<i8))=true then if 0≤i9∧i9<(x14.length:Int)then if 0≤(x14.getD i9.toNat 0:Int)∧(x14.getD i9.toNat 0:Int)<(x12.length:Int)then l3 k (IntKind.i64.wrap (i7+(x12.getD (x14.getD i9.toNat 0:Int).toNat 0))) i8 (IntKind.i64.wrap (i9+1)) x10 i11 x12 x13 x14 else none else none else some ((i7,()),()):=by kernel_rfl
variable (s_1:LL) (s_2:Int) (s_3:LI) (s_4:LM) (k_5:Int)
noncomputable def T:OI:=(Ae1.F (s_1,k_5,())).bind fun r6=>l3 k (0:Int) (r6.1.1.length:Int) (0:Int) s_1 s_2 s_3 s_4 r6.1.1
theorem of {r} (h:Ev (fun k=>T k s_1 s_2 s_3 s_4 k_5) r):F ((s_1,(s_2,(s_3,s_4))),k_5,())=some r:=Ev.run (fun k=>by kernel_rfl) h
theorem S:a3L prog ⟨136,sig,F⟩:=sound_k (res:=[.tmp 4]) func136 (cok (cM ⟨Ae1.S,nM⟩))
end Ac4
namespace Ar2
noncomputable def sig:Sig:=⟨[pI],[oB]⟩
noncomputable def cfg:Cfg:=cf (cx [⟨134,Ab1.sig,Ab1.F⟩])
noncomputable def fin:=finK cfg.c sig [.tmp 2]
noncomputable def F (d:Int×Unit):OB:=anyK (a9n cfg fin (bd f135) (a6P sig.ps d 6))
variable (n_1:Int)
noncomputable def T:OB:=(Ab1.F (n_1,(0:Int),(3:Int),())).bind fun r2=>some ((!r2.1.1,()),())
theorem eq:F (n_1,())=T n_1:=eq_any fun k=>by kernel_rfl
theorem S:a3L prog ⟨135,sig,F⟩:=sound_k (res:=[.tmp 2]) func135 (cok (cM ⟨Ab1.S,nM⟩))
noncomputable def cloG (y:Unit) (d:Int×Unit):Option (Bool×Unit):=(F (b0V [] [(false,tI)] d y)).map (·.1)
noncomputable def clo:Clo:=⟨135,⟨[(false,tI)],[(.val false,.bool,.deep)]⟩,[],cloG⟩
theorem cloS:a2p prog clo:=sound_clo (s:=⟨[(false,tI)],[(.val false,.bool,.deep)]⟩) (caps:=[]) rfl S
end Ar2
namespace Ag4
noncomputable def sig:Sig:=⟨[pC,pL],[oB]⟩
noncomputable def cfg:Cfg:=cl (⟨a2i tabl,[⟨99,Ac9.sig,Ac9.F⟩,⟨136,Ac4.sig,Ac4.F⟩],[Ar2.clo],[],[],[]⟩) fun id=>match id with|4=>([1,2,16],[8])|_=>([],[])
noncomputable def fin:=finK cfg.c sig [.tmp 4]
noncomputable def F (d:LL×LI×Unit):OB:=anyK (a9n cfg fin (bd f91) (a6P sig.ps d 26))
variable (k:Nat) (x4:LI) (i5:Int) (x6:LL)
noncomputable def l4:OB:=Vm.runT cfg fin k [.inLoop (sub [1,1,0,1,0,0] (bd f91)),.inBlock 0,.code (sub [1,1,1] (bd f91))] ⟨[dD,vL x4,.ref 8 (.root 0),dD,dD,dD,dD,dD,dD,dD,dD,dD,dD,dD,dD,dD,vI i5]++a9v 9,[(8,⟨true,[cQ x6]⟩)]⟩
theorem l4_eq:l4 (k+1) x4 i5 x6=if (decide (i5<4))=true then(Ac4.F ((x6,(0,(x4,[]))),i5,())).bind fun r7=>if (decide (r7.1.1>32))=true then some ((false,()),())else l4 k x4 (IntKind.i64.wrap (i5+1)) x6 else some ((true,()),()):=by kernel_rfl
variable (c_1:LL) (stalks_2:LI)
noncomputable def T:OB:=if ((stalks_2.length:Int)!=(c_1.length:Int))=true then some ((false,()),())else(Ac9.F (stalks_2,Ar2.cloG (()),())).bind fun r3=>if r3.1.1=true then some ((false,()),())else l4 k stalks_2 (0:Int) c_1
theorem of {r} (h:Ev (fun k=>T k c_1 stalks_2) r):F (c_1,stalks_2,())=some r:=Ev.run (fun k=>by kernel_rfl) h
theorem S:a3L prog ⟨91,sig,F⟩:=sound_k (res:=[.tmp 4]) func91 (⟨nM,mixed_ok,tab_ok tab_good,cM ⟨Ac9.S,cM ⟨Ac4.S,nM⟩⟩,cM ⟨Ar2.cloS,nM⟩,nM⟩)
end Ag4
namespace Ak7
noncomputable def sig:Sig:=⟨[pQ],[oI]⟩
noncomputable def cfg:Cfg:=cf (cx [])
noncomputable def fin:=finK cfg.c sig [.tmp 2]
noncomputable def F (d:LL×Unit):OI:=anyK (a9n cfg fin (bd f73) (a6P sig.ps d 5))
variable (list_1:LL)
noncomputable def T:OI:=some (((list_1.length:Int),()),())
theorem eq:F (list_1,())=T list_1:=eq_any fun k=>by kernel_rfl
theorem S:a3L prog ⟨73,sig,F⟩:=sound_k (res:=[.tmp 2]) func73 (cok nM)
end Ak7
namespace Ab0
noncomputable def sig:Sig:=⟨[pC,pI],[oL]⟩
noncomputable def cfg:Cfg:=cl (cx [⟨64,Ae0.sig,Ae0.F⟩,⟨66,Ab6.sig,Ab6.F⟩]) fun id=>match id with|3=>([2,5,13,14,15],[8,20,52])|_=>([],[])
noncomputable def fin:=finK cfg.c sig [.tmp 4]
noncomputable def F (d:LL×Int×Unit):OL:=anyK (a9n cfg fin (bd f94) (a6P sig.ps d 27))
variable (k:Nat) (i4 i5:Int) (x6:LL) (x7:LI) (x8:LL)
noncomputable def l3:OL:=Vm.runT cfg fin k [.inLoop (sub [1,1,0,1,0,0] (bd f94)),.inBlock 0,.code (sub [1,1,1] (bd f94))] ⟨[dD,dD,.ref 8 (.root 0),dD,dD,.view 20 (.root 0) 1 false,dD,dD,dD,dD,dD,dD,dD,.view 52 (.root 0) 1 false,vI i4,vI i5]++a9v 11,[(8,⟨true,[cQ x6]⟩),(20,⟨false,[dL x7]⟩),(52,⟨false,[dQ x8]⟩)]⟩
theorem l3_eq:l3 (k+1) i4 i5 x6 x7 x8=if (decide (i5<i4))=true then if 0≤i5∧i5<(x8.length:Int)then(Ab6.F (x6,x8.getD i5.toNat ([]:LI),())).bind fun r9=>if x7.length+[r9.1.1].length≤bigA then l3 k i4 (IntKind.i64.wrap (i5+1)) x6 (x7++[r9.1.1]) x8 else none else none else some ((x7,()),()):=by kernel_rfl
variable (c_1:LL) (k_2:Int)
noncomputable def T:OL:=if 0≤k_2∧k_2<(c_1.length:Int)then(Ae0.F (c_1.getD k_2.toNat ([]:LI),())).bind fun r3=>l3 k (r3.1.1.length:Int) (0:Int) c_1 ([]) r3.1.1 else none
theorem of {r} (h:Ev (fun k=>T k c_1 k_2) r):F (c_1,k_2,())=some r:=Ev.run (fun k=>by kernel_rfl) h
theorem S:a3L prog ⟨94,sig,F⟩:=sound_k (res:=[.tmp 4]) func94 (cok (cM ⟨Ae0.S,cM ⟨Ab6.S,nM⟩⟩))
end Ab0
namespace Ad9
noncomputable def sig:Sig:=⟨[pC],[(.val false,(.sl TEdge),.deep)]⟩
noncomputable def cfg:Cfg:=cl (cx [⟨73,Ak7.sig,Ak7.F⟩,⟨94,Ab0.sig,Ab0.F⟩]) fun id=>match id with|3=>([1,3,9,10],[4,12])|6=>([1,3,4,9,10,15,16,17],[4,12,60])|_=>([],[])
noncomputable def fin:=finK cfg.c sig [.tmp 2]
noncomputable def F (d:LL×Unit):Option ((List (Int×Int×Int)×Unit)×(Unit)):=anyK (a9n cfg fin (bd f92) (a6P sig.ps d 32))
variable (k:Nat) (i3 i4:Int) (x5:LL) (x6:List (Int×Int×Int))
noncomputable def l3:Option ((List (Int×Int×Int)×Unit)×(Unit)):=Vm.runT cfg fin k [.inLoop (sub [1,1,0,1,0,0] (bd f92)),.inBlock 0,.code (sub [1,1,1] (bd f92))] ⟨[dD,.ref 4 (.root 0),dD,.view 12 (.root 0) 1 false,dD,dD,dD,dD,dD,vI i3,vI i4]++a9v 21,[(4,⟨true,[cQ x5]⟩),(12,⟨false,[⟨(.sl TEdge),.deep,x6⟩]⟩)]⟩
variable (i8 i9 i10 i11 i12:Int) (x13:LL) (x14:List (Int×Int×Int)) (x15:LI)
noncomputable def l6:Option ((List (Int×Int×Int)×Unit)×(Unit)):=Vm.runT cfg fin k [.inLoop (sub [1,1,0,1,0,0,1,1,0,0,1,1,0,0] (bd f92)),.inBlock 2,.inBlock 1,.code (sub [1,1,0,1,0,0,1,1,1] (bd f92)),.inLoop (sub [1,1,0,1,0,0] (bd f92)),.inBlock 0,.code (sub [1,1,1] (bd f92))] ⟨[dD,.ref 4 (.root 0),dD,.view 12 (.root 0) 1 false,vI i8,dD,dD,dD,dD,vI i9,vI i10,dD,dD,dD,dD,.view 60 (.root 0) 1 false,vI i11,vI i12]++a9v 14,[(4,⟨true,[cQ x13]⟩),(12,⟨false,[⟨(.sl TEdge),.deep,x14⟩]⟩),(60,⟨false,[dL x15]⟩)]⟩
theorem l3_eq:l3 (k+1) i3 i4 x5 x6=if (decide (i4<i3))=true then(Ab0.F (x5,i4,())).bind fun r7=>l6 k i4 i3 i4 (r7.1.1.length:Int) (0:Int) x5 x6 r7.1.1 else some ((x6,()),()):=by kernel_rfl
theorem l6_eq:l6 (k+1) i8 i9 i10 i11 i12 x13 x14 x15=if (decide (i12<i11))=true then if 0≤i12∧i12<(x15.length:Int)then if x14.length+([(i8,(i12,(x15.getD i12.toNat 0:Int)))]:List (Int×Int×Int)).length≤bigA then l6 k i8 i9 i10 i11 (IntKind.i64.wrap (i12+1)) x13 (x14++[(i8,(i12,(x15.getD i12.toNat 0:Int)))]) x15 else none else none else l3 k i9 (IntKind.i64.wrap (i10+1)) x13 x14:=by kernel_rfl
variable (c_1:LL)
noncomputable def T:Option ((List (Int×Int×Int)×Unit)×(Unit)):=(Ak7.F (c_1,())).bind fun r2=>l3 k r2.1.1 (0:Int) c_1 ([])
theorem of {r} (h:Ev (fun k=>T k c_1) r):F (c_1,())=some r:=Ev.run (fun k=>by kernel_rfl) h
theorem S:a3L prog ⟨92,sig,F⟩:=sound_k (res:=[.tmp 2]) func92 (cok (cM ⟨Ak7.S,cM ⟨Ab0.S,nM⟩⟩))
end Ad9
namespace Ao9
noncomputable def sig:Sig:=⟨[pI],[oB]⟩
noncomputable def cfg:Cfg:=cf (cx [⟨134,Ab1.sig,Ab1.F⟩])
noncomputable def fin:=finK cfg.c sig [.tmp 2]
noncomputable def F (d:Int×Unit):OB:=anyK (a9n cfg fin (bd f178) (a6P sig.ps d 5))
variable (n_1:Int)
noncomputable def T:OB:=(Ab1.F (n_1,(0:Int),(32:Int),())).bind fun r2=>some ((r2.1.1,()),())
theorem eq:F (n_1,())=T n_1:=eq_any fun k=>by kernel_rfl
theorem S:a3L prog ⟨178,sig,F⟩:=sound_k (res:=[.tmp 2]) func178 (cok (cM ⟨Ab1.S,nM⟩))
end Ao9
namespace As2
noncomputable def sig:Sig:=⟨[pI,pI],[oB]⟩
noncomputable def cfg:Cfg:=cf (cx [⟨134,Ab1.sig,Ab1.F⟩])
noncomputable def fin:=finK cfg.c sig [.tmp 4]
noncomputable def F (d:Int×Int×Unit):OB:=anyK (a9n cfg fin (bd f193) (a6P sig.ps d 9))
variable (a_1 p_2:Int)
noncomputable def T:OB:=(Ab1.F (a_1,(0:Int),IntKind.i64.wrap (p_2-(1:Int)),())).bind fun r3=>some ((r3.1.1,()),())
theorem eq:F (a_1,p_2,())=T a_1 p_2:=eq_any fun k=>by kernel_rfl
theorem S:a3L prog ⟨193,sig,F⟩:=sound_k (res:=[.tmp 4]) func193 (cok (cM ⟨Ab1.S,nM⟩))
end As2
namespace As1
noncomputable def sig:Sig:=⟨[pI,.rptr tI],[oB]⟩
noncomputable def cfg:Cfg:=cf (cx [⟨193,As2.sig,As2.F⟩])
noncomputable def fin:=finK cfg.c sig [.tmp 3]
noncomputable def F (d:Int×Int×Unit):OB:=anyK (a9n cfg fin (bd f192) (a6P sig.ps d 8))
variable (a_1 a_2:Int)
noncomputable def T:OB:=(As2.F (a_1,a_2,())).bind fun r3=>some ((!r3.1.1,()),())
theorem eq:F (a_1,a_2,())=T a_1 a_2:=eq_any fun k=>by kernel_rfl
theorem S:a3L prog ⟨192,sig,F⟩:=sound_k (res:=[.tmp 3]) func192 (cok (cM ⟨As2.S,nM⟩))
noncomputable def cloG (y d:Int×Unit):Option (Bool×Unit):=(F (b0V [.rptr tI] [(false,tI)] d y)).map (·.1)
noncomputable def clo:Clo:=⟨192,⟨[(false,tI)],[(.val false,.bool,.deep)]⟩,[.rptr tI],cloG⟩
theorem cloS:a2p prog clo:=sound_clo (s:=⟨[(false,tI)],[(.val false,.bool,.deep)]⟩) (caps:=[.rptr tI]) rfl S
end As1
namespace Ao5
noncomputable def sig:Sig:=⟨[pL,pI],[oB]⟩
noncomputable def cfg:Cfg:=cf ⟨a2i tabl,[⟨99,Ac9.sig,Ac9.F⟩],[As1.clo],[],[],[]⟩
noncomputable def fin:=finK cfg.c sig [.tmp 4]
noncomputable def F (d:LI×Int×Unit):OB:=anyK (a9n cfg fin (bd f180) (a6P sig.ps d 9))
variable (list_1:LI) (p_2:Int)
noncomputable def T:OB:=(Ac9.F (list_1,As1.cloG (p_2,()),())).bind fun r3=>some ((!r3.1.1,()),())
theorem eq:F (list_1,p_2,())=T list_1 p_2:=eq_any fun k=>by kernel_rfl
theorem S:a3L prog ⟨180,sig,F⟩:=sound_k (res:=[.tmp 4]) func180 (⟨nM,mixed_ok,tab_ok tab_good,cM ⟨Ac9.S,nM⟩,cM ⟨As1.cloS,nM⟩,nM⟩)
end Ao5
namespace Ao2
noncomputable def sig:Sig:=⟨[pM],[oB]⟩
noncomputable def cfg:Cfg:=cf (cx [⟨90,Af7.sig,Af7.F⟩,⟨178,Ao9.sig,Ao9.F⟩,⟨179,Ac6.sig,Ac6.F⟩,⟨180,Ao5.sig,Ao5.F⟩])
noncomputable def fin:=finK cfg.c sig [.tmp 2]
noncomputable def F (d:MX×Unit):OB:=anyK (a9n cfg fin (bd f137) (a6P sig.ps d 34))
variable (m_1 m_2 m_3:Int) (m_4:LI)
noncomputable def T:OB:=(Af7.F (m_1,())).bind fun r5=>if r5.1.1=true then(Ao9.F (m_2,())).bind fun r6=>if r6.1.1=true then(Ao9.F (m_3,())).bind fun r7=>if r7.1.1=true then(Ac6.F (m_4,())).bind fun r8=>if (r8.1.1==(IntKind.i64.wrap (m_2*m_3)))=true then(Ao5.F (m_4,m_1,())).bind fun r9=>some ((r9.1.1,()),())else some ((false,()),())else some ((false,()),())else some ((false,()),())else some ((false,()),())
theorem eq:F ((m_1,(m_2,(m_3,m_4))),())=T m_1 m_2 m_3 m_4:=eq_any fun k=>by kernel_rfl
theorem S:a3L prog ⟨137,sig,F⟩:=sound_k (res:=[.tmp 2]) func137 (cok (cM ⟨Af7.S,cM ⟨Ao9.S,cM ⟨Ac6.S,cM ⟨Ao5.S,nM⟩⟩⟩⟩))
end Ao2
namespace Ao8
noncomputable def sig:Sig:=⟨[pM,pI,pI,pI],[oB]⟩
noncomputable def cfg:Cfg:=cf (cx [⟨137,Ao2.sig,Ao2.F⟩])
noncomputable def fin:=finK cfg.c sig [.tmp 8]
noncomputable def F (d:MX×Int×Int×Int×Unit):OB:=anyK (a9n cfg fin (bd f93) (a6P sig.ps d 29))
variable (m_1 m_2 m_3:Int) (m_4:LI) (p_5 from_6 to_7:Int)
noncomputable def T:OB:=(Ao2.F ((m_1,(m_2,(m_3,m_4))),())).bind fun r8=>if r8.1.1=true then if (m_1==p_5)=true then if (m_2==to_7)=true then some ((m_3==from_6,()),())else some ((false,()),())else some ((false,()),())else some ((false,()),())
theorem eq:F ((m_1,(m_2,(m_3,m_4))),p_5,from_6,to_7,())=T m_1 m_2 m_3 m_4 p_5 from_6 to_7:=eq_any fun k=>by kernel_rfl
theorem S:a3L prog ⟨93,sig,F⟩:=sound_k (res:=[.tmp 8]) func93 (cok (cM ⟨Ao2.S,nM⟩))
end Ao8
namespace Af1
noncomputable def sig:Sig:=⟨[pS],[oB]⟩
noncomputable def cfg:Cfg:=cl (cx [⟨44,Aa9.sig,Aa9.F⟩,⟨90,Af7.sig,Af7.F⟩,⟨91,Ag4.sig,Ag4.F⟩,⟨92,Ad9.sig,Ad9.F⟩,⟨93,Ao8.sig,Ao8.F⟩]) fun id=>match id with|5=>([1,3,27,28,29],[4,12])|_=>([],[])
noncomputable def fin:=finK cfg.c sig [.tmp 2]
noncomputable def F (d:SF×Unit):OB:=anyK (a9n cfg fin (bd f59) (a6P sig.ps d 69))
variable (k:Nat) (i9 i10:Int) (x11:LL) (i12:Int) (x13:LI) (x14:LM) (x15:List (Int×Int×Int))
noncomputable def l5:OB:=Vm.runT cfg fin k [.inLoop (sub [1,1,1,0,1,0,0] (bd f59)),.inBlock 0,.code (sub [1,1,1,1] (bd f59))] ⟨[dD,.ref 4 (.root 0),dD,.view 12 (.root 0) 1 false,dD,dD,dD,dD,dD,dD,dD,dD,dD,dD,dD,dD,dD,dD,dD,dD,dD,dD,dD,dD,dD,dD,dD,.view 12 (.root 0) 1 false,vI i9,vI i10]++a9v 39,[(4,⟨true,[cQ x11,cI i12,cL x13,⟨(.sl TMatrix),.sh,x14⟩]⟩),(12,⟨false,[⟨(.sl TEdge),.deep,x15⟩]⟩)]⟩
theorem l5_eq:l5 (k+1) i9 i10 x11 i12 x13 x14 x15=if (decide (i10<i9))=true then if 0≤i10∧i10<(x15.length:Int)then if (decide (i10≥(x14.length:Int)))=true then some ((false,()),())else if 0≤i10∧i10<(x14.length:Int)then if 0≤(((x15.getD i10.toNat (0,0,0)).2).2:Int)∧(((x15.getD i10.toNat (0,0,0)).2).2:Int)<(x13.length:Int)then if 0≤((x15.getD i10.toNat (0,0,0)).1:Int)∧((x15.getD i10.toNat (0,0,0)).1:Int)<(x13.length:Int)then(Ao8.F (x14.getD i10.toNat (0,0,0,([]:LI)),i12,x13.getD (((x15.getD i10.toNat (0,0,0)).2).2:Int).toNat 0,x13.getD ((x15.getD i10.toNat (0,0,0)).1:Int).toNat 0,())).bind fun r16=>if (!r16.1.1)=true then some ((false,()),())else l5 k i9 (IntKind.i64.wrap (i10+1)) x11 i12 x13 x14 x15 else none else none else none else none else some (((x15.length:Int)==(x14.length:Int),()),()):=by kernel_rfl
variable (toArray_1:LL) (toArray_2:Int) (toArray_3:LI) (toArray_4:LM)
noncomputable def T:OB:=(Aa9.F (toArray_1,())).bind fun r5=>if (!r5.1.1)=true then some ((false,()),())else(Af7.F (toArray_2,())).bind fun r6=>if (!r6.1.1)=true then some ((false,()),())else(Ag4.F (toArray_1,toArray_3,())).bind fun r7=>if (!r7.1.1)=true then some ((false,()),())else(Ad9.F (toArray_1,())).bind fun r8=>l5 k (r8.1.1.length:Int) (0:Int) toArray_1 toArray_2 toArray_3 toArray_4 r8.1.1
theorem of {r} (h:Ev (fun k=>T k toArray_1 toArray_2 toArray_3 toArray_4) r):F ((toArray_1,(toArray_2,(toArray_3,toArray_4))),())=some r:=Ev.run (fun k=>by kernel_rfl) h
theorem S:a3L prog ⟨59,sig,F⟩:=sound_k (res:=[.tmp 2]) func59 (cok (cM ⟨Aa9.S,cM ⟨Af7.S,cM ⟨Ag4.S,cM ⟨Ad9.S,cM ⟨Ao8.S,nM⟩⟩⟩⟩⟩))
end Af1
namespace Ai4
noncomputable def sig:Sig:=⟨[pM,pI],[(.val false,tL,.sh)]⟩
noncomputable def cfg:Cfg:=cf (cx [])
noncomputable def fin:=finK cfg.c sig [.tmp 4]
noncomputable def F (d:MX×Int×Unit):OL:=anyK (a9n cfg fin (bd f142) (a6P sig.ps d 17))
noncomputable def T (m_1 m_2 m_3:Int) (m_4:LI) (i_5:Int):OL:=if 0≤(IntKind.i64.wrap (i_5*m_3))∧(IntKind.i64.wrap (i_5*m_3))≤(IntKind.i64.wrap ((IntKind.i64.wrap (i_5+1))*m_3))∧(IntKind.i64.wrap ((IntKind.i64.wrap (i_5+1))*m_3))≤(m_4.length:Int)then some ((cutL m_4 (IntKind.i64.wrap (i_5*m_3)) (IntKind.i64.wrap ((IntKind.i64.wrap (i_5+1))*m_3)),()),())else none
theorem eq (m_1 m_2 m_3:Int) (m_4:LI) (i_5:Int):F ((m_1,(m_2,(m_3,m_4))),i_5,())=T m_1 m_2 m_3 m_4 i_5:=eq_any fun k=>by kernel_rfl
theorem S:a3L prog ⟨142,sig,F⟩:=sound_k (res:=[.tmp 4]) func142 (cok nM)
end Ai4
namespace Ac8
noncomputable def sig:Sig:=⟨[pL],[oL]⟩
noncomputable def cfg:Cfg:=cf (cx [])
noncomputable def fin:=finK cfg.c sig [.tmp 2]
noncomputable def F (d:LI×Unit):OL:=anyK (a9n cfg fin (bd f157) (a6P sig.ps d 8))
variable (s_1:LI)
noncomputable def T:OL:=if 0<s_1.length then if ([]:LI).length+s_1.length≤bigA then some ((([]:LI)++s_1,()),())else none else both ( some (([],()),()) ) ( if ([]:LI).length+s_1.length≤bigA then some ((([]:LI)++s_1,()),())else none )
theorem eq:F (s_1,())=T s_1:=eq_any fun k=>by kernel_rfl
theorem S:a3L prog ⟨157,sig,F⟩:=sound_k (res:=[.tmp 2]) func157 (cok nM)
end Ac8
namespace Ag8
noncomputable def sig:Sig:=⟨[pM],[oQ]⟩
noncomputable def cfg:Cfg:=cl (cx [⟨142,Ai4.sig,Ai4.F⟩,⟨157,Ac8.sig,Ac8.F⟩]) fun id=>match id with|3=>([1,3,6,7],[4,12])|_=>([],[])
noncomputable def fin:=finK cfg.c sig [.tmp 2]
noncomputable def F (d:MX×Unit):OQ:=anyK (a9n cfg fin (bd f164) (a6P sig.ps d 19))
variable (k:Nat) (i5 i6 i7 i8 i9:Int) (x10:LI) (x11:LL)
noncomputable def l3:OQ:=Vm.runT cfg fin k [.inLoop (sub [1,1,0,1,0,0] (bd f164)),.inBlock 0,.code (sub [1,1,1] (bd f164))] ⟨[dD,.ref 4 (.root 0),dD,.view 12 (.root 0) 1 false,dD,dD,vI i5,vI i6]++a9v 11,[(4,⟨true,[cI i7,cI i8,cI i9,cL x10]⟩),(12,⟨false,[dQ x11]⟩)]⟩
theorem l3_eq:l3 (k+1) i5 i6 i7 i8 i9 x10 x11=if (decide (i6<i5))=true then(Ai4.F ((i7,(i8,(i9,x10))),i6,())).bind fun r12=>(Ac8.F (r12.1.1,())).bind fun r13=>if x11.length+[r13.1.1].length≤bigA then l3 k i5 (IntKind.i64.wrap (i6+1)) i7 i8 i9 x10 (x11++[r13.1.1])else none else some ((x11,()),()):=by kernel_rfl
variable (m_1 m_2 m_3:Int) (m_4:LI)
noncomputable def T:OQ:=l3 k m_2 (0:Int) m_1 m_2 m_3 m_4 ([])
theorem of {r} (h:Ev (fun k=>T k m_1 m_2 m_3 m_4) r):F ((m_1,(m_2,(m_3,m_4))),())=some r:=Ev.run (fun k=>by kernel_rfl) h
theorem S:a3L prog ⟨164,sig,F⟩:=sound_k (res:=[.tmp 2]) func164 (cok (cM ⟨Ai4.S,cM ⟨Ac8.S,nM⟩⟩))
end Ag8
namespace Ab4
noncomputable def sig:Sig:=⟨[pI,pI,pI,.fnx ⟨[(false,tI),(false,tI)],[oI]⟩],[oM]⟩
noncomputable def cfg:Cfg:=cl (cx []) fun id=>match id with|3=>([2,3,8,9,16,17],[32,36])|6=>([2,3,8,9,10,16,17,20,21],[32,36])|_=>([],[])
noncomputable def fin:=finK cfg.c sig [.cell 8 70]
noncomputable def F (d:Int×Int×Int×((Int×Int×Unit)→Option (Int×Unit))×Unit):OM:=anyK (a9n cfg fin (bd f139) (a6P sig.ps d 36))
variable (k:Nat) (i5:Int) (f6:(Int×Int×Unit)→Option (Int×Unit)) (i7 i8 i9 i10 i11:Int) (x12:LI) (i13 i14 i15:Int) (x16:LI)
noncomputable def l3:OM:=Vm.runT cfg fin k [.inLoop (sub [1,1,0,1,0,0] (bd f139)),.inBlock 0,.code (sub [1,1,1] (bd f139))] ⟨[dD,dD,vI i5,.fnx ⟨[(false,tI),(false,tI)],[(.val false,tI,.deep)]⟩ f6,dD,dD,dD,dD,.ref 32 (.root 0),.ref 36 (.root 0),dD,dD,dD,dD,dD,dD,vI i7,vI i8]++a9v 18,[(32,⟨true,[cI i9,cI i10,cI i11,dL x12]⟩),(36,⟨true,[cI i13,cI i14,cI i15,dL x16]⟩)]⟩
variable (i17:Int) (f18:(Int×Int×Unit)→Option (Int×Unit)) (i19 i20 i21 i22 i23 i24 i25 i26:Int) (x27:LI) (i28 i29 i30:Int) (x31:LI)
noncomputable def l6:OM:=Vm.runT cfg fin k [.inLoop (sub [1,1,0,1,0,0,1,1,0,0,1,1,0,0] (bd f139)),.inBlock 2,.inBlock 1,.code (sub [1,1,0,1,0,0,1,1,1] (bd f139)),.inLoop (sub [1,1,0,1,0,0] (bd f139)),.inBlock 0,.code (sub [1,1,1] (bd f139))] ⟨[dD,dD,vI i17,.fnx ⟨[(false,tI),(false,tI)],[(.val false,tI,.deep)]⟩ f18,dD,dD,dD,dD,.ref 32 (.root 0),.ref 36 (.root 0),vI i19,dD,dD,dD,dD,dD,vI i20,vI i21,dD,dD,vI i22,vI i23]++a9v 14,[(32,⟨true,[cI i24,cI i25,cI i26,dL x27]⟩),(36,⟨true,[cI i28,cI i29,cI i30,dL x31]⟩)]⟩
theorem l3_eq:l3 (k+1) i5 f6 i7 i8 i9 i10 i11 x12 i13 i14 i15 x16=if (decide (i8<i7))=true then l6 k i5 f6 i8 i7 i8 i5 (0:Int) i9 i10 i11 x12 i13 i14 i15 x16 else some (((i13,(i14,(i15,x16))),()),()):=by kernel_rfl
theorem l6_eq:l6 (k+1) i17 f18 i19 i20 i21 i22 i23 i24 i25 i26 x27 i28 i29 i30 x31=if (decide (i23<i22))=true then(f18 (i19,i23,())).bind fun r32=>if x31.length+[r32.1].length≤bigA then l6 k i17 f18 i19 i20 i21 i22 (IntKind.i64.wrap (i23+1)) i24 i25 i26 x27 i28 i29 i30 (x31++[r32.1])else none else l3 k i17 f18 i20 (IntKind.i64.wrap (i21+1)) i24 i25 i26 x27 i28 i29 i30 x31:=by kernel_rfl
variable (p_1 rows_2 columns_3:Int) (f_4:(Int×Int×Unit)→Option (Int×Unit))
noncomputable def T:OM:=l3 k columns_3 f_4 rows_2 (0:Int) 0 0 0 ([]) p_1 rows_2 columns_3 ([])
theorem of {r} (h:Ev (fun k=>T k p_1 rows_2 columns_3 f_4) r):F (p_1,rows_2,columns_3,f_4,())=some r:=Ev.run (fun k=>by kernel_rfl) h
theorem S:a3L prog ⟨139,sig,F⟩:=sound_k (res:=[.cell 8 70]) func139 (cok nM)
end Ab4
namespace Aj5
noncomputable def sig:Sig:=⟨[pM,pI,pI],[oI]⟩
noncomputable def cfg:Cfg:=cf (cx [])
noncomputable def fin:=finK cfg.c sig [.tmp 6]
noncomputable def F (d:MX×Int×Int×Unit):OI:=anyK (a9n cfg fin (bd f170) (a6P sig.ps d 17))
noncomputable def T (m_1 m_2 m_3:Int) (m_4:LI) (i_5 j_6:Int):OI:=if 0≤(IntKind.i64.wrap ((IntKind.i64.wrap (i_5*m_3))+j_6))∧(IntKind.i64.wrap ((IntKind.i64.wrap (i_5*m_3))+j_6))<(m_4.length:Int)then some (((m_4.getD (IntKind.i64.wrap ((IntKind.i64.wrap (i_5*m_3))+j_6)).toNat 0:Int),()),())else none
theorem eq (m_1 m_2 m_3:Int) (m_4:LI) (i_5 j_6:Int):F ((m_1,(m_2,(m_3,m_4))),i_5,j_6,())=T m_1 m_2 m_3 m_4 i_5 j_6:=eq_any fun k=>by kernel_rfl
theorem S:a3L prog ⟨170,sig,F⟩:=sound_k (res:=[.tmp 6]) func170 (cok nM)
end Aj5
namespace As6
noncomputable def sig:Sig:=⟨[pI,pI,qM],[oI]⟩
noncomputable def cfg:Cfg:=cf (cx [⟨170,Aj5.sig,Aj5.F⟩])
noncomputable def fin:=finK cfg.c sig [.tmp 5]
noncomputable def F (d:Int×Int×MX×Unit):OI:=anyK (a9n cfg fin (bd f194) (a6P sig.ps d 10))
variable (i_1 j_2 a_3 a_4 a_5:Int) (a_6:LI)
noncomputable def T:OI:=(Aj5.F ((a_3,(a_4,(a_5,a_6))),j_2,i_1,())).bind fun r7=>some ((r7.1.1,()),())
theorem eq:F (i_1,j_2,(a_3,(a_4,(a_5,a_6))),())=T i_1 j_2 a_3 a_4 a_5 a_6:=eq_any fun k=>by kernel_rfl
theorem S:a3L prog ⟨194,sig,F⟩:=sound_k (res:=[.tmp 5]) func194 (cok (cM ⟨Aj5.S,nM⟩))
noncomputable def cloG (y:MX×Unit) (d:Int×Int×Unit):Option (Int×Unit):=(F (b0V [.rptr TMatrix] [(false,tI),(false,tI)] d y)).map (·.1)
noncomputable def clo:Clo:=⟨194,⟨[(false,tI),(false,tI)],[(.val false,tI,.deep)]⟩,[.rptr TMatrix],cloG⟩
theorem cloS:a2p prog clo:=sound_clo (s:=⟨[(false,tI),(false,tI)],[(.val false,tI,.deep)]⟩) (caps:=[.rptr TMatrix]) rfl S
end As6
namespace Ap2
noncomputable def sig:Sig:=⟨[pM],[oM]⟩
noncomputable def cfg:Cfg:=cf ⟨a2i tabl,[⟨139,Ab4.sig,Ab4.F⟩],[As6.clo],[],[],[]⟩
noncomputable def fin:=finK cfg.c sig [.cell 2 70]
noncomputable def F (d:MX×Unit):OM:=anyK (a9n cfg fin (bd f181) (a6P sig.ps d 11))
variable (m_1 m_2 m_3:Int) (m_4:LI)
noncomputable def T:OM:=(Ab4.F (m_1,m_3,m_2,As6.cloG ((m_1,(m_2,(m_3,m_4))),()),())).bind fun r5=>some ((r5.1.1,()),())
theorem eq:F ((m_1,(m_2,(m_3,m_4))),())=T m_1 m_2 m_3 m_4:=eq_any fun k=>by kernel_rfl
theorem S:a3L prog ⟨181,sig,F⟩:=sound_k (res:=[.cell 2 70]) func181 (⟨nM,mixed_ok,tab_ok tab_good,cM ⟨Ab4.S,nM⟩,cM ⟨As6.cloS,nM⟩,nM⟩)
end Ap2
namespace Ag5
noncomputable def sig:Sig:=⟨[pM],[oQ]⟩
noncomputable def cfg:Cfg:=cf (cx [⟨164,Ag8.sig,Ag8.F⟩,⟨181,Ap2.sig,Ap2.F⟩])
noncomputable def fin:=finK cfg.c sig [.tmp 2]
noncomputable def F (d:MX×Unit):OQ:=anyK (a9n cfg fin (bd f138) (a6P sig.ps d 6))
variable (m_1 m_2 m_3:Int) (m_4:LI)
noncomputable def T:OQ:=(Ap2.F ((m_1,(m_2,(m_3,m_4))),())).bind fun r5=>(Ag8.F (r5.1.1,())).bind fun r6=>some ((r6.1.1,()),())
theorem eq:F ((m_1,(m_2,(m_3,m_4))),())=T m_1 m_2 m_3 m_4:=eq_any fun k=>by kernel_rfl
theorem S:a3L prog ⟨138,sig,F⟩:=sound_k (res:=[.tmp 2]) func138 (cok (cM ⟨Ag8.S,cM ⟨Ap2.S,nM⟩⟩))
end Ag5
namespace Am0
noncomputable def sig:Sig:=⟨[pL,pL,pI],[oI]⟩
noncomputable def cfg:Cfg:=cl (cx []) fun id=>match id with|3=>([0,1,2,7,10,11],[])|_=>([],[])
noncomputable def fin:=finK cfg.c sig [.tmp 6]
noncomputable def F (d:LI×LI×Int×Unit):OI:=anyK (a9n cfg fin (bd f141) (a6P sig.ps d 29))
variable (k:Nat) (x4 x5:LI) (i6 i7 i8 i9:Int)
noncomputable def l3:OI:=Vm.runT cfg fin k [.inLoop (sub [1,1,0,1,0,0] (bd f141)),.inBlock 0,.code (sub [1,1,1] (bd f141))] ⟨[vL x4,vL x5,vI i6,dD,dD,dD,dD,vI i7,dD,dD,vI i8,vI i9]++a9v 17,[]⟩
theorem l3_eq:l3 (k+1) x4 x5 i6 i7 i8 i9=if (decide (i9<i8))=true then if 0≤i9∧i9<(x4.length:Int)then if 0≤i9∧i9<(x5.length:Int)then if i6=0 then none else l3 k x4 x5 i6 ((IntKind.i64.wrap (i7+(IntKind.i64.wrap ((x4.getD i9.toNat 0:Int)*(x5.getD i9.toNat 0:Int))))).tmod i6) i8 (IntKind.i64.wrap (i9+1))else none else none else some ((i7,()),()):=by kernel_rfl
variable (a_1 b_2:LI) (p_3:Int)
noncomputable def T:OI:=l3 k a_1 b_2 p_3 (0:Int) (a_1.length:Int) (0:Int)
theorem of {r} (h:Ev (fun k=>T k a_1 b_2 p_3) r):F (a_1,b_2,p_3,())=some r:=Ev.run (fun k=>by kernel_rfl) h
theorem S:a3L prog ⟨141,sig,F⟩:=sound_k (res:=[.tmp 6]) func141 (cok nM)
end Am0
namespace As5
noncomputable def sig:Sig:=⟨[pI,pI,qM,qC],[oI]⟩
noncomputable def cfg:Cfg:=cf (cx [⟨141,Am0.sig,Am0.F⟩,⟨142,Ai4.sig,Ai4.F⟩])
noncomputable def fin:=finK cfg.c sig [.tmp 6]
noncomputable def F (d:Int×Int×MX×LL×Unit):OI:=anyK (a9n cfg fin (bd f140) (a6P sig.ps d 17))
variable (i_1 j_2 a_3 a_4 a_5:Int) (a_6:LI) (a_7:LL)
noncomputable def T:OI:=(Ai4.F ((a_3,(a_4,(a_5,a_6))),i_1,())).bind fun r8=>if 0≤j_2∧j_2<(a_7.length:Int)then(Am0.F (r8.1.1,a_7.getD j_2.toNat ([]:LI),a_3,())).bind fun r9=>some ((r9.1.1,()),())else none
theorem eq:F (i_1,j_2,(a_3,(a_4,(a_5,a_6))),a_7,())=T i_1 j_2 a_3 a_4 a_5 a_6 a_7:=eq_any fun k=>by kernel_rfl
theorem S:a3L prog ⟨140,sig,F⟩:=sound_k (res:=[.tmp 6]) func140 (cok (cM ⟨Am0.S,cM ⟨Ai4.S,nM⟩⟩))
noncomputable def cloG (y:MX×LL×Unit) (d:Int×Int×Unit):Option (Int×Unit):=(F (b0V [.rptr TMatrix,.rptr tQ] [(false,tI),(false,tI)] d y)).map (·.1)
noncomputable def clo:Clo:=⟨140,⟨[(false,tI),(false,tI)],[(.val false,tI,.deep)]⟩,[.rptr TMatrix,.rptr tQ],cloG⟩
theorem cloS:a2p prog clo:=sound_clo (s:=⟨[(false,tI),(false,tI)],[(.val false,tI,.deep)]⟩) (caps:=[.rptr TMatrix,.rptr tQ]) rfl S
end As5
namespace Ag7
noncomputable def sig:Sig:=⟨[pM,pM],[oM]⟩
noncomputable def cfg:Cfg:=cf ⟨a2i tabl,[⟨138,Ag5.sig,Ag5.F⟩,⟨139,Ab4.sig,Ab4.F⟩],[As5.clo],[],[],[]⟩
noncomputable def fin:=finK cfg.c sig [.cell 4 70]
noncomputable def F (d:MX×MX×Unit):OM:=anyK (a9n cfg fin (bd f95) (a6P sig.ps d 16))
variable (a_1 a_2 a_3:Int) (a_4:LI) (b_5 b_6 b_7:Int) (b_8:LI)
noncomputable def T:OM:=(Ag5.F ((b_5,(b_6,(b_7,b_8))),())).bind fun r9=>(Ab4.F (a_1,a_2,b_7,As5.cloG ((a_1,(a_2,(a_3,a_4))),r9.1.1,()),())).bind fun r10=>some ((r10.1.1,()),())
theorem eq:F ((a_1,(a_2,(a_3,a_4))),(b_5,(b_6,(b_7,b_8))),())=T a_1 a_2 a_3 a_4 b_5 b_6 b_7 b_8:=eq_any fun k=>by kernel_rfl
theorem S:a3L prog ⟨95,sig,F⟩:=sound_k (res:=[.cell 4 70]) func95 (⟨nM,mixed_ok,tab_ok tab_good,cM ⟨Ag5.S,cM ⟨Ab4.S,nM⟩⟩,cM ⟨As5.cloS,nM⟩,nM⟩)
end Ag7
namespace Ai5
noncomputable def sig:Sig:=⟨[pS,pI],[oI]⟩
noncomputable def cfg:Cfg:=cl (cx [⟨179,Ac6.sig,Ac6.F⟩]) fun id=>match id with|3=>([5,12,13,14],[])|_=>([],[])
noncomputable def fin:=finK cfg.c sig [.tmp 4]
noncomputable def F (d:SF×Int×Unit):OI:=anyK (a9n cfg fin (bd f143) (a6P sig.ps d 27))
variable (k:Nat) (i6:Int) (x7:LL) (i8 i9:Int)
noncomputable def l3:OI:=Vm.runT cfg fin k [.inLoop (sub [1,1,0,1,0,0] (bd f143)),.inBlock 0,.code (sub [1,1,1] (bd f143))] ⟨[dD,dD,dD,dD,dD,vI i6,dD,dD,dD,dD,dD,dD,vQ x7,vI i8,vI i9]++a9v 12,[]⟩
theorem l3_eq:l3 (k+1) i6 x7 i8 i9=if (decide (i9<i8))=true then if 0≤i9∧i9<(x7.length:Int)then if (decide (((x7.getD i9.toNat ([]:LI)).length:Int)>1))=true then(Ac6.F (x7.getD i9.toNat ([]:LI),())).bind fun r10=>l3 k (IntKind.i64.wrap (i6+r10.1.1)) x7 i8 (IntKind.i64.wrap (i9+1))else l3 k i6 x7 i8 (IntKind.i64.wrap (i9+1))else none else some ((i6,()),()):=by kernel_rfl
noncomputable def T (k:Nat) (s_1:LL) (s_2:Int) (s_3:LI) (s_4:LM) (simplex_5:Int):OI:=if 0≤(0:Int)∧(0:Int)≤simplex_5∧simplex_5≤(s_1.length:Int)then l3 k (0:Int) (cutL s_1 (0:Int) simplex_5) ((cutL s_1 (0:Int) simplex_5).length:Int) (0:Int)else none
theorem of (s_1:LL) (s_2:Int) (s_3:LI) (s_4:LM) (simplex_5:Int) {r} (h:Ev (fun k=>T k s_1 s_2 s_3 s_4 simplex_5) r):F ((s_1,(s_2,(s_3,s_4))),simplex_5,())=some r:=Ev.run (fun k=>by kernel_rfl) h
theorem S:a3L prog ⟨143,sig,F⟩:=sound_k (res:=[.tmp 4]) func143 (cok (cM ⟨Ac6.S,nM⟩))
end Ai5
namespace Ab3
noncomputable def sig:Sig:=⟨[pS,pI,pI],[(.val true,TMatrix,.sh)]⟩
noncomputable def cfg:Cfg:=cf (cx [⟨143,Ai5.sig,Ai5.F⟩])
noncomputable def fin:=finK cfg.c sig [.cell 6 70]
noncomputable def F (d:SF×Int×Int×Unit):OM:=anyK (a9n cfg fin (bd f96) (a6P sig.ps d 16))
variable (s_1:LL) (s_2:Int) (s_3:LI) (s_4:LM) (simplex_5 place_6:Int)
noncomputable def T:OM:=(Ai5.F ((s_1,(s_2,(s_3,s_4))),simplex_5,())).bind fun r7=>if 0≤(IntKind.i64.wrap (r7.1.1+place_6))∧(IntKind.i64.wrap (r7.1.1+place_6))<(s_4.length:Int)then let y8:Int:=(s_4.getD (IntKind.i64.wrap (r7.1.1+place_6)).toNat (0,0,0,([]:LI))).1;let y9:Int:=((s_4.getD (IntKind.i64.wrap (r7.1.1+place_6)).toNat (0,0,0,([]:LI))).2).1;let y10:Int:=(((s_4.getD (IntKind.i64.wrap (r7.1.1+place_6)).toNat (0,0,0,([]:LI))).2).2).1;let y11:LI:=(((s_4.getD (IntKind.i64.wrap (r7.1.1+place_6)).toNat (0,0,0,([]:LI))).2).2).2;some (((y8,(y9,(y10,y11))),()),())else none
theorem eq:F ((s_1,(s_2,(s_3,s_4))),simplex_5,place_6,())=T s_1 s_2 s_3 s_4 simplex_5 place_6:=eq_any fun k=>by kernel_rfl
theorem S:a3L prog ⟨96,sig,F⟩:=sound_k (res:=[.cell 6 70]) func96 (cok (cM ⟨Ai5.S,nM⟩))
end Ab3
namespace Ab7
noncomputable def sig:Sig:=⟨[pL,pL],[oB]⟩
noncomputable def cfg:Cfg:=cl (cx []) fun id=>match id with|4=>([0,1,12,13],[])|_=>([],[])
noncomputable def fin:=finK cfg.c sig [.tmp 4]
noncomputable def F (d:LI×LI×Unit):OB:=anyK (a9n cfg fin (bd f144) (a6P sig.ps d 26))
variable (k:Nat) (x3 x4:LI) (i5 i6:Int)
noncomputable def l4:OB:=Vm.runT cfg fin k [.inLoop (sub [1,1,0,1,0,0] (bd f144)),.inBlock 0,.code (sub [1,1,1] (bd f144))] ⟨[vL x3,vL x4,dD,dD,dD,dD,dD,dD,dD,dD,dD,dD,vI i5,vI i6]++a9v 12,[]⟩
theorem l4_eq:l4 (k+1) x3 x4 i5 i6=if (decide (i6<i5))=true then if 0≤i6∧i6<(x3.length:Int)then if 0≤i6∧i6<(x4.length:Int)then if ((x3.getD i6.toNat 0:Int)!=(x4.getD i6.toNat 0:Int))=true then some ((false,()),())else l4 k x3 x4 i5 (IntKind.i64.wrap (i6+1))else none else none else some ((true,()),()):=by kernel_rfl
variable (s1_1 s2_2:LI)
noncomputable def T:OB:=if ((s1_1.length:Int)!=(s2_2.length:Int))=true then some ((false,()),())else l4 k s1_1 s2_2 (s1_1.length:Int) (0:Int)
theorem of {r} (h:Ev (fun k=>T k s1_1 s2_2) r):F (s1_1,s2_2,())=some r:=Ev.run (fun k=>by kernel_rfl) h
theorem S:a3L prog ⟨144,sig,F⟩:=sound_k (res:=[.tmp 4]) func144 (cok nM)
noncomputable def cloG (y:Unit) (d:LI×LI×Unit):Option (Bool×Unit):=(F (b0V [] [(false,tL),(false,tL)] d y)).map (·.1)
noncomputable def clo:Clo:=⟨144,⟨[(false,tL),(false,tL)],[(.val false,.bool,.deep)]⟩,[],cloG⟩
theorem cloS:a2p prog clo:=sound_clo (s:=⟨[(false,tL),(false,tL)],[(.val false,.bool,.deep)]⟩) (caps:=[]) rfl S
end Ab7
namespace Ao0
noncomputable def sig:Sig:=⟨[pM,pM],[oB]⟩
noncomputable def cfg:Cfg:=cf (cx [⟨144,Ab7.sig,Ab7.F⟩])
noncomputable def fin:=finK cfg.c sig [.tmp 4]
noncomputable def F (d:MX×MX×Unit):OB:=anyK (a9n cfg fin (bd f97) (a6P sig.ps d 31))
variable (a_1 a_2 a_3:Int) (a_4:LI) (b_5 b_6 b_7:Int) (b_8:LI)
noncomputable def T:OB:=if (a_1==b_5)=true then if (a_2==b_6)=true then if (a_3==b_7)=true then(Ab7.F (a_4,b_8,())).bind fun r9=>some ((r9.1.1,()),())else some ((false,()),())else some ((false,()),())else some ((false,()),())
theorem eq:F ((a_1,(a_2,(a_3,a_4))),(b_5,(b_6,(b_7,b_8))),())=T a_1 a_2 a_3 a_4 b_5 b_6 b_7 b_8:=eq_any fun k=>by kernel_rfl
theorem S:a3L prog ⟨97,sig,F⟩:=sound_k (res:=[.tmp 4]) func97 (cok (cM ⟨Ab7.S,nM⟩))
end Ao0
namespace Ac2
noncomputable def sig:Sig:=⟨[pS],[oI,oI,oB]⟩
noncomputable def cfg:Cfg:=cl (cx [⟨94,Ab0.sig,Ab0.F⟩,⟨95,Ag7.sig,Ag7.F⟩,⟨96,Ab3.sig,Ab3.F⟩,⟨97,Ao0.sig,Ao0.F⟩]) fun id=>match id with|2=>([1,15,16,17],[4])|8=>([1,6,7,8,15,16,17,31,32],[4,32])|11=>([1,6,7,8,9,10,15,16,17,31,32],[4,32])|_=>([],[])
noncomputable def fin:=finK cfg.c sig [.tmp 2,.tmp 3,.tmp 4]
noncomputable def F (d:SF×Unit):Option ((Int×Int×Bool×Unit)×(Unit)):=anyK (a9n cfg fin (bd f60) (a6P sig.ps d 86))
variable (k:Nat) (x5:LL) (i6 i7:Int) (x8:LL) (i9:Int) (x10:LI) (x11:LM)
noncomputable def l2:Option ((Int×Int×Bool×Unit)×(Unit)):=Vm.runT cfg fin k [.inLoop (sub [1,0,1,0,0] (bd f60)),.inBlock 0,.code (sub [1,1] (bd f60))] ⟨[dD,.ref 4 (.root 0),dD,dD,dD,dD,dD,dD,dD,dD,dD,dD,dD,dD,dD,vQ x5,vI i6,vI i7]++a9v 68,[(4,⟨true,[cQ x8,cI i9,cL x10,⟨(.sl TMatrix),.sh,x11⟩]⟩)]⟩
variable (x13:LI) (i14:Int) (x15:LL) (i16 i17 i18 i19:Int) (x20:LL) (i21:Int) (x22:LI) (x23:LM) (x24:LI)
noncomputable def l8:Option ((Int×Int×Bool×Unit)×(Unit)):=Vm.runT cfg fin k [.inLoop (sub [1,0,1,0,0,1,1,0,0,1,1,1,1,1,0,0] (bd f60)),.inBlock 2,.inBlock 1,.code (sub [1,0,1,0,0,1,1,1] (bd f60)),.inLoop (sub [1,0,1,0,0] (bd f60)),.inBlock 0,.code (sub [1,1] (bd f60))] ⟨[dD,.ref 4 (.root 0),dD,dD,dD,dD,vL x13,vI i14,.view 32 (.root 0) 1 false,dD,dD,dD,dD,dD,dD,vQ x15,vI i16,vI i17,dD,dD,dD,dD,dD,dD,dD,dD,dD,dD,dD,dD,dD,vI i18,vI i19]++a9v 53,[(4,⟨true,[cQ x20,cI i21,cL x22,⟨(.sl TMatrix),.sh,x23⟩]⟩),(32,⟨false,[dL x24]⟩)]⟩
variable (x25:LI) (i26 i27 i28:Int) (x29:LL) (i30 i31 i32 i33:Int) (x34:LL) (i35:Int) (x36:LI) (x37:LM) (x38:LI)
noncomputable def l11:Option ((Int×Int×Bool×Unit)×(Unit)):=Vm.runT cfg fin k [.inLoop (sub [1,0,1,0,0,1,1,0,0,1,1,1,1,1,0,0,1,1,0,0,1,1,0,0] (bd f60)),.inBlock 4,.inBlock 3,.code (sub [1,0,1,0,0,1,1,0,0,1,1,1,1,1,0,0,1,1,1] (bd f60)),.inLoop (sub [1,0,1,0,0,1,1,0,0,1,1,1,1,1,0,0] (bd f60)),.inBlock 2,.inBlock 1,.code (sub [1,0,1,0,0,1,1,1] (bd f60)),.inLoop (sub [1,0,1,0,0] (bd f60)),.inBlock 0,.code (sub [1,1] (bd f60))] ⟨[dD,.ref 4 (.root 0),dD,dD,dD,dD,vL x25,vI i26,.view 32 (.root 0) 1 false,vI i27,vI i28,dD,dD,dD,dD,vQ x29,vI i30,vI i31,dD,dD,dD,dD,dD,dD,dD,dD,dD,dD,dD,dD,dD,vI i32,vI i33]++a9v 53,[(4,⟨true,[cQ x34,cI i35,cL x36,⟨(.sl TMatrix),.sh,x37⟩]⟩),(32,⟨false,[dL x38]⟩)]⟩
theorem l2_eq:l2 (k+1) x5 i6 i7 x8 i9 x10 x11=if (decide (i7<i6))=true then if 0≤i7∧i7<(x5.length:Int)then if (decide (((x5.getD i7.toNat ([]:LI)).length:Int)<3))=true then l2 k x5 i6 (IntKind.i64.wrap (i7+1)) x8 i9 x10 x11 else(Ab0.F (x8,i7,())).bind fun r12=>l8 k (x5.getD i7.toNat ([]:LI)) i7 x5 i6 i7 ((x5.getD i7.toNat ([]:LI)).length:Int) (0:Int) x8 i9 x10 x11 r12.1.1 else none else some (((0:Int),((0:Int),(false,()))),()):=by kernel_rfl
theorem l8_eq:l8 (k+1) x13 i14 x15 i16 i17 i18 i19 x20 i21 x22 x23 x24=if (decide (i19<i18))=true then l11 k x13 i14 i19 (IntKind.i64.wrap (i19+1)) x15 i16 i17 i18 i19 x20 i21 x22 x23 x24 else l2 k x15 i16 (IntKind.i64.wrap (i17+1)) x20 i21 x22 x23:=by kernel_rfl
theorem l11_eq:l11 (k+1) x25 i26 i27 i28 x29 i30 i31 i32 i33 x34 i35 x36 x37 x38=if (decide (i28<(x25.length:Int)))=true then(Ab3.F ((x34,(i35,(x36,x37))),i26,i27,())).bind fun r39=>if 0≤i27∧i27<(x38.length:Int)then(Ab3.F ((x34,(i35,(x36,x37))),(x38.getD i27.toNat 0:Int),IntKind.i64.wrap (i28-1),())).bind fun r40=>(Ag7.F (r39.1.1,r40.1.1,())).bind fun r41=>(Ab3.F ((x34,(i35,(x36,x37))),i26,i28,())).bind fun r42=>if 0≤i28∧i28<(x38.length:Int)then(Ab3.F ((x34,(i35,(x36,x37))),(x38.getD i28.toNat 0:Int),i27,())).bind fun r43=>(Ag7.F (r42.1.1,r43.1.1,())).bind fun r44=>(Ao0.F (r41.1.1,r44.1.1,())).bind fun r45=>if (!r45.1.1)=true then if 0≤i27∧i27<(x38.length:Int)then(Ab0.F (x34,(x38.getD i27.toNat 0:Int),())).bind fun r46=>if 0≤(IntKind.i64.wrap (i28-1))∧(IntKind.i64.wrap (i28-1))<(r46.1.1.length:Int)then some ((i26,(r46.1.1.getD (IntKind.i64.wrap (i28-1)).toNat 0,(true,()))),())else none else none else l11 k x25 i26 i27 (IntKind.i64.wrap (i28+1)) x29 i30 i31 i32 i33 x34 i35 x36 x37 x38 else none else none else l8 k x25 i26 x29 i30 i31 i32 (IntKind.i64.wrap (i33+1)) x34 i35 x36 x37 x38:=by kernel_rfl
variable (toArray_1:LL) (toArray_2:Int) (toArray_3:LI) (toArray_4:LM)
noncomputable def T:Option ((Int×Int×Bool×Unit)×(Unit)):=l2 k toArray_1 (toArray_1.length:Int) (0:Int) toArray_1 toArray_2 toArray_3 toArray_4
theorem of {r} (h:Ev (fun k=>T k toArray_1 toArray_2 toArray_3 toArray_4) r):F ((toArray_1,(toArray_2,(toArray_3,toArray_4))),())=some r:=Ev.run (fun k=>by kernel_rfl) h
theorem S:a3L prog ⟨60,sig,F⟩:=sound_k (res:=[.tmp 2,.tmp 3,.tmp 4]) func60 (cok (cM ⟨Ab0.S,cM ⟨Ag7.S,cM ⟨Ab3.S,cM ⟨Ao0.S,nM⟩⟩⟩⟩))
end Ac2
namespace Af6
noncomputable def sig:Sig:=⟨[pS],[oB]⟩
noncomputable def cfg:Cfg:=cf (cx [⟨59,Af1.sig,Af1.F⟩,⟨60,Ac2.sig,Ac2.F⟩])
noncomputable def fin:=finK cfg.c sig [.tmp 2]
noncomputable def F (d:SF×Unit):OB:=anyK (a9n cfg fin (bd f43) (a6P sig.ps d 17))
variable (s_1:LL) (s_2:Int) (s_3:LI) (s_4:LM)
noncomputable def T:OB:=(Af1.F ((s_1,(s_2,(s_3,s_4))),())).bind fun r5=>if (!r5.1.1)=true then some ((false,()),())else(Ac2.F ((s_1,(s_2,(s_3,s_4))),())).bind fun r6=>some ((!r6.1.2.2.1,()),())
theorem eq:F ((s_1,(s_2,(s_3,s_4))),())=T s_1 s_2 s_3 s_4:=eq_any fun k=>by kernel_rfl
theorem S:a3L prog ⟨43,sig,F⟩:=sound_k (res:=[.tmp 2]) func43 (cok (cM ⟨Af1.S,cM ⟨Ac2.S,nM⟩⟩))
end Af6
namespace Al1
noncomputable def sig:Sig:=⟨[pQ,pQ,.fnx ⟨[(false,tL),(false,tL)],[oB]⟩],[oB]⟩
noncomputable def cfg:Cfg:=cl (cx []) fun id=>match id with|4=>([1,2,15,16,17],[])|_=>([],[])
noncomputable def fin:=finK cfg.c sig [.tmp 6]
noncomputable def F (d:LL×LL×((LI×LI×Unit)→Option (Bool×Unit))×Unit):OB:=anyK (a9n cfg fin (bd f149) (a6P sig.ps d 32))
variable (k:Nat) (x4:LL) (f5:(LI×LI×Unit)→Option (Bool×Unit)) (x6:LL) (i7 i8:Int)
noncomputable def l4:OB:=Vm.runT cfg fin k [.inLoop (sub [1,1,0,1,0,0] (bd f149)),.inBlock 0,.code (sub [1,1,1] (bd f149))] ⟨[dD,vQ x4,.fnx ⟨[(false,tL),(false,tL)],[(.val false,.bool,.deep)]⟩ f5,dD,dD,dD,dD,dD,dD,dD,dD,dD,dD,dD,dD,vQ x6,vI i7,vI i8]++a9v 14,[]⟩
theorem l4_eq:l4 (k+1) x4 f5 x6 i7 i8=if (decide (i8<i7))=true then if 0≤i8∧i8<(x6.length:Int)then if 0≤i8∧i8<(x4.length:Int)then(f5 (x6.getD i8.toNat ([]:LI),x4.getD i8.toNat ([]:LI),())).bind fun r9=>if (!r9.1)=true then some ((false,()),())else l4 k x4 f5 x6 i7 (IntKind.i64.wrap (i8+1))else none else none else some ((true,()),()):=by kernel_rfl
variable (s1_1 s2_2:LL) (f_3:(LI×LI×Unit)→Option (Bool×Unit))
noncomputable def T:OB:=if ((s1_1.length:Int)!=(s2_2.length:Int))=true then some ((false,()),())else l4 k s2_2 f_3 s1_1 (s1_1.length:Int) (0:Int)
theorem of {r} (h:Ev (fun k=>T k s1_1 s2_2 f_3) r):F (s1_1,s2_2,f_3,())=some r:=Ev.run (fun k=>by kernel_rfl) h
theorem S:a3L prog ⟨149,sig,F⟩:=sound_k (res:=[.tmp 6]) func149 (cok nM)
end Al1
namespace Ao6
noncomputable def sig:Sig:=⟨[pQ,pQ],[oB]⟩
noncomputable def cfg:Cfg:=cf ⟨a2i tabl,[⟨149,Al1.sig,Al1.F⟩],[Ab7.clo],[],[],[]⟩
noncomputable def fin:=finK cfg.c sig [.tmp 4]
noncomputable def F (d:LL×LL×Unit):OB:=anyK (a9n cfg fin (bd f108) (a6P sig.ps d 8))
variable (a_1 b_2:LL)
noncomputable def T:OB:=(Al1.F (a_1,b_2,Ab7.cloG (()),())).bind fun r3=>some ((r3.1.1,()),())
theorem eq:F (a_1,b_2,())=T a_1 b_2:=eq_any fun k=>by kernel_rfl
theorem S:a3L prog ⟨108,sig,F⟩:=sound_k (res:=[.tmp 4]) func108 (⟨nM,mixed_ok,tab_ok tab_good,cM ⟨Al1.S,nM⟩,cM ⟨Ab7.cloS,nM⟩,nM⟩)
end Ao6
namespace An9
noncomputable def sig:Sig:=⟨[pC,pC],[oB]⟩
noncomputable def cfg:Cfg:=cf (cx [⟨108,Ao6.sig,Ao6.F⟩])
noncomputable def fin:=finK cfg.c sig [.tmp 4]
noncomputable def F (d:LL×LL×Unit):OB:=anyK (a9n cfg fin (bd f67) (a6P sig.ps d 10))
variable (a_1 b_2:LL)
noncomputable def T:OB:=(Ao6.F (a_1,b_2,())).bind fun r3=>some ((r3.1.1,()),())
theorem eq:F (a_1,b_2,())=T a_1 b_2:=eq_any fun k=>by kernel_rfl
theorem S:a3L prog ⟨67,sig,F⟩:=sound_k (res:=[.tmp 4]) func67 (cok (cM ⟨Ao6.S,nM⟩))
end An9
namespace Ad3
noncomputable def sig:Sig:=⟨[pQ],[oQ]⟩
noncomputable def cfg:Cfg:=cl (cx [⟨157,Ac8.sig,Ac8.F⟩]) fun id=>match id with|3=>([3,6,7,8],[12])|_=>([],[])
noncomputable def fin:=finK cfg.c sig [.tmp 2]
noncomputable def F (d:LL×Unit):OQ:=anyK (a9n cfg fin (bd f150) (a6P sig.ps d 19))
variable (k:Nat) (x2:LL) (i3 i4:Int) (x5:LL)
noncomputable def l3:OQ:=Vm.runT cfg fin k [.inLoop (sub [1,1,0,1,0,0] (bd f150)),.inBlock 0,.code (sub [1,1,1] (bd f150))] ⟨[dD,dD,dD,.view 12 (.root 0) 1 false,dD,dD,vQ x2,vI i3,vI i4]++a9v 10,[(12,⟨false,[dQ x5]⟩)]⟩
theorem l3_eq:l3 (k+1) x2 i3 i4 x5=if (decide (i4<i3))=true then if 0≤i4∧i4<(x2.length:Int)then(Ac8.F (x2.getD i4.toNat ([]:LI),())).bind fun r6=>if x5.length+[r6.1.1].length≤bigA then l3 k x2 i3 (IntKind.i64.wrap (i4+1)) (x5++[r6.1.1])else none else none else some ((x5,()),()):=by kernel_rfl
variable (lists_1:LL)
noncomputable def T:OQ:=l3 k lists_1 (lists_1.length:Int) (0:Int) ([])
theorem of {r} (h:Ev (fun k=>T k lists_1) r):F (lists_1,())=some r:=Ev.run (fun k=>by kernel_rfl) h
theorem S:a3L prog ⟨150,sig,F⟩:=sound_k (res:=[.tmp 2]) func150 (cok (cM ⟨Ac8.S,nM⟩))
end Ad3
namespace Aq8
noncomputable def sig:Sig:=sortS
noncomputable def F (d:LL×((LI×LI×Unit)→Option (Int×Unit))×Unit):Option ((Unit)×(LL×Unit)):=sortF ordS d
def ren:Go.Shelf.Ren:=⟨fun|6=>151|14=>183|15=>184|20=>195|21=>196|22=>197|23=>198|24=>199|25=>200|26=>201|27=>202|28=>203|29=>204|46=>217|47=>218|48=>219|49=>220|50=>221|57=>227|n=>n,fun|0=>0|3=>3|4=>4|5=>5|9=>9|22=>22|24=>25|25=>89|39=>162|45=>187|46=>188|50=>127|53=>194|55=>196|66=>204|70=>208|76=>212|77=>213|n=>n,fun n=>n⟩
theorem lays:Go.Proofs.SlLaysF.n6 prog ren where
  mixed:=by kernel_rfl
  f6 := ⟨"slices.SortFunc[[][]int64,[]int64]", by decide, func151.trans (congrArg some (by kernel_rfl))⟩
  f14 := ⟨"slices.pdqsortCmpFunc[[]int64]", by decide, func183.trans (congrArg some (by kernel_rfl))⟩
  f15:=func184.trans (congrArg some (by kernel_rfl))
  f20 := ⟨"slices.insertionSortCmpFunc[[]int64]", by decide, func195.trans (congrArg some (by kernel_rfl))⟩
  f21 := ⟨"slices.heapSortCmpFunc[[]int64]", by decide, func196.trans (congrArg some (by kernel_rfl))⟩
  f22 := ⟨"slices.breakPatternsCmpFunc[[]int64]", by decide, func197.trans (congrArg some (by kernel_rfl))⟩
  f23 := ⟨"slices.choosePivotCmpFunc[[]int64]", by decide, func198.trans (congrArg some (by kernel_rfl))⟩
  f24 := ⟨"slices.reverseRangeCmpFunc[[]int64]", by decide, func199.trans (congrArg some (by kernel_rfl))⟩
  f25 := ⟨"slices.partialInsertionSortCmpFunc[[]int64]", by decide, func200.trans (congrArg some (by kernel_rfl))⟩
  f26 := ⟨"slices.partitionEqualCmpFunc[[]int64]", by decide, func201.trans (congrArg some (by kernel_rfl))⟩
  f27 := ⟨"slices.partitionCmpFunc[[]int64]", by decide, func202.trans (congrArg some (by kernel_rfl))⟩
  f28:=func203.trans (congrArg some (by kernel_rfl))
  f29:=func204.trans (congrArg some (by kernel_rfl))
  f46 := ⟨"slices.siftDownCmpFunc[[]int64]", by decide, func217.trans (congrArg some (by kernel_rfl))⟩
  f47:=func218.trans (congrArg some (by kernel_rfl))
  f48:=func219.trans (congrArg some (by kernel_rfl))
  f49 := ⟨"slices.medianAdjacentCmpFunc[[]int64]", by decide, func220.trans (congrArg some (by kernel_rfl))⟩
  f50 := ⟨"slices.medianCmpFunc[[]int64]", by decide, func221.trans (congrArg some (by kernel_rfl))⟩
  f57 := ⟨"slices.order2CmpFunc[[]int64]", by decide, func227.trans (congrArg some (by kernel_rfl))⟩
  t0:=underlying0
  a0:=isAgg0
  z0:=sizeOf0
  v0:=zeroValue0
  t3:=underlying3
  a3:=isAgg3
  z3:=sizeOf3
  v3:=zeroValue3
  t4:=underlying4
  a4:=isAgg4
  z4:=sizeOf4
  v4:=zeroValue4
  t5:=underlying5
  a5:=isAgg5
  z5:=sizeOf5
  v5:=zeroValue5
  t9:=underlying9
  a9:=isAgg9
  z9:=sizeOf9
  v9:=zeroValue9
  t22:=underlying22
  a22:=isAgg22
  z22:=sizeOf22
  v22:=zeroValue22
  a24:=isAgg25
  z24:=sizeOf25
  t25:=underlying89
  a25:=isAgg89
  z25:=sizeOf89
  v25:=zeroValue89
  t39:=underlying162
  a39:=isAgg162
  z39:=sizeOf162
  v39:=zeroValue162
  t45:=underlying187
  a45:=isAgg187
  z45:=sizeOf187
  v45:=zeroValue187
  t46:=underlying188
  a46:=isAgg188
  z46:=sizeOf188
  v46:=zeroValue188
  t50:=underlying127
  a50:=isAgg127
  z50:=sizeOf127
  v50:=zeroValue127
  t53:=underlying194
  a53:=isAgg194
  z53:=sizeOf194
  v53:=zeroValue194
  t55:=underlying196
  a55:=isAgg196
  z55:=sizeOf196
  v55:=zeroValue196
  t66:=underlying204
  a66:=isAgg204
  z66:=sizeOf204
  v66:=zeroValue204
  t70:=underlying208
  a70:=isAgg208
  z70:=sizeOf208
  v70:=zeroValue208
  t76:=underlying212
  a76:=isAgg212
  z76:=sizeOf212
  v76:=zeroValue212
  t77:=underlying213
  a77:=isAgg213
  z77:=sizeOf213
  v77:=zeroValue213
theorem S:a3L prog ⟨151,sig,F⟩:=sort_sound lays ordS_swo ordS_tot
end Aq8
namespace Aq6
noncomputable def sig:Sig:=compS
noncomputable def F (d:LL×((LI×LI×Unit)→Option (Bool×Unit))×Unit):OQ:=compF d
theorem emp (p:Option Addr) (cap:Nat) (fv:Value) (w:World):Calls prog 152 #[.slice p 0 cap,fv] w fun e w'=>e = .returned (.slice p 0 cap)∧w'=w:=by
  go_enter func152,ntmps152
  go_wp2
  go_ret
  exact⟨rfl,rfl⟩
open Go.Proofs Go.Shelf Go.RowKit Go.Lib Go.Sort in
set_option maxHeartbeats 16000000 in
set_option maxRecDepth 1000000 in
theorem walk {α : Type} [Inhabited α] (enc:α→Value) (hO:OneCell enc) (eq:α→α→Bool) (zr:α) (hz:enc zr = .slice none 0 0) (g:Nat) (cb:Array Value) (eg:∀ args w,(callFunc g args).run prog w = .ok (.enter g args) w)
    (blk off cap:Nat) (d:Array α) (w:World) (hcmp:b0D prog g cb enc eq blk off d.size w) (hH:Holds enc w blk off d) (hblk:blk<w.heap.size) (hsz:d.size<4611686018427387904) (hcap:d.size≤cap) (kp:Nat→Bool) (hkp0:kp 0=true) (hkp:∀ j,0<j→kp j=!(eq d[j]! d[j-1]!)) :
    Calls prog 152 #[.slice (some ⟨blk,off,none⟩) d.size cap,.func (.func g) #[] cb] w fun e w'=>e = .returned (.slice (some ⟨blk,off,none⟩) (keptUpTo kp d d.size).length cap)∧SW enc w blk off (keptUpTo kp d d.size++List.replicate (d.size-(keptUpTo kp d d.size).length) zr).toArray w':=by
  have mixed:prog.follows .mixedOrders=true:=mixed_ok
  have hcl0:=hO.cells
  simp only[Value.cells]at hcl0
  have hst:=hO.store prog
  have R:Row1 enc w blk off d:=⟨hO,hH,hblk⟩
  have HC:Aside (b0D prog g cb enc eq blk off d.size w):=hcmp
  have S0:Aside (SW enc w blk off d w):=SW.start hH
  have same:∀ W,SW enc w blk off d W→(∀ j,j<d.size→kp j=true)→(keptUpTo kp d d.size).length=d.size∧SW enc w blk off (keptUpTo kp d d.size++List.replicate (d.size-(keptUpTo kp d d.size).length) zr).toArray W:=by
    intro W hW hall
    have e:keptUpTo kp d d.size=d.toList:=by rw[keptUpTo_all kp d _ hall,range_map_get]
    rw[e]
    refine⟨by simp,?_⟩
    simpa using hW
  have HS:Aside _:=same
  have K0:Aside (kp 0=true):=hkp0
  have K1:Aside (∀ j,0<j→kp j=!(eq d[j]! d[j-1]!)):=hkp
  clear hcmp same hkp0 hkp hH
  by_cases h2:d.size<2
  · go_enter func152,ntmps152
    go_wp2
    go_ret
    obtain⟨e1,e2⟩:=HS.out _ S0.out (fun j hj=>by
      have:j=0:=by omega
      rw[this];exact K0.out)
    exact⟨by rw[e1];rfl,e2⟩
  · go_enter func152,ntmps152
    go_wp2
    go_loopg [5] d.size (fun g1 s5 wr=>∃ k:Nat,s5 = .int .i64 k∧1≤k∧k≤d.size∧d.size-k≤g1∧Aside (SW enc w blk off d wr)∧Hid (∀ j,j<k→kp j=true))
    case atStart=>exact⟨1,rfl,Nat.le_refl _,by omega,by omega,S0,fun j hj=>by
      have:j=0:=by omega
      rw[this];exact K0.out⟩
    case round =>
      clear S0
      obtain⟨k,rfl,hk1,hk,hg1,S1,HA⟩:=hrel
      by_cases hlt:k<d.size
      · have hltz:(k:Int)<(d.size:Int):=by omega
        obtain⟨kq,hkq⟩:∃ q,q+1=k:=⟨k-1,by omega⟩
        have zk:(k:Int)=(kq:Int)+1:=by omega
        obtain⟨iN,hiN⟩:∃ q,q=k:=⟨_,rfl⟩
        obtain⟨jN,hjN⟩:∃ q,q=k-1:=⟨_,rfl⟩
        have ea:((kq:Int)+1).toNat=iN:=by omega
        have pa:(0:Int)≤(kq:Int)+1:=by omega
        have ba:(kq:Int)+1<(d.size:Int):=by omega
        have ra:IntKind.i64.wrap ((kq:Int)+1)=(kq:Int)+1:=by rw[IntKind.wrap_i64];omega
        have ec:((kq:Int)).toNat=jN:=by omega
        have pc:(0:Int)≤(kq:Int):=by omega
        have bc:(kq:Int)<(d.size:Int):=by omega
        have rc:IntKind.i64.wrap ((kq:Int))=(kq:Int):=by rw[IntKind.wrap_i64];omega
        obtain⟨x,hx⟩:∃ x,x=d[k]! := ⟨_,rfl⟩
        obtain⟨y,hy⟩:∃ x,x=d[k-1]! := ⟨_,rfl⟩
        have la:=S1.out.cl R rfl k (by omega)
        have lb:=S1.out.cl R rfl (k-1) (by omega)
        rw[←hx,←hiN]at la
        rw[←hy,←hjN]at lb
        have hc:=sw_eql S1.out HC.out rfl x y
        have KK:Aside (kp k=!(eq x y)):=by rw[hx,hy];exact K1.out k (by omega)
        clear hx hy hiN hjN
        cases hv:eq x y with
        | true =>
          rw[hv]at hc KK
          go_wp2_with fail
          go_quiet_grown (first|(go_at_fn g;refine Calls.grown_of (hc _ _)))
          have S2:Aside (SW enc w blk off d (grow (wr.drewN nq) osq)):=S1.out.grown nq osq
          clear la lb hc S1
          generalize grow (wr.drewN nq) osq=w2 at S2 ⊢
          clear nq osq
          clear ea ec pa ba ra pc bc rc
          have hzk:(kq:Int)+1=(k:Int):=by omega
          clear zk hkq
          simp only[hzk]
          clear hzk
          go_wp2
          go_loopg [5,7] d.size (fun g2 s5 s7 wr2=>∃ (kk k2:Nat) (dk:Array α),s5 = .int .i64 kk∧s7 = .int .i64 k2∧1≤k2∧k+k2≤d.size∧d.size-(k+k2)≤g2∧Aside (SW enc w blk off dk wr2)∧Aside (KeptInv kp d (k+k2) kk dk))
          case atStart=>exact⟨k,1,d,rfl,rfl,Nat.le_refl _,by omega,by omega,S2,KeptInv.start HA.out (by rw[KK.out];rfl)⟩
          case round =>
            clear S2 KK HA
            obtain⟨kk,k2,dk,rfl,rfl,h1,hle,hg2,S3,I2⟩:=hrel
            have hkk:=I2.out.lt
            have hds:=I2.out.size
            by_cases hlt2:k+k2<d.size
            · obtain⟨kq,hkq⟩:∃ q,q+1=k2:=⟨k2-1,by omega⟩
              have zk:(k2:Int)=(kq:Int)+1:=by omega
              obtain⟨iN,hiN⟩:∃ q,q=k2:=⟨_,rfl⟩
              obtain⟨jN,hjN⟩:∃ q,q=k2-1:=⟨_,rfl⟩
              have ea:((kq:Int)+1).toNat=iN:=by omega
              have pa:(0:Int)≤(kq:Int)+1:=by omega
              have ba:(kq:Int)+1<((d.size-k:Nat):Int):=by omega
              have ra:IntKind.i64.wrap ((kq:Int)+1)=(kq:Int)+1:=by rw[IntKind.wrap_i64];omega
              have ec:((kq:Int)).toNat=jN:=by omega
              have pc:(0:Int)≤(kq:Int):=by omega
              have bc:(kq:Int)<((d.size-k:Nat):Int):=by omega
              have rc:IntKind.i64.wrap ((kq:Int))=(kq:Int):=by rw[IntKind.wrap_i64];omega
              obtain⟨x,hx⟩:∃ x,x=d[k+k2]! := ⟨_,rfl⟩
              obtain⟨y,hy⟩:∃ x,x=d[k+k2-1]! := ⟨_,rfl⟩
              have la:=S3.out.cl R hds (k+k2) (by omega)
              have lb:=S3.out.cl R hds (k+k2-1) (by omega)
              rw[I2.out.high (k+k2) (by omega),←hx,show off+(k+k2)=off+k+iN by omega]at la
              rw[I2.out.high (k+k2-1) (by omega),←hy,show off+(k+k2-1)=off+k+jN by omega]at lb
              have hc:=sw_eql S3.out HC.out hds x y
              have KK:Aside (kp (k+k2)=!(eq x y)):=by rw[hx,hy];exact K1.out (k+k2) (by omega)
              have XX:Aside (x=d[k+k2]!):=hx
              clear hx hy hiN hjN
              cases hv:eq x y with
              | true =>
                rw[hv]at hc KK
                go_wp2_with fail
                go_quiet_grown (first|(go_at_fn g;refine Calls.grown_of (hc _ _)))
                have S2:Aside (SW enc w blk off dk (grow (wr.drewN nq) osq)):=S3.out.grown nq osq
                clear la lb hc S3
                generalize grow (wr.drewN nq) osq=w2 at S2 ⊢
                clear nq osq
                clear ea ec
                go_wp2
                go_roundg (d.size-(k+(k2+1)))
                case measure=>omega
                case rel=>exact⟨kk,k2+1,dk,rfl,by go_num,by omega,by omega,Nat.le_refl _,S2,I2.out.skip (by rw[KK.out];rfl)⟩
              | false =>
                rw[hv]at hc KK
                go_wp2_with fail
                go_quiet_grown (first|(go_at_fn g;refine Calls.grown_of (hc _ _)))
                have S2:Aside (SW enc w blk off dk (grow (wr.drewN nq) osq)):=S3.out.grown nq osq
                clear la lb hc S3
                generalize grow (wr.drewN nq) osq=w2 at S2 ⊢
                clear nq osq
                clear ea ec pa ba ra pc bc rc
                have hzk:(kq:Int)+1=(k2:Int):=by omega
                clear zk hkq
                simp only[hzk]
                clear hzk
                have cm:=S2.out.c1 R hds (k+k2) (by omega)
                have ck:=S2.out.c1 R hds kk (by omega)
                have fk:=S2.out.f1 R hds kk (by omega)
                rw[I2.out.high (k+k2) (by omega),←XX.out,show off+(k+k2)=off+k+k2 by omega]at cm
                generalize dk[kk]! = old at ck
                have hlz:(k2:Int)<((d.size-k:Nat):Int):=by omega
                go_wp2
                go_roundg (d.size-(k+(k2+1)))
                case measure=>omega
                case rel=>exact⟨kk+1,k2+1,dk.setIfInBounds kk x,by go_num,by go_num,by omega,by omega,Nat.le_refl _,sw_set S2.out hblk kk x (by omega),(by have:=I2.out.keep hlt2 (by rw[KK.out];rfl);rwa [←XX.out]at this)⟩
            · have hend:k+k2=d.size:=by omega
              have hcl:∀ ty,(Builtin.clear_ #[22] ty #[.slice (some ⟨blk,off+kk,none⟩) (d.size-kk) (cap-kk)]).run prog wr = .ok (.tuple #[]) (wr.setCells blk (off+kk) (List.replicate (d.size-kk) (enc zr))) :=
                fun ty=>Lib.run_clear_slice wr _ _ ty _ underlying22 (fun w=>by rw[hz];exact zeroValue25 w) (hO.cells zr) (hO zr) blk (off+kk) _ _ (by omega) (fun j hj=>by rw[show off+kk+j=off+(kk+j)by omega,S3.out.c1 R hds (kk+j) (by omega)];rfl) (fun j hj=>by rw[show off+kk+j=off+(kk+j)by omega];exact S3.out.f1 R hds (kk+j) (by omega))
              go_wp2
              go_ret
              have hI:=I2.out
              rw[hend]at hI
              refine⟨by rw[hI.len];rfl,?_⟩
              rw[hI.len,←hI.done zr]
              have:=sw_lay hblk (List.replicate (d.size-kk) zr) dk _ kk S3.out (by simp;omega)
              rw[List.map_replicate,hz]at this
              exact this
        | false =>
          rw[hv]at hc KK
          go_wp2_with fail
          go_quiet_grown (first|(go_at_fn g;refine Calls.grown_of (hc _ _)))
          have S2:Aside (SW enc w blk off d (grow (wr.drewN nq) osq)):=S1.out.grown nq osq
          clear la lb hc S1
          generalize grow (wr.drewN nq) osq=w2 at S2 ⊢
          clear nq osq
          clear ea ec
          go_wp2
          go_roundg (d.size-(k+1))
          case measure=>omega
          case rel =>
            refine⟨k+1,by go_num,by omega,by omega,Nat.le_refl _,S2,fun j hj=>?_⟩
            by_cases e:j=k
            · subst e;exact KK.out
            · exact HA.out j (by omega)
      · have:k=d.size:=by omega
        subst this
        go_wp2
        go_ret
        obtain⟨e1,e2⟩:=HS.out _ S1.out HA.out
        exact⟨by rw[e1];rfl,e2⟩
theorem S:a3L prog ⟨152,sig,F⟩:=comp_sound ⟨⟨_,func152,by kernel_rfl,by kernel_rfl⟩,emp,walk⟩
end Aq6
namespace Ad5
noncomputable def sig:Sig:=⟨[pQ],[oC]⟩
noncomputable def cfg:Cfg:=cf ⟨a2i tabl,[⟨150,Ad3.sig,Ad3.F⟩,⟨151,Aq8.sig,Aq8.F⟩,⟨152,Aq6.sig,Aq6.F⟩],[Ac3.clo,Ab7.clo],[],[],[]⟩
noncomputable def fin:=finK cfg.c sig [.cell 2 33]
noncomputable def F (d:LL×Unit):OQ:=anyK (a9n cfg fin (bd f109) (a6P sig.ps d 11))
variable (list_1:LL)
noncomputable def T:OQ:=(Ad3.F (list_1,())).bind fun r2=>(Aq8.F (r2.1.1,Ac3.cloG (()),())).bind fun r3=>(Aq6.F (r3.2.1,Ab7.cloG (()),())).bind fun r4=>some ((r4.1.1,()),())
theorem eq:F (list_1,())=T list_1:=eq_any fun k=>by kernel_rfl
theorem S:a3L prog ⟨109,sig,F⟩:=sound_k (res:=[.cell 2 33]) func109 (⟨nM,mixed_ok,tab_ok tab_good,cM ⟨Ad3.S,cM ⟨Aq8.S,cM ⟨Aq6.S,nM⟩⟩⟩,cM ⟨Ac3.cloS,cM ⟨Ab7.cloS,nM⟩⟩,nM⟩)
end Ad5
namespace Ah3
noncomputable def sig:Sig:=⟨[.val false (.sl tQ)],[(.val false,tQ,.shal)]⟩
noncomputable def cfg:Cfg:=⟨⟨a2i tabl,[],[],[],[(153,tL)],[]⟩,[],[],fun id=>match id with|3=>([0,3,9,10,11],[])|11=>([6,25,26,27],[24])|_=>([],[]),fun id=>match id with|11=>[24]|_=>[]⟩
noncomputable def fin:=finK cfg.c sig [.tmp 2]
noncomputable def F (d:List LL×Unit):OQ:=anyK (a9n cfg fin (bd f110) (a6P sig.ps d 36))
variable (k:Nat) (x2:List LL) (i3:Int) (x4:List LL) (i5 i6:Int)
noncomputable def l3:OQ:=Vm.runT cfg fin k [.inLoop (sub [1,1,0,1,0,0] (bd f110)),.inBlock 0,.code (sub [1,1,1] (bd f110))] ⟨[.val false [⟨(.sl tQ),.sh,x2⟩],dD,dD,vI i3,dD,dD,dD,dD,dD,.val false [⟨(.sl tQ),.sh,x4⟩],vI i5,vI i6]++a9v 24,[]⟩
variable (x7:List LL) (i8 i9:Int) (x10:LL)
noncomputable def l11:OQ:=Vm.runT cfg fin k [.inLoop (sub [1,1,1,1,0,1,0,0] (bd f110)),.inBlock 2,.code (sub [1,1,1,1,1] (bd f110))] ⟨[dD,dD,dD,dD,dD,dD,.view 24 (.root 0) 1 false,dD,dD,dD,dD,dD,dD,dD,dD,dD,dD,dD,dD,dD,dD,dD,dD,dD,dD,.val false [⟨(.sl tQ),.sh,x7⟩],vI i8,vI i9]++a9v 8,[(24,⟨false,[⟨tQ,.shal,x10⟩]⟩)]⟩
theorem l3_eq:l3 (k+1) x2 i3 x4 i5 i6=if (decide (i6<i5))=true then if 0≤i6∧i6<(x4.length:Int)then if (decide ((IntKind.i64.wrap (i3+((x4.getD i6.toNat ([]:LL)).length:Int)))<0))=true then none else l3 k x2 (IntKind.i64.wrap (i3+((x4.getD i6.toNat ([]:LL)).length:Int))) x4 i5 (IntKind.i64.wrap (i6+1))else none else if 0≤i3∧i3≤(bigN:Int)then l11 k x2 (x2.length:Int) (0:Int) ([]:LL)else none:=by kernel_rfl
theorem l11_eq:l11 (k+1) x7 i8 i9 x10=if (decide (i9<i8))=true then if 0≤i9∧i9<(x7.length:Int)then if x10.length+(x7.getD i9.toNat ([]:LL)).length≤bigA then l11 k x7 i8 (IntKind.i64.wrap (i9+1)) (x10++(x7.getD i9.toNat ([]:LL)))else none else none else some ((x10,()),()):=by kernel_rfl
variable (slices_1:List LL)
noncomputable def T:OQ:=l3 k slices_1 (0:Int) slices_1 (slices_1.length:Int) (0:Int)
theorem of {r} (h:Ev (fun k=>T k slices_1) r):F (slices_1,())=some r:=Ev.run (fun k=>by kernel_rfl) h
theorem S:a3L prog ⟨110,sig,F⟩:=sound_k (res:=[.tmp 2]) func110 (⟨nM,mixed_ok,tab_ok tab_good,nM,nM,cM ⟨slices_Grow_LLint64_Lint64.growOK,nM⟩⟩)
end Ah3
namespace Ap3
noncomputable def sig:Sig:=⟨[pC,pC],[oC]⟩
noncomputable def cfg:Cfg:=cf (cx [⟨109,Ad5.sig,Ad5.F⟩,⟨110,Ah3.sig,Ah3.F⟩])
noncomputable def fin:=finK cfg.c sig [.cell 4 33]
noncomputable def F (d:LL×LL×Unit):OQ:=anyK (a9n cfg fin (bd f68) (a6P sig.ps d 12))
variable (a_1 b_2:LL)
noncomputable def T:OQ:=(Ah3.F ([a_1,b_2],())).bind fun r3=>(Ad5.F (r3.1.1,())).bind fun r4=>some ((r4.1.1,()),())
theorem eq:F (a_1,b_2,())=T a_1 b_2:=eq_any fun k=>by kernel_rfl
theorem S:a3L prog ⟨68,sig,F⟩:=sound_k (res:=[.cell 4 33]) func68 (cok (cM ⟨Ad5.S,cM ⟨Ah3.S,nM⟩⟩))
end Ap3
namespace Ar0
noncomputable def sig:Sig:=⟨[pC,pC,pC],[oB]⟩
noncomputable def cfg:Cfg:=cf (cx [⟨44,Aa9.sig,Aa9.F⟩,⟨67,An9.sig,An9.F⟩,⟨68,Ap3.sig,Ap3.F⟩])
noncomputable def fin:=finK cfg.c sig [.tmp 6]
noncomputable def F (d:LL×LL×LL×Unit):OB:=anyK (a9n cfg fin (bd f45) (a6P sig.ps d 24))
variable (c_1 a_2 b_3:LL)
noncomputable def T:OB:=(Aa9.F (c_1,())).bind fun r4=>if r4.1.1=true then(Aa9.F (a_2,())).bind fun r5=>if r5.1.1=true then(Aa9.F (b_3,())).bind fun r6=>if r6.1.1=true then(Ap3.F (a_2,b_3,())).bind fun r7=>(An9.F (r7.1.1,c_1,())).bind fun r8=>some ((r8.1.1,()),())else some ((false,()),())else some ((false,()),())else some ((false,()),())
theorem eq:F (c_1,a_2,b_3,())=T c_1 a_2 b_3:=eq_any fun k=>by kernel_rfl
theorem S:a3L prog ⟨45,sig,F⟩:=sound_k (res:=[.tmp 6]) func45 (cok (cM ⟨Aa9.S,cM ⟨An9.S,cM ⟨Ap3.S,nM⟩⟩⟩))
end Ar0
namespace Ak3
noncomputable def sig:Sig:=⟨[pS,pC,pC],[oI]⟩
noncomputable def cfg:Cfg:=cf (cx [⟨43,Af6.sig,Af6.F⟩,⟨44,Aa9.sig,Aa9.F⟩,⟨45,Ar0.sig,Ar0.F⟩])
noncomputable def fin:=finK cfg.c sig [.tmp 6]
noncomputable def F (d:SF×LL×LL×Unit):OI:=anyK (a9n cfg fin (bd f28) (a6P sig.ps d 28))
variable (s_1:LL) (s_2:Int) (s_3:LI) (s_4:LM) (a_5 b_6:LL)
noncomputable def T:OI:=(Af6.F ((s_1,(s_2,(s_3,s_4))),())).bind fun r7=>if (!r7.1.1)=true then some ((1,()),())else(Aa9.F (a_5,())).bind fun r8=>if (!r8.1.1)=true then some ((1,()),())else(Aa9.F (b_6,())).bind fun r9=>if (!r9.1.1)=true then some ((1,()),())else(Ar0.F (s_1,a_5,b_6,())).bind fun r10=>if (!r10.1.1)=true then some ((6,()),())else some ((0,()),())
theorem eq:F ((s_1,(s_2,(s_3,s_4))),a_5,b_6,())=T s_1 s_2 s_3 s_4 a_5 b_6:=eq_any fun k=>by kernel_rfl
theorem S:a3L prog ⟨28,sig,F⟩:=sound_k (res:=[.tmp 6]) func28 (cok (cM ⟨Af6.S,cM ⟨Aa9.S,cM ⟨Ar0.S,nM⟩⟩⟩))
end Ak3
namespace Al8
noncomputable def sig:Sig:=⟨[pC,.fnx ⟨[(false,tL)],[oB]⟩],[oC]⟩
noncomputable def cfg:Cfg:=⟨cx [⟨109,Ad5.sig,Ad5.F⟩],[],[],fun id=>match id with|3=>([1,4,5,9,10,11],[16,20])|_=>([],[]),fun id=>match id with|3=>[20]|_=>[]⟩
noncomputable def fin:=finK cfg.c sig [.cell 4 33]
noncomputable def F (d:LL×((LI×Unit)→Option (Bool×Unit))×Unit):OQ:=anyK (a9n cfg fin (bd f71) (a6P sig.ps d 25))
variable (k:Nat) (f3:(LI×Unit)→Option (Bool×Unit)) (x4:LL) (i5 i6:Int) (x7 x8:LL)
noncomputable def l3:OQ:=Vm.runT cfg fin k [.inLoop (sub [1,1,0,1,0,0] (bd f71)),.inBlock 0,.code (sub [1,1,1] (bd f71))] ⟨[dD,.fnx ⟨[(false,tL)],[(.val false,.bool,.deep)]⟩ f3,dD,dD,.ref 16 (.root 0),.view 20 (.root 0) 1 false,dD,dD,dD,vQ x4,vI i5,vI i6]++a9v 13,[(16,⟨true,[dQ x7]⟩),(20,⟨false,[⟨tQ,.shal,x8⟩]⟩)]⟩
theorem l3_eq:l3 (k+1) f3 x4 i5 i6 x7 x8=if (decide (i6<i5))=true then if 0≤i6∧i6<(x4.length:Int)then(f3 (x4.getD i6.toNat ([]:LI),())).bind fun r9=>if r9.1=true then if x8.length+[x4.getD i6.toNat ([]:LI)].length≤bigA then l3 k f3 x4 i5 (IntKind.i64.wrap (i6+1)) x7 (x8++[x4.getD i6.toNat ([]:LI)])else none else l3 k f3 x4 i5 (IntKind.i64.wrap (i6+1)) x7 x8 else none else(Ad5.F (x8,())).bind fun r10=>some ((r10.1.1,()),()):=by kernel_rfl
variable (c_1:LL) (f_2:(LI×Unit)→Option (Bool×Unit))
noncomputable def T:OQ:=l3 k f_2 c_1 (c_1.length:Int) (0:Int) ([]:LL) ([])
theorem of {r} (h:Ev (fun k=>T k c_1 f_2) r):F (c_1,f_2,())=some r:=Ev.run (fun k=>by kernel_rfl) h
theorem S:a3L prog ⟨71,sig,F⟩:=sound_k (res:=[.cell 4 33]) func71 (cok (cM ⟨Ad5.S,nM⟩))
end Al8
namespace As4
noncomputable def sig:Sig:=⟨[pL,qC],[oB]⟩
noncomputable def cfg:Cfg:=cf (cx [⟨66,Ab6.sig,Ab6.F⟩])
noncomputable def fin:=finK cfg.c sig [.tmp 3]
noncomputable def F (d:LI×LL×Unit):OB:=anyK (a9n cfg fin (bd f72) (a6P sig.ps d 8))
variable (s_1:LI) (a_2:LL)
noncomputable def T:OB:=(Ab6.F (a_2,s_1,())).bind fun r3=>some ((decide (r3.1.1≥0),()),())
theorem eq:F (s_1,a_2,())=T s_1 a_2:=eq_any fun k=>by kernel_rfl
theorem S:a3L prog ⟨72,sig,F⟩:=sound_k (res:=[.tmp 3]) func72 (cok (cM ⟨Ab6.S,nM⟩))
noncomputable def cloG (y:LL×Unit) (d:LI×Unit):Option (Bool×Unit):=(F (b0V [.rptr tQ] [(false,tL)] d y)).map (·.1)
noncomputable def clo:Clo:=⟨72,⟨[(false,tL)],[(.val false,.bool,.deep)]⟩,[.rptr tQ],cloG⟩
theorem cloS:a2p prog clo:=sound_clo (s:=⟨[(false,tL)],[(.val false,.bool,.deep)]⟩) (caps:=[.rptr tQ]) rfl S
end As4
namespace Ap1
noncomputable def sig:Sig:=⟨[pC,pC],[oC]⟩
noncomputable def cfg:Cfg:=cf ⟨a2i tabl,[⟨71,Al8.sig,Al8.F⟩],[As4.clo],[],[],[]⟩
noncomputable def fin:=finK cfg.c sig [.cell 4 33]
noncomputable def F (d:LL×LL×Unit):OQ:=anyK (a9n cfg fin (bd f47) (a6P sig.ps d 8))
variable (a_1 b_2:LL)
noncomputable def T:OQ:=(Al8.F (a_1,As4.cloG (b_2,()),())).bind fun r3=>some ((r3.1.1,()),())
theorem eq:F (a_1,b_2,())=T a_1 b_2:=eq_any fun k=>by kernel_rfl
theorem S:a3L prog ⟨47,sig,F⟩:=sound_k (res:=[.cell 4 33]) func47 (⟨nM,mixed_ok,tab_ok tab_good,cM ⟨Al8.S,nM⟩,cM ⟨As4.cloS,nM⟩,nM⟩)
end Ap1
namespace Ar6
noncomputable def sig:Sig:=⟨[pI],[oB]⟩
noncomputable def cfg:Cfg:=cf (cx [])
noncomputable def fin:=finK cfg.c sig [.tmp 2]
noncomputable def F (d:Int×Unit):OB:=anyK (a9n cfg fin (bd f225) (a6P sig.ps d 5))
variable (x_1:Int)
noncomputable def T:OB:=some ((x_1 !=(0:Int),()),())
theorem eq:F (x_1,())=T x_1:=eq_any fun k=>by kernel_rfl
theorem S:a3L prog ⟨225,sig,F⟩:=sound_k (res:=[.tmp 2]) func225 (cok nM)
noncomputable def cloG (y:Unit) (d:Int×Unit):Option (Bool×Unit):=(F (b0V [] [(false,tI)] d y)).map (·.1)
noncomputable def clo:Clo:=⟨225,⟨[(false,tI)],[(.val false,.bool,.deep)]⟩,[],cloG⟩
theorem cloS:a2p prog clo:=sound_clo (s:=⟨[(false,tI)],[(.val false,.bool,.deep)]⟩) (caps:=[]) rfl S
end Ar6
namespace Am2
noncomputable def sig:Sig:=⟨[.val true TSpace],[oL]⟩
noncomputable def cfg:Cfg:=cl (⟨a2i tabl,[⟨145,Ae4.sig,Ae4.F⟩],[Ar6.clo],[],[],[]⟩) fun id=>match id with|3=>([3,7,8,9],[12])|_=>([],[])
noncomputable def fin:=finK cfg.c sig [.tmp 2]
noncomputable def F (d:(Int×Int×LL)×Unit):OL:=anyK (a9n cfg fin (bd f214) (a6P sig.ps d 20))
variable (k:Nat) (x4:LL) (i5 i6:Int) (x7:LI)
noncomputable def l3:OL:=Vm.runT cfg fin k [.inLoop (sub [1,1,0,1,0,0] (bd f214)),.inBlock 0,.code (sub [1,1,1] (bd f214))] ⟨[dD,dD,dD,.view 12 (.root 0) 1 false,dD,dD,dD,vQ x4,vI i5,vI i6]++a9v 10,[(12,⟨false,[dL x7]⟩)]⟩
theorem l3_eq:l3 (k+1) x4 i5 i6 x7=if (decide (i6<i5))=true then if 0≤i6∧i6<(x4.length:Int)then(Ae4.F (x4.getD i6.toNat ([]:LI),Ar6.cloG (()),())).bind fun r8=>if x7.length+[r8.1.1].length≤bigA then l3 k x4 i5 (IntKind.i64.wrap (i6+1)) (x7++[r8.1.1])else none else none else some ((x7,()),()):=by kernel_rfl
noncomputable def T (k:Nat) (v_1 v_2:Int) (v_3:LL):OL:=l3 k v_3 (v_3.length:Int) (0:Int) ([])
theorem of (v_1 v_2:Int) (v_3:LL) {r} (h:Ev (fun k=>T k v_1 v_2 v_3) r):F ((v_1,(v_2,v_3)),())=some r:=Ev.run (fun k=>by kernel_rfl) h
theorem S:a3L prog ⟨214,sig,F⟩:=sound_k (res:=[.tmp 2]) func214 (⟨nM,mixed_ok,tab_ok tab_good,cM ⟨Ae4.S,nM⟩,cM ⟨Ar6.cloS,nM⟩,nM⟩)
end Am2
namespace Ar5
noncomputable def sig:Sig:=⟨[pI],[oB]⟩
noncomputable def cfg:Cfg:=cf (cx [])
noncomputable def fin:=finK cfg.c sig [.tmp 2]
noncomputable def F (d:Int×Unit):OB:=anyK (a9n cfg fin (bd f226) (a6P sig.ps d 5))
variable (x_1:Int)
noncomputable def T:OB:=some ((x_1 !=(0:Int),()),())
theorem eq:F (x_1,())=T x_1:=eq_any fun k=>by kernel_rfl
theorem S:a3L prog ⟨226,sig,F⟩:=sound_k (res:=[.tmp 2]) func226 (cok nM)
noncomputable def cloG (y:Unit) (d:Int×Unit):Option (Bool×Unit):=(F (b0V [] [(false,tI)] d y)).map (·.1)
noncomputable def clo:Clo:=⟨226,⟨[(false,tI)],[(.val false,.bool,.deep)]⟩,[],cloG⟩
theorem cloS:a2p prog clo:=sound_clo (s:=⟨[(false,tI)],[(.val false,.bool,.deep)]⟩) (caps:=[]) rfl S
end Ar5
namespace Ap0
noncomputable def sig:Sig:=⟨[pL],[oB]⟩
noncomputable def cfg:Cfg:=cf ⟨a2i tabl,[⟨99,Ac9.sig,Ac9.F⟩],[Ar5.clo],[],[],[]⟩
noncomputable def fin:=finK cfg.c sig [.tmp 2]
noncomputable def F (d:LI×Unit):OB:=anyK (a9n cfg fin (bd f215) (a6P sig.ps d 6))
variable (list_1:LI)
noncomputable def T:OB:=(Ac9.F (list_1,Ar5.cloG (()),())).bind fun r2=>some ((!r2.1.1,()),())
theorem eq:F (list_1,())=T list_1:=eq_any fun k=>by kernel_rfl
theorem S:a3L prog ⟨215,sig,F⟩:=sound_k (res:=[.tmp 2]) func215 (⟨nM,mixed_ok,tab_ok tab_good,cM ⟨Ac9.S,nM⟩,cM ⟨Ar5.cloS,nM⟩,nM⟩)
end Ap0
namespace Ae9
noncomputable def sig:Sig:=⟨[pL,pL,pI,pI],[oL]⟩
noncomputable def cfg:Cfg:=cl (cx []) fun id=>match id with|3=>([0,1,2,3,9,12,13],[36])|_=>([],[])
noncomputable def fin:=finK cfg.c sig [.tmp 8]
noncomputable def F (d:LI×LI×Int×Int×Unit):OL:=anyK (a9n cfg fin (bd f189) (a6P sig.ps d 34))
variable (k:Nat) (x5 x6:LI) (i7 i8 i9 i10:Int) (x11:LI)
noncomputable def l3:OL:=Vm.runT cfg fin k [.inLoop (sub [1,1,0,1,0,0] (bd f189)),.inBlock 0,.code (sub [1,1,1] (bd f189))] ⟨[vL x5,vL x6,vI i7,vI i8,dD,dD,dD,dD,dD,.view 36 (.root 0) 1 false,dD,dD,vI i9,vI i10]++a9v 20,[(36,⟨false,[dL x11]⟩)]⟩
theorem l3_eq:l3 (k+1) x5 x6 i7 i8 i9 i10 x11=if (decide (i10<i9))=true then if 0≤i10∧i10<(x5.length:Int)then if 0≤i10∧i10<(x6.length:Int)then if i8=0 then none else if x11.length+[(IntKind.i64.wrap ((x5.getD i10.toNat 0:Int)+(IntKind.i64.wrap (i7*(x6.getD i10.toNat 0:Int))))).tmod i8].length≤bigA then l3 k x5 x6 i7 i8 i9 (IntKind.i64.wrap (i10+1)) (x11++[(IntKind.i64.wrap ((x5.getD i10.toNat 0:Int)+(IntKind.i64.wrap (i7*(x6.getD i10.toNat 0:Int))))).tmod i8])else none else none else none else some ((x11,()),()):=by kernel_rfl
variable (a_1 b_2:LI) (c_3 p_4:Int)
noncomputable def T:OL:=l3 k a_1 b_2 c_3 p_4 (a_1.length:Int) (0:Int) ([])
theorem of {r} (h:Ev (fun k=>T k a_1 b_2 c_3 p_4) r):F (a_1,b_2,c_3,p_4,())=some r:=Ev.run (fun k=>by kernel_rfl) h
theorem S:a3L prog ⟨189,sig,F⟩:=sound_k (res:=[.tmp 8]) func189 (cok nM)
noncomputable def sigF:Sig:=⟨[.val false tL,.val false tL,.val false tI,.val false tI],[(.fr false,tL,.deep)]⟩
theorem SF:a3L prog ⟨189,sigF,F⟩:=sound_fr S
end Ae9
namespace An1
noncomputable def sig:Sig:=⟨[.val true TSpace,pL],[oL,oB]⟩
noncomputable def cfg:Cfg:=cl (cx [⟨214,Am2.sig,Am2.F⟩,⟨215,Ap0.sig,Ap0.F⟩,⟨189,Ae9.sigF,Ae9.F⟩]) fun id=>match id with|4=>([1,2,6,7,12,13,14],[8,24,48])|_=>([],[])
noncomputable def fin:=finK cfg.c sig [.tmp 4,.tmp 5]
noncomputable def F (d:(Int×Int×LL)×LI×Unit):Option ((LI×Bool×Unit)×(Unit)):=anyK (a9n cfg fin (bd f187) (a6P sig.ps d 49))
variable (k:Nat) (x6 x7:LI) (i8 i9 i10 i11:Int) (x12:LL) (x13 x14:LI)
noncomputable def l4:Option ((LI×Bool×Unit)×(Unit)):=Vm.runT cfg fin k [.inLoop (sub [1,1,1,0,1,0,0] (bd f187)),.inBlock 0,.code (sub [1,1,1,1] (bd f187))] ⟨[dD,vL x6,.ref 8 (.root 0),dD,dD,dD,.view 24 (.root 0) 1 false,vL x7,dD,dD,dD,dD,.view 48 (.root 0) 1 false,vI i8,vI i9]++a9v 34,[(8,⟨true,[cI i10,cI i11,cQ x12]⟩),(24,⟨false,[dL x13]⟩),(48,⟨false,[dL x14]⟩)]⟩
theorem l4_eq:l4 (k+1) x6 x7 i8 i9 i10 i11 x12 x13 x14=if (decide (i9<i8))=true then if 0≤i9∧i9<(x14.length:Int)then if 0≤(x14.getD i9.toNat 0:Int)∧(x14.getD i9.toNat 0:Int)<(x6.length:Int)then if x13.length+[x6.getD (x14.getD i9.toNat 0:Int).toNat 0].length≤bigA then if 0≤i9∧i9<(x12.length:Int)then if 0≤(x14.getD i9.toNat 0:Int)∧(x14.getD i9.toNat 0:Int)<(x6.length:Int)then if i10=0 then none else(Ae9.F (x7,x12.getD i9.toNat ([]:LI),(IntKind.i64.wrap (i10-(x6.getD (x14.getD i9.toNat 0:Int).toNat 0))).tmod i10,i10,())).bind fun r15=>l4 k x6 r15.1.1 i8 (IntKind.i64.wrap (i9+1)) i10 i11 x12 (x13++[x6.getD (x14.getD i9.toNat 0:Int).toNat 0]) x14 else none else none else none else none else none else(Ap0.F (x7,())).bind fun r16=>some ((x13,(r16.1.1,())),()):=by kernel_rfl
variable (v_1 v_2:Int) (v_3:LL) (x_4:LI)
noncomputable def T:Option ((LI×Bool×Unit)×(Unit)):=(Am2.F ((v_1,(v_2,v_3)),())).bind fun r5=>l4 k x_4 x_4 (r5.1.1.length:Int) (0:Int) v_1 v_2 v_3 ([]) r5.1.1
theorem of {r} (h:Ev (fun k=>T k v_1 v_2 v_3 x_4) r):F ((v_1,(v_2,v_3)),x_4,())=some r:=Ev.run (fun k=>by kernel_rfl) h
theorem S:a3L prog ⟨187,sig,F⟩:=sound_k (res:=[.tmp 4,.tmp 5]) func187 (cok (cM ⟨Am2.S,cM ⟨Ap0.S,cM ⟨Ae9.SF,nM⟩⟩⟩))
end An1
namespace Ao7
noncomputable def sig:Sig:=⟨[.val true TSpace,pL],[oB]⟩
noncomputable def cfg:Cfg:=cf (cx [⟨187,An1.sig,An1.F⟩])
noncomputable def fin:=finK cfg.c sig [.tmp 4]
noncomputable def F (d:(Int×Int×LL)×LI×Unit):OB:=anyK (a9n cfg fin (bd f162) (a6P sig.ps d 14))
variable (v_1 v_2:Int) (v_3:LL) (x_4:LI)
noncomputable def T:OB:=(An1.F ((v_1,(v_2,v_3)),x_4,())).bind fun r5=>some ((r5.1.2.1,()),())
theorem eq:F ((v_1,(v_2,v_3)),x_4,())=T v_1 v_2 v_3 x_4:=eq_any fun k=>by kernel_rfl
theorem S:a3L prog ⟨162,sig,F⟩:=sound_k (res:=[.tmp 4]) func162 (cok (cM ⟨An1.S,nM⟩))
end Ao7
namespace Ah8
noncomputable def sig:Sig:=⟨[pI,pI],[oI]⟩
noncomputable def cfg:Cfg:=cf (cx [])
noncomputable def fin:=finK cfg.c sig [.tmp 4]
noncomputable def F (d:Int×Int×Unit):OI:=anyK (a9n cfg fin (bd f166) (a6P sig.ps d 12))
variable (a_1 p_2:Int)
noncomputable def T:OI:=if p_2=0 then none else if p_2=0 then none else some (((IntKind.i64.wrap ((a_1.tmod p_2)+p_2)).tmod p_2,()),())
theorem eq:F (a_1,p_2,())=T a_1 p_2:=eq_any fun k=>by kernel_rfl
theorem S:a3L prog ⟨166,sig,F⟩:=sound_k (res:=[.tmp 4]) func166 (cok nM)
end Ah8
namespace Aj6
noncomputable def sig:Sig:=⟨[pI,pI,pI],[oI]⟩
noncomputable def cfg:Cfg:=cl (cx []) fun id=>match id with|2=>([0,1,2,7],[])|_=>([],[])
noncomputable def fin:=finK cfg.c sig [.tmp 6]
noncomputable def F (d:Int×Int×Int×Unit):OI:=anyK (a9n cfg fin (bd f216) (a6P sig.ps d 26))
variable (k:Nat) (i4 i5 i6 i7:Int)
noncomputable def l2:OI:=Vm.runT cfg fin k [.inLoop (sub [1,1,0,0,0] (bd f216)),.inBlock 0,.code (sub [1,1,1] (bd f216))] ⟨[vI i4,vI i5,vI i6,dD,dD,dD,dD,vI i7]++a9v 18,[]⟩
theorem l2_eq:l2 (k+1) i4 i5 i6 i7=if (decide (i5>0))=true then if (2:Int)=0 then none else if ((i5.tmod (2:Int))==1)=true then if i6=0 then none else if i6=0 then none else if (2:Int)=0 then none else l2 k ((IntKind.i64.wrap (i4*i4)).tmod i6) (IntKind.i64.wrap (i5.tdiv (2:Int))) i6 ((IntKind.i64.wrap (i7*i4)).tmod i6)else if i6=0 then none else if (2:Int)=0 then none else l2 k ((IntKind.i64.wrap (i4*i4)).tmod i6) (IntKind.i64.wrap (i5.tdiv (2:Int))) i6 i7 else some ((i7,()),()):=by kernel_rfl
variable (a_1 n_2 p_3:Int)
noncomputable def T:OI:=l2 k a_1 n_2 p_3 (1:Int)
theorem of {r} (h:Ev (fun k=>T k a_1 n_2 p_3) r):F (a_1,n_2,p_3,())=some r:=Ev.run (fun k=>by kernel_rfl) h
theorem S:a3L prog ⟨216,sig,F⟩:=sound_k (res:=[.tmp 6]) func216 (cok nM)
end Aj6
namespace Am1
noncomputable def sig:Sig:=⟨[pI,pI],[oI]⟩
noncomputable def cfg:Cfg:=cf (cx [⟨216,Aj6.sig,Aj6.F⟩])
noncomputable def fin:=finK cfg.c sig [.tmp 4]
noncomputable def F (d:Int×Int×Unit):OI:=anyK (a9n cfg fin (bd f190) (a6P sig.ps d 10))
variable (a_1 p_2:Int)
noncomputable def T:OI:=(Aj6.F (a_1,IntKind.i64.wrap (p_2-(2:Int)),p_2,())).bind fun r3=>some ((r3.1.1,()),())
theorem eq:F (a_1,p_2,())=T a_1 p_2:=eq_any fun k=>by kernel_rfl
theorem S:a3L prog ⟨190,sig,F⟩:=sound_k (res:=[.tmp 4]) func190 (cok (cM ⟨Aj6.S,nM⟩))
end Am1
namespace Ar4
noncomputable def sig:Sig:=⟨[pL,.rptr tI],[oB]⟩
noncomputable def cfg:Cfg:=cf (cx [])
noncomputable def fin:=finK cfg.c sig [.tmp 3]
noncomputable def F (d:LI×Int×Unit):OB:=anyK (a9n cfg fin (bd f188) (a6P sig.ps d 9))
variable (row_1:LI) (a_2:Int)
noncomputable def T:OB:=if 0≤a_2∧a_2<(row_1.length:Int)then some (((row_1.getD a_2.toNat 0:Int)!=(0:Int),()),())else none
theorem eq:F (row_1,a_2,())=T row_1 a_2:=eq_any fun k=>by kernel_rfl
theorem S:a3L prog ⟨188,sig,F⟩:=sound_k (res:=[.tmp 3]) func188 (cok nM)
noncomputable def cloG (y:Int×Unit) (d:LI×Unit):Option (Bool×Unit):=(F (b0V [.rptr tI] [(false,tL)] d y)).map (·.1)
noncomputable def clo:Clo:=⟨188,⟨[(false,tL)],[(.val false,.bool,.deep)]⟩,[.rptr tI],cloG⟩
theorem cloS:a2p prog clo:=sound_clo (s:=⟨[(false,tL)],[(.val false,.bool,.deep)]⟩) (caps:=[.rptr tI]) rfl S
end Ar4
end Go.Proofs.YthiiohhfalmgdaaGreat
