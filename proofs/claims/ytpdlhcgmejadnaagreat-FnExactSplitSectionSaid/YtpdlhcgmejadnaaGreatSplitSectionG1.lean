/- The functions, as the machine runs them. -/
import Derived.Test.YtpdlhcgmejadnaaGreatVm4
import Derived.Test.YtpdlhcgmejadnaaGreatProg
import Derived.KernelRfl
import Derived.WalkKit
import Derived.Lib.Walk
import Derived.Lib.AppendZeros
import Derived.Sort.WalkA
import Derived.Sort.WalkB2
import Derived.Sort.WalkB12
import Derived.Deep.LoopGhost
import Derived.Shelf.RegionOpenPlain
import Derived.Lib.SliceRun
open Go.IntKind renaming i64->za
open List renaming replicate->zb
open Nat renaming le_refl->zc,le_of_ble_eq_true->zd,mul_le_mul->ze
namespace Go.Proofs.YtpdlhcgmejadnaaGreat
open Go Go.Vm
set_option linter.unusedVariables false
set_option linter.unusedSimpArgs false
open Go.Proofs.Tryz
abbrev LI:=List Int
abbrev LL:=List LI
abbrev MX:=Int×Int×Int×LI
abbrev LM:=List MX
abbrev SF:=LL×Int×LI×LM
abbrev OI:=Option ((Int×Unit)×Unit)
abbrev OB:=Option ((Bool×Unit)×Unit)
abbrev OL:=Option ((LI×Unit)×Unit)
abbrev OQ:=Option ((LL×Unit)×Unit)
abbrev OM:=Option ((MX×Unit)×Unit)
abbrev OS:=Option ((SF×Unit)×Unit)
abbrev tI:Ty := .int .i64
abbrev tL:Ty := .sl tI
abbrev tQ:Ty := .sl tL
abbrev cI (x:Int):Cell:=⟨tI,.sh,x⟩
abbrev cL (x:LI):Cell:=⟨tL,.sh,x⟩
abbrev dL (x:LI):Cell:=⟨tL,.deep,x⟩
abbrev cQ (x:LL):Cell:=⟨tQ,.sh,x⟩
abbrev dQ (x:LL):Cell:=⟨tQ,.deep,x⟩
abbrev vI (x:Int):TV := .val false [cI x]
abbrev vL (x:LI):TV := .val false [cL x]
abbrev vQ (x:LL):TV := .val false [cQ x]
abbrev TMatrix_2:Ty := .pair tI tL
abbrev TMatrix_1:Ty := .pair tI TMatrix_2
abbrev TMatrix:Ty := .pair tI TMatrix_1
abbrev TEdge_1:Ty := .pair tI tI
abbrev TEdge:Ty := .pair tI TEdge_1
abbrev TSheaf_2:Ty := .pair tL (.sl TMatrix)
abbrev TSheaf_1:Ty := .pair tI TSheaf_2
abbrev TSheaf:Ty := .pair tQ TSheaf_1
def tabl:List (Nat×TInfo):=[
  (2,⟨false,tI,0,[]⟩),
  (3,⟨false,tI,0,[]⟩),
  (4,⟨false,.bool,0,[]⟩),
  (22,⟨false,tQ,25,[]⟩),
  (24,⟨true,tQ,0,[(0,1,false)]⟩),
  (25,⟨false,tL,2,[]⟩),
  (26,⟨false,(.sl TMatrix),87,[]⟩),
  (28,⟨true,TSheaf,0,[(0,1,true),(1,1,false),(2,1,false),(3,1,false)]⟩),
  (33,⟨true,tQ,0,[(0,1,false)]⟩),
  (34,⟨false,(.sl TMatrix),65,[]⟩),
  (36,⟨true,TSheaf,0,[(0,1,true),(1,1,false),(2,1,false),(3,1,false)]⟩),
  (65,⟨true,TMatrix,0,[(0,1,false),(1,1,false),(2,1,false),(3,1,false)]⟩),
  (87,⟨true,TMatrix,0,[(0,1,false),(1,1,false),(2,1,false),(3,1,false)]⟩),
  (121,⟨false,(.sl tQ),22,[]⟩),
  (140,⟨true,TEdge,0,[(0,1,false),(1,1,false),(2,1,false)]⟩),
  (142,⟨false,(.int .u64),0,[]⟩),
  (166,⟨false,(.sl TEdge),140,[]⟩),
  (172,⟨false,tL,3,[]⟩)]
theorem tab_good:tabB Go.Proofs.Tryz.prog tabl=true:=by kernel_rfl
theorem tab_open:b4R Go.Proofs.Tryz.prog tabl=true:=by kernel_rfl
theorem mixed_ok:Go.Proofs.Tryz.prog.follows .mixedOrders=true:=by kernel_rfl
set_option maxHeartbeats 2000000 in
set_option maxRecDepth 100000 in
theorem slices_Grow_LLint64_Lint64.grow0 (w:World):Calls Go.Proofs.Tryz.prog 92 #[.slice none 0 0,.int .i64 ((0:Nat):Int)] w fun e w'=>e = .returned (.slice none 0 0)∧w'=w:=by
  have h2:Go.RowKit.wrap64 (((0:Nat):Int)-((0:Nat):Int))=0:=by unfold Go.RowKit.wrap64;omega
  go_enter Go.Proofs.Tryz.func92,Go.Proofs.Tryz.ntmps92
  go_wp2
  go_ret
  exact⟨rfl,rfl⟩
set_option maxHeartbeats 4000000 in
set_option maxRecDepth 100000 in
theorem slices_Grow_LLint64_Lint64.grow1 (w:World) (n:Nat) (h0:0<n) (hn:n≤1099511627776) (i:TypeInfo) (z:Value) (hi:Go.Proofs.Tryz.prog.info? 25=some i) (hz:i.zero=some z) (hs:0<i.size) (hb:i.bytes≤256) :
    Calls Go.Proofs.Tryz.prog 92 #[.slice none 0 0,.int .i64 (n:Int)] w fun e w'=>∃ G,n≤G∧G≤9223372036854775807∧e = .returned (.slice (some ⟨w.heap.size,0,none⟩) 0 G)∧w'=w.drew.alloc (.cells (Builtin.zeroCells z.cells n++Builtin.zeroCells z.cells (G-n)) 25):=by
  have h1:¬ ((n:Int)<0):=by omega
  have h2:Go.RowKit.wrap64 (((0:Nat):Int)-((0:Nat):Int))=0:=by unfold Go.RowKit.wrap64;omega
  have h3:Go.RowKit.wrap64 ((n:Int)-0)=(n:Int):=by unfold Go.RowKit.wrap64;omega
  have h4:(n:Int)>0:=by omega
  have hm:n*i.bytes≤1099511627776*256:=ze hn hb
  have hrz:∀ ty,(Builtin.append_ #[22,3] ty #[.slice none 0 0,.int .i64 (n:Int)]).run Go.Proofs.Tryz.prog w =
      .ok (.slice (some ⟨w.heap.size,0,none⟩) n (grownCap w n 0 25)) (w.drew.alloc (.cells (Builtin.zeroCells z.cells n++Builtin.zeroCells z.cells (grownCap w n 0 25-n)) 25)):=fun ty =>
    Lib.run_append_nil_zeros (P:=Go.Proofs.Tryz.prog) w 22 3 ty 25 i z .i64 .i64 (by kernel_rfl) (by kernel_rfl) hi hz n h0 hs (by omega) (by omega)
  have hGn:n≤grownCap w n 0 25:=grownCap_ge w _ _ _
  obtain⟨G,hG⟩:∃ G,G=grownCap w n 0 25:=⟨_,rfl⟩
  have hG63:G≤9223372036854775807:=by
    have:=grownCap_le_maxLen w n 0 25 (by unfold maxLen;omega)
    rw[←hG]at this
    unfold maxLen at this
    omega
  rw[←hG]at hrz hGn
  clear hG
  refine Calls.mono (R:=fun e w'=>e = .returned (.slice (some ⟨w.heap.size,0,none⟩) 0 G)∧w'=w.drew.alloc (.cells (Builtin.zeroCells z.cells n++Builtin.zeroCells z.cells (G-n)) 25)) ?_ fun e w' h=>⟨G,hGn,hG63,h.1,h.2⟩
  clear hi hz hs hb hm
  go_enter Go.Proofs.Tryz.func92,Go.Proofs.Tryz.ntmps92
  go_wp2_with (at_builtin;refine Lib.wpList_append_run _ rfl _ _ _ _ rfl _ _ rfl rfl _ _ (hrz _) ?_)
  all_goals (go_ret;exact⟨rfl,rfl⟩)
theorem slices_Grow_LLint64_Lint64.growOK:b2f Go.Proofs.Tryz.prog (92,tL):=by
  have hT:a2n tabl 25=some ⟨false,tL,2,[]⟩:=by kernel_rfl
  obtain⟨inf,h1,h2,h3,h4,h5⟩:=(tab_ok tab_good).info 25 _ hT
  exact growOK_of ⟨Go.Proofs.Tryz.f92,Go.Proofs.Tryz.func92,by kernel_rfl,by kernel_rfl⟩ (a3l (tab_ok tab_good) hT) slices_Grow_LLint64_Lint64.grow0 fun w n a b=>slices_Grow_LLint64_Lint64.grow1 w n a b inf _ h1 h5 (by rw[h2];exact a3O _) h4
set_option maxHeartbeats 2000000 in
set_option maxRecDepth 100000 in
theorem slices_Grow_Lint64_int64.grow0 (w:World):Calls Go.Proofs.Tryz.prog 94 #[.slice none 0 0,.int .i64 ((0:Nat):Int)] w fun e w'=>e = .returned (.slice none 0 0)∧w'=w:=by
  have h2:Go.RowKit.wrap64 (((0:Nat):Int)-((0:Nat):Int))=0:=by unfold Go.RowKit.wrap64;omega
  go_enter Go.Proofs.Tryz.func94,Go.Proofs.Tryz.ntmps94
  go_wp2
  go_ret
  exact⟨rfl,rfl⟩
set_option maxHeartbeats 4000000 in
set_option maxRecDepth 100000 in
theorem slices_Grow_Lint64_int64.grow1 (w:World) (n:Nat) (h0:0<n) (hn:n≤1099511627776) (i:TypeInfo) (z:Value) (hi:Go.Proofs.Tryz.prog.info? 2=some i) (hz:i.zero=some z) (hs:0<i.size) (hb:i.bytes≤256) :
    Calls Go.Proofs.Tryz.prog 94 #[.slice none 0 0,.int .i64 (n:Int)] w fun e w'=>∃ G,n≤G∧G≤9223372036854775807∧e = .returned (.slice (some ⟨w.heap.size,0,none⟩) 0 G)∧w'=w.drew.alloc (.cells (Builtin.zeroCells z.cells n++Builtin.zeroCells z.cells (G-n)) 2):=by
  have h1:¬ ((n:Int)<0):=by omega
  have h2:Go.RowKit.wrap64 (((0:Nat):Int)-((0:Nat):Int))=0:=by unfold Go.RowKit.wrap64;omega
  have h3:Go.RowKit.wrap64 ((n:Int)-0)=(n:Int):=by unfold Go.RowKit.wrap64;omega
  have h4:(n:Int)>0:=by omega
  have hm:n*i.bytes≤1099511627776*256:=ze hn hb
  have hrz:∀ ty,(Builtin.append_ #[25,3] ty #[.slice none 0 0,.int .i64 (n:Int)]).run Go.Proofs.Tryz.prog w =
      .ok (.slice (some ⟨w.heap.size,0,none⟩) n (grownCap w n 0 2)) (w.drew.alloc (.cells (Builtin.zeroCells z.cells n++Builtin.zeroCells z.cells (grownCap w n 0 2-n)) 2)):=fun ty =>
    Lib.run_append_nil_zeros (P:=Go.Proofs.Tryz.prog) w 25 3 ty 2 i z .i64 .i64 (by kernel_rfl) (by kernel_rfl) hi hz n h0 hs (by omega) (by omega)
  have hGn:n≤grownCap w n 0 2:=grownCap_ge w _ _ _
  obtain⟨G,hG⟩:∃ G,G=grownCap w n 0 2:=⟨_,rfl⟩
  have hG63:G≤9223372036854775807:=by
    have:=grownCap_le_maxLen w n 0 2 (by unfold maxLen;omega)
    rw[←hG]at this
    unfold maxLen at this
    omega
  rw[←hG]at hrz hGn
  clear hG
  refine Calls.mono (R:=fun e w'=>e = .returned (.slice (some ⟨w.heap.size,0,none⟩) 0 G)∧w'=w.drew.alloc (.cells (Builtin.zeroCells z.cells n++Builtin.zeroCells z.cells (G-n)) 2)) ?_ fun e w' h=>⟨G,hGn,hG63,h.1,h.2⟩
  clear hi hz hs hb hm
  go_enter Go.Proofs.Tryz.func94,Go.Proofs.Tryz.ntmps94
  go_wp2_with (at_builtin;refine Lib.wpList_append_run _ rfl _ _ _ _ rfl _ _ rfl rfl _ _ (hrz _) ?_)
  all_goals (go_ret;exact⟨rfl,rfl⟩)
theorem slices_Grow_Lint64_int64.growOK:b2f Go.Proofs.Tryz.prog (94,tI):=by
  have hT:a2n tabl 2=some ⟨false,tI,0,[]⟩:=by kernel_rfl
  obtain⟨inf,h1,h2,h3,h4,h5⟩:=(tab_ok tab_good).info 2 _ hT
  exact growOK_of ⟨Go.Proofs.Tryz.f94,Go.Proofs.Tryz.func94,by kernel_rfl,by kernel_rfl⟩ (a3l (tab_ok tab_good) hT) slices_Grow_Lint64_int64.grow0 fun w n a b=>slices_Grow_Lint64_int64.grow1 w n a b inf _ h1 h5 (by rw[h2];exact a3O _) h4
abbrev pS:PS := .val true TSheaf
abbrev pC:PS := .val true tQ
abbrev pQ:PS := .val false tQ
abbrev pL:PS := .val false tL
abbrev pI:PS := .val false tI
abbrev pM:PS := .val true TMatrix
abbrev qS:PS := .rptr TSheaf
abbrev qC:PS := .rptr tQ
abbrev qM:PS := .rptr TMatrix
abbrev oI:OutK×Ty×Vm.Mode:=(.val false,tI,.deep)
abbrev oB:OutK×Ty×Vm.Mode:=(.val false,.bool,.deep)
abbrev oL:OutK×Ty×Vm.Mode:=(.val false,tL,.deep)
abbrev oQ:OutK×Ty×Vm.Mode:=(.val false,tQ,.deep)
abbrev oC:OutK×Ty×Vm.Mode:=(.val true,tQ,.deep)
abbrev oS:OutK×Ty×Vm.Mode:=(.val true,TSheaf,.deep)
abbrev oM:OutK×Ty×Vm.Mode:=(.val true,TMatrix,.deep)
abbrev bd (f:Func):Code:=f.body.getD .skip
abbrev cx (l:List Vm.Callee):Ctx:=⟨a2n tabl,l,[],[],[],[]⟩
abbrev cf (c:Ctx):Cfg:=⟨c,[],[],fun _=>([],[]),fun _=>[]⟩
abbrev cl (c:Ctx) (f:Nat→List Nat×List Nat):Cfg:=⟨c,[],[],f,fun _=>[]⟩
theorem nM {α:Type} {p:α→Prop}:∀ x∈([]:List α),p x:=List.forall_mem_nil _
theorem cM {α:Type} {p:α→Prop} {a:α} {l:List α} (h:p a∧∀ x∈l,p x):∀ x∈a::l,p x:=List.forall_mem_cons.2 h
theorem cok {l:List Vm.Callee} (h:∀ e∈l,a3P prog e):CtxOK prog (cx l):=⟨nM,mixed_ok,tab_ok tab_good,h,nM,nM⟩
abbrev dD:TV := .dead

namespace Af3
noncomputable def sig:Sig:=⟨[pL,pI],[oI]⟩
noncomputable def cfg:Cfg:=cf (cx [])
noncomputable def fin:=finK cfg.c sig [.tmp 4]
noncomputable def F (d:LI×Int×Unit):OI:=anyK (a9u cfg fin (bd f21) (a6P sig.ps d 12))
variable (a_1:LI) (left_2:Int)
noncomputable def T:OI:=if (decide ((za.wrap (left_2-(a_1.length:Int)))<0))=true then some (((-1:Int),()),())else some ((za.wrap (left_2-(a_1.length:Int)),()),())
theorem eq:F (a_1,left_2,())=T a_1 left_2:=eq_any fun k=>by kernel_rfl
theorem S:a3P prog ⟨21,sig,F⟩:=sound_k (res:=[.tmp 4]) func21 (cok nM)
end Af3
namespace Aj0
noncomputable def sig:Sig:=⟨[pQ,pI],[oI]⟩
noncomputable def cfg:Cfg:=cl (cx [⟨21,Af3.sig,Af3.F⟩]) fun id=>match id with|5=>([0,1,5],[])|_=>([],[])
noncomputable def fin:=finK cfg.c sig [.tmp 4]
noncomputable def F (d:LL×Int×Unit):OI:=anyK (a9u cfg fin (bd f23) (a6P sig.ps d 27))
variable (k:Nat) (x3:LL) (i4 i5:Int)
noncomputable def l5:OI:=Vm.runT cfg fin k [.inLoop (sub [1,1,1,0,1,0,0] (bd f23)),.inBlock 0,.code (sub [1,1,1,1] (bd f23))] ⟨[vQ x3,vI i4,dD,dD,dD,vI i5]++a9B 21,[]⟩
theorem l5_eq:l5 (k+1) x3 i4 i5=if (decide (i5<(x3.length:Int)))=true then if 0≤i5∧i5<(x3.length:Int)then(Af3.F (x3.getD i5.toNat ([]:LI),i4,())).bind fun r6=>if (decide (r6.1.1<0))=true then some (((-1:Int),()),())else l5 k x3 r6.1.1 (za.wrap (i5+1))else none else some ((i4,()),()):=by kernel_rfl
variable (a_1:LL) (left_2:Int)
noncomputable def T:OI:=if (decide ((za.wrap (left_2-(a_1.length:Int)))<0))=true then some (((-1:Int),()),())else l5 k a_1 (za.wrap (left_2-(a_1.length:Int))) (0:Int)
theorem of {r} (h:Ev (fun k=>T k a_1 left_2) r):F (a_1,left_2,())=some r:=Ev.run (fun k=>by kernel_rfl) h
theorem S:a3P prog ⟨23,sig,F⟩:=sound_k (res:=[.tmp 4]) func23 (cok (cM ⟨Af3.S,nM⟩))
end Aj0
namespace Ah1
noncomputable def sig:Sig:=⟨[pC,pI],[oI]⟩
noncomputable def cfg:Cfg:=cf (cx [⟨23,Aj0.sig,Aj0.F⟩])
noncomputable def fin:=finK cfg.c sig [.tmp 4]
noncomputable def F (d:LL×Int×Unit):OI:=anyK (a9u cfg fin (bd f6) (a6P sig.ps d 12))
variable (a_1:LL) (left_2:Int)
noncomputable def T:OI:=(Aj0.F (a_1,left_2,())).bind fun r3=>if (decide (r3.1.1<0))=true then some (((-1:Int),()),())else some ((r3.1.1,()),())
theorem eq:F (a_1,left_2,())=T a_1 left_2:=eq_any fun k=>by kernel_rfl
theorem S:a3P prog ⟨6,sig,F⟩:=sound_k (res:=[.tmp 4]) func6 (cok (cM ⟨Aj0.S,nM⟩))
end Ah1
namespace Aq4
noncomputable def sig:Sig:=⟨[pM,pI],[oI]⟩
noncomputable def cfg:Cfg:=cf (cx [⟨21,Af3.sig,Af3.F⟩])
noncomputable def fin:=finK cfg.c sig [.tmp 4]
noncomputable def F (d:MX×Int×Unit):OI:=anyK (a9u cfg fin (bd f58) (a6P sig.ps d 12))
noncomputable def T (a_1 a_2 a_3:Int) (a_4:LI) (left_5:Int):OI:=(Af3.F (a_4,left_5,())).bind fun r6=>if (decide (r6.1.1<0))=true then some (((-1:Int),()),())else some ((r6.1.1,()),())
theorem eq (a_1 a_2 a_3:Int) (a_4:LI) (left_5:Int):F ((a_1,(a_2,(a_3,a_4))),left_5,())=T a_1 a_2 a_3 a_4 left_5:=eq_any fun k=>by kernel_rfl
theorem S:a3P prog ⟨58,sig,F⟩:=sound_k (res:=[.tmp 4]) func58 (cok (cM ⟨Af3.S,nM⟩))
end Aq4
namespace Aj1
noncomputable def sig:Sig:=⟨[.val false (.sl TMatrix),pI],[oI]⟩
noncomputable def cfg:Cfg:=cl (cx [⟨58,Aq4.sig,Aq4.F⟩]) fun id=>match id with|5=>([0,1,5],[])|_=>([],[])
noncomputable def fin:=finK cfg.c sig [.tmp 4]
noncomputable def F (d:LM×Int×Unit):OI:=anyK (a9u cfg fin (bd f22) (a6P sig.ps d 27))
variable (k:Nat) (x3:LM) (i4 i5:Int)
noncomputable def l5:OI:=Vm.runT cfg fin k [.inLoop (sub [1,1,1,0,1,0,0] (bd f22)),.inBlock 0,.code (sub [1,1,1,1] (bd f22))] ⟨[.val false [⟨(.sl TMatrix),.sh,x3⟩],vI i4,dD,dD,dD,vI i5]++a9B 21,[]⟩
theorem l5_eq:l5 (k+1) x3 i4 i5=if (decide (i5<(x3.length:Int)))=true then if 0≤i5∧i5<(x3.length:Int)then(Aq4.F (x3.getD i5.toNat (0,0,0,([]:LI)),i4,())).bind fun r6=>if (decide (r6.1.1<0))=true then some (((-1:Int),()),())else l5 k x3 r6.1.1 (za.wrap (i5+1))else none else some ((i4,()),()):=by kernel_rfl
variable (a_1:LM) (left_2:Int)
noncomputable def T:OI:=if (decide ((za.wrap (left_2-(a_1.length:Int)))<0))=true then some (((-1:Int),()),())else l5 k a_1 (za.wrap (left_2-(a_1.length:Int))) (0:Int)
theorem of {r} (h:Ev (fun k=>T k a_1 left_2) r):F (a_1,left_2,())=some r:=Ev.run (fun k=>by kernel_rfl) h
theorem S:a3P prog ⟨22,sig,F⟩:=sound_k (res:=[.tmp 4]) func22 (cok (cM ⟨Aq4.S,nM⟩))
end Aj1
namespace An9
noncomputable def sig:Sig:=⟨[pS,pI],[oI]⟩
noncomputable def cfg:Cfg:=cf (cx [⟨6,Ah1.sig,Ah1.F⟩,⟨21,Af3.sig,Af3.F⟩,⟨22,Aj1.sig,Aj1.F⟩])
noncomputable def fin:=finK cfg.c sig [.tmp 4]
noncomputable def F (d:SF×Int×Unit):OI:=anyK (a9u cfg fin (bd f5) (a6P sig.ps d 24))
noncomputable def T (a_1:LL) (a_2:Int) (a_3:LI) (a_4:LM) (left_5:Int):OI:=(Ah1.F (a_1,left_5,())).bind fun r6=>if (decide (r6.1.1<0))=true then some (((-1:Int),()),())else(Af3.F (a_3,r6.1.1,())).bind fun r7=>if (decide (r7.1.1<0))=true then some (((-1:Int),()),())else(Aj1.F (a_4,r7.1.1,())).bind fun r8=>if (decide (r8.1.1<0))=true then some (((-1:Int),()),())else some ((r8.1.1,()),())
theorem eq (a_1:LL) (a_2:Int) (a_3:LI) (a_4:LM) (left_5:Int):F ((a_1,(a_2,(a_3,a_4))),left_5,())=T a_1 a_2 a_3 a_4 left_5:=eq_any fun k=>by kernel_rfl
theorem S:a3P prog ⟨5,sig,F⟩:=sound_k (res:=[.tmp 4]) func5 (cok (cM ⟨Ah1.S,cM ⟨Af3.S,cM ⟨Aj1.S,nM⟩⟩⟩))
end An9
namespace Ac0
noncomputable def sig:Sig:=⟨[pL],[oL]⟩
noncomputable def cfg:Cfg:=cl (cx []) fun id=>match id with|3=>([0,3,4],[12])|_=>([],[])
noncomputable def fin:=finK cfg.c sig [.tmp 2]
noncomputable def F (d:LI×Unit):OL:=anyK (a9u cfg fin (bd f10) (a6P sig.ps d 22))
variable (k:Nat) (x2:LI) (i3:Int) (x4:LI)
noncomputable def l3:OL:=Vm.runT cfg fin k [.inLoop (sub [1,1,0,1,0,0] (bd f10)),.inBlock 0,.code (sub [1,1,1] (bd f10))] ⟨[vL x2,dD,dD,.view 12 (.root 0) 1 false,vI i3]++a9B 17,[(12,⟨false,[dL x4]⟩)]⟩
theorem l3_eq:l3 (k+1) x2 i3 x4=if (decide (i3<(x2.length:Int)))=true then if 0≤i3∧i3<(x2.length:Int)then if 0≤i3∧i3<(x4.length:Int)then l3 k x2 (za.wrap (i3+1)) (x4.set i3.toNat (x2.getD i3.toNat 0:Int))else none else none else some ((x4,()),()):=by kernel_rfl
variable (a_1:LI)
noncomputable def T:OL:=if 0≤(a_1.length:Int)∧(a_1.length:Int)≤(bigN:Int)then l3 k a_1 (0:Int) (zb (a_1.length:Int).toNat (0:Int))else none
theorem of {r} (h:Ev (fun k=>T k a_1) r):F (a_1,())=some r:=Ev.run (fun k=>by kernel_rfl) h
theorem S:a3P prog ⟨10,sig,F⟩:=sound_k (res:=[.tmp 2]) func10 (cok nM)
end Ac0
namespace Ak8
noncomputable def sig:Sig:=⟨[pQ],[oQ]⟩
noncomputable def cfg:Cfg:=cl (cx [⟨10,Ac0.sig,Ac0.F⟩]) fun id=>match id with|3=>([0,3,4],[12])|_=>([],[])
noncomputable def fin:=finK cfg.c sig [.tmp 2]
noncomputable def F (d:LL×Unit):OQ:=anyK (a9u cfg fin (bd f27) (a6P sig.ps d 23))
variable (k:Nat) (x2:LL) (i3:Int) (x4:LL)
noncomputable def l3:OQ:=Vm.runT cfg fin k [.inLoop (sub [1,1,0,1,0,0] (bd f27)),.inBlock 0,.code (sub [1,1,1] (bd f27))] ⟨[vQ x2,dD,dD,.view 12 (.root 0) 1 false,vI i3]++a9B 18,[(12,⟨false,[dQ x4]⟩)]⟩
theorem l3_eq:l3 (k+1) x2 i3 x4=if (decide (i3<(x2.length:Int)))=true then if 0≤i3∧i3<(x2.length:Int)then(Ac0.F (x2.getD i3.toNat ([]:LI),())).bind fun r5=>if 0≤i3∧i3<(x4.length:Int)then l3 k x2 (za.wrap (i3+1)) (x4.set i3.toNat r5.1.1)else none else none else some ((x4,()),()):=by kernel_rfl
variable (a_1:LL)
noncomputable def T:OQ:=if 0≤(a_1.length:Int)∧(a_1.length:Int)≤(bigN:Int)then l3 k a_1 (0:Int) (zb (a_1.length:Int).toNat ([]:LI))else none
theorem of {r} (h:Ev (fun k=>T k a_1) r):F (a_1,())=some r:=Ev.run (fun k=>by kernel_rfl) h
theorem S:a3P prog ⟨27,sig,F⟩:=sound_k (res:=[.tmp 2]) func27 (cok (cM ⟨Ac0.S,nM⟩))
end Ak8
namespace Ae2
noncomputable def sig:Sig:=⟨[pC],[oC]⟩
noncomputable def cfg:Cfg:=cf (cx [⟨27,Ak8.sig,Ak8.F⟩])
noncomputable def fin:=finK cfg.c sig [.cell 2 33]
noncomputable def F (d:LL×Unit):OQ:=anyK (a9u cfg fin (bd f9) (a6P sig.ps d 9))
variable (a_1:LL)
noncomputable def T:OQ:=(Ak8.F (a_1,())).bind fun r2=>some ((r2.1.1,()),())
theorem eq:F (a_1,())=T a_1:=eq_any fun k=>by kernel_rfl
theorem S:a3P prog ⟨9,sig,F⟩:=sound_k (res:=[.cell 2 33]) func9 (cok (cM ⟨Ak8.S,nM⟩))
end Ae2
namespace Aq5
noncomputable def sig:Sig:=⟨[pM],[oM]⟩
noncomputable def cfg:Cfg:=cf (cx [⟨10,Ac0.sig,Ac0.F⟩])
noncomputable def fin:=finK cfg.c sig [.cell 2 65]
noncomputable def F (d:MX×Unit):OM:=anyK (a9u cfg fin (bd f66) (a6P sig.ps d 18))
variable (a_1 a_2 a_3:Int) (a_4:LI)
noncomputable def T:OM:=(Ac0.F (a_4,())).bind fun r5=>some (((a_1,(a_2,(a_3,r5.1.1))),()),())
theorem eq:F ((a_1,(a_2,(a_3,a_4))),())=T a_1 a_2 a_3 a_4:=eq_any fun k=>by kernel_rfl
theorem S:a3P prog ⟨66,sig,F⟩:=sound_k (res:=[.cell 2 65]) func66 (cok (cM ⟨Ac0.S,nM⟩))
end Aq5
namespace Ak9
noncomputable def sig:Sig:=⟨[.val false (.sl TMatrix)],[(.val false,(.sl TMatrix),.deep)]⟩
noncomputable def cfg:Cfg:=cl (cx [⟨66,Aq5.sig,Aq5.F⟩]) fun id=>match id with|3=>([0,3,4],[12])|_=>([],[])
noncomputable def fin:=finK cfg.c sig [.tmp 2]
noncomputable def F (d:LM×Unit):Option ((LM×Unit)×(Unit)):=anyK (a9u cfg fin (bd f26) (a6P sig.ps d 23))
variable (k:Nat) (x2:LM) (i3:Int) (x4:LM)
noncomputable def l3:Option ((LM×Unit)×(Unit)):=Vm.runT cfg fin k [.inLoop (sub [1,1,0,1,0,0] (bd f26)),.inBlock 0,.code (sub [1,1,1] (bd f26))] ⟨[.val false [⟨(.sl TMatrix),.sh,x2⟩],dD,dD,.view 12 (.root 0) 1 false,vI i3]++a9B 18,[(12,⟨false,[⟨(.sl TMatrix),.deep,x4⟩]⟩)]⟩
theorem l3_eq:l3 (k+1) x2 i3 x4=if (decide (i3<(x2.length:Int)))=true then if 0≤i3∧i3<(x2.length:Int)then(Aq5.F (x2.getD i3.toNat (0,0,0,([]:LI)),())).bind fun r5=>if 0≤i3∧i3<(x4.length:Int)then l3 k x2 (za.wrap (i3+1)) (x4.set i3.toNat r5.1.1)else none else none else some ((x4,()),()):=by kernel_rfl
variable (a_1:LM)
noncomputable def T:Option ((LM×Unit)×(Unit)):=if 0≤(a_1.length:Int)∧(a_1.length:Int)≤(bigN:Int)then l3 k a_1 (0:Int) (zb (a_1.length:Int).toNat (0,0,0,([]:LI)))else none
theorem of {r} (h:Ev (fun k=>T k a_1) r):F (a_1,())=some r:=Ev.run (fun k=>by kernel_rfl) h
theorem S:a3P prog ⟨26,sig,F⟩:=sound_k (res:=[.tmp 2]) func26 (cok (cM ⟨Aq5.S,nM⟩))
end Ak9
namespace Ak0
noncomputable def sig:Sig:=⟨[pS],[oS]⟩
noncomputable def cfg:Cfg:=cf (cx [⟨9,Ae2.sig,Ae2.F⟩,⟨10,Ac0.sig,Ac0.F⟩,⟨26,Ak9.sig,Ak9.F⟩])
noncomputable def fin:=finK cfg.c sig [.cell 2 36]
noncomputable def F (d:SF×Unit):OS:=anyK (a9u cfg fin (bd f8) (a6P sig.ps d 20))
variable (a_1:LL) (a_2:Int) (a_3:LI) (a_4:LM)
noncomputable def T:OS:=(Ae2.F (a_1,())).bind fun r5=>(Ac0.F (a_3,())).bind fun r6=>(Ak9.F (a_4,())).bind fun r7=>some (((r5.1.1,(a_2,(r6.1.1,r7.1.1))),()),())
theorem eq:F ((a_1,(a_2,(a_3,a_4))),())=T a_1 a_2 a_3 a_4:=eq_any fun k=>by kernel_rfl
theorem S:a3P prog ⟨8,sig,F⟩:=sound_k (res:=[.cell 2 36]) func8 (cok (cM ⟨Ae2.S,cM ⟨Ac0.S,cM ⟨Ak9.S,nM⟩⟩⟩))
end Ak0
namespace Aa5
noncomputable def sig:Sig:=⟨[pL,pL],[oB]⟩
noncomputable def cfg:Cfg:=cl (cx []) fun id=>match id with|4=>([0,1,5],[])|_=>([],[])
noncomputable def fin:=finK cfg.c sig [.tmp 4]
noncomputable def F (d:LI×LI×Unit):OB:=anyK (a9u cfg fin (bd f12) (a6P sig.ps d 26))
variable (k:Nat) (x3 x4:LI) (i5:Int)
noncomputable def l4:OB:=Vm.runT cfg fin k [.inLoop (sub [1,1,0,1,0,0] (bd f12)),.inBlock 0,.code (sub [1,1,1] (bd f12))] ⟨[vL x3,vL x4,dD,dD,dD,vI i5]++a9B 20,[]⟩
theorem l4_eq:l4 (k+1) x3 x4 i5=if (decide (i5<(x3.length:Int)))=true then if 0≤i5∧i5<(x3.length:Int)then if 0≤i5∧i5<(x4.length:Int)then if ((x3.getD i5.toNat 0:Int)!=(x4.getD i5.toNat 0:Int))=true then some ((false,()),())else l4 k x3 x4 (za.wrap (i5+1))else none else none else some ((true,()),()):=by kernel_rfl
variable (a_1 b_2:LI)
noncomputable def T:OB:=if ((a_1.length:Int)!=(b_2.length:Int))=true then some ((false,()),())else l4 k a_1 b_2 (0:Int)
theorem of {r} (h:Ev (fun k=>T k a_1 b_2) r):F (a_1,b_2,())=some r:=Ev.run (fun k=>by kernel_rfl) h
theorem S:a3P prog ⟨12,sig,F⟩:=sound_k (res:=[.tmp 4]) func12 (cok nM)
end Aa5
namespace Ai8
noncomputable def sig:Sig:=⟨[pQ,pQ],[oB]⟩
noncomputable def cfg:Cfg:=cl (cx [⟨12,Aa5.sig,Aa5.F⟩]) fun id=>match id with|4=>([0,1,5],[])|_=>([],[])
noncomputable def fin:=finK cfg.c sig [.tmp 4]
noncomputable def F (d:LL×LL×Unit):OB:=anyK (a9u cfg fin (bd f38) (a6P sig.ps d 27))
variable (k:Nat) (x3 x4:LL) (i5:Int)
noncomputable def l4:OB:=Vm.runT cfg fin k [.inLoop (sub [1,1,0,1,0,0] (bd f38)),.inBlock 0,.code (sub [1,1,1] (bd f38))] ⟨[vQ x3,vQ x4,dD,dD,dD,vI i5]++a9B 21,[]⟩
theorem l4_eq:l4 (k+1) x3 x4 i5=if (decide (i5<(x3.length:Int)))=true then if 0≤i5∧i5<(x3.length:Int)then if 0≤i5∧i5<(x4.length:Int)then(Aa5.F (x3.getD i5.toNat ([]:LI),x4.getD i5.toNat ([]:LI),())).bind fun r6=>if (!r6.1.1)=true then some ((false,()),())else l4 k x3 x4 (za.wrap (i5+1))else none else none else some ((true,()),()):=by kernel_rfl
variable (a_1 b_2:LL)
noncomputable def T:OB:=if ((a_1.length:Int)!=(b_2.length:Int))=true then some ((false,()),())else l4 k a_1 b_2 (0:Int)
theorem of {r} (h:Ev (fun k=>T k a_1 b_2) r):F (a_1,b_2,())=some r:=Ev.run (fun k=>by kernel_rfl) h
theorem S:a3P prog ⟨38,sig,F⟩:=sound_k (res:=[.tmp 4]) func38 (cok (cM ⟨Aa5.S,nM⟩))
end Ai8
namespace Ag9
noncomputable def sig:Sig:=⟨[pC,pC],[oB]⟩
noncomputable def cfg:Cfg:=cf (cx [⟨38,Ai8.sig,Ai8.F⟩])
noncomputable def fin:=finK cfg.c sig [.tmp 4]
noncomputable def F (d:LL×LL×Unit):OB:=anyK (a9u cfg fin (bd f14) (a6P sig.ps d 11))
variable (a_1 b_2:LL)
noncomputable def T:OB:=(Ai8.F (a_1,b_2,())).bind fun r3=>if (!r3.1.1)=true then some ((false,()),())else some ((true,()),())
theorem eq:F (a_1,b_2,())=T a_1 b_2:=eq_any fun k=>by kernel_rfl
theorem S:a3P prog ⟨14,sig,F⟩:=sound_k (res:=[.tmp 4]) func14 (cok (cM ⟨Ai8.S,nM⟩))
end Ag9
namespace Aq1
noncomputable def sig:Sig:=⟨[pM,pM],[oB]⟩
noncomputable def cfg:Cfg:=cf (cx [⟨12,Aa5.sig,Aa5.F⟩])
noncomputable def fin:=finK cfg.c sig [.tmp 4]
noncomputable def F (d:MX×MX×Unit):OB:=anyK (a9u cfg fin (bd f82) (a6P sig.ps d 26))
variable (a_1 a_2 a_3:Int) (a_4:LI) (b_5 b_6 b_7:Int) (b_8:LI)
noncomputable def T:OB:=if (a_1 !=b_5)=true then some ((false,()),())else if (a_2 !=b_6)=true then some ((false,()),())else if (a_3 !=b_7)=true then some ((false,()),())else(Aa5.F (a_4,b_8,())).bind fun r9=>if (!r9.1.1)=true then some ((false,()),())else some ((true,()),())
theorem eq:F ((a_1,(a_2,(a_3,a_4))),(b_5,(b_6,(b_7,b_8))),())=T a_1 a_2 a_3 a_4 b_5 b_6 b_7 b_8:=eq_any fun k=>by kernel_rfl
theorem S:a3P prog ⟨82,sig,F⟩:=sound_k (res:=[.tmp 4]) func82 (cok (cM ⟨Aa5.S,nM⟩))
end Aq1
namespace Ai9
noncomputable def sig:Sig:=⟨[.val false (.sl TMatrix),.val false (.sl TMatrix)],[oB]⟩
noncomputable def cfg:Cfg:=cl (cx [⟨82,Aq1.sig,Aq1.F⟩]) fun id=>match id with|4=>([0,1,5],[])|_=>([],[])
noncomputable def fin:=finK cfg.c sig [.tmp 4]
noncomputable def F (d:LM×LM×Unit):OB:=anyK (a9u cfg fin (bd f37) (a6P sig.ps d 27))
variable (k:Nat) (x3 x4:LM) (i5:Int)
noncomputable def l4:OB:=Vm.runT cfg fin k [.inLoop (sub [1,1,0,1,0,0] (bd f37)),.inBlock 0,.code (sub [1,1,1] (bd f37))] ⟨[.val false [⟨(.sl TMatrix),.sh,x3⟩],.val false [⟨(.sl TMatrix),.sh,x4⟩],dD,dD,dD,vI i5]++a9B 21,[]⟩
theorem l4_eq:l4 (k+1) x3 x4 i5=if (decide (i5<(x3.length:Int)))=true then if 0≤i5∧i5<(x3.length:Int)then if 0≤i5∧i5<(x4.length:Int)then(Aq1.F (x3.getD i5.toNat (0,0,0,([]:LI)),x4.getD i5.toNat (0,0,0,([]:LI)),())).bind fun r6=>if (!r6.1.1)=true then some ((false,()),())else l4 k x3 x4 (za.wrap (i5+1))else none else none else some ((true,()),()):=by kernel_rfl
variable (a_1 b_2:LM)
noncomputable def T:OB:=if ((a_1.length:Int)!=(b_2.length:Int))=true then some ((false,()),())else l4 k a_1 b_2 (0:Int)
theorem of {r} (h:Ev (fun k=>T k a_1 b_2) r):F (a_1,b_2,())=some r:=Ev.run (fun k=>by kernel_rfl) h
theorem S:a3P prog ⟨37,sig,F⟩:=sound_k (res:=[.tmp 4]) func37 (cok (cM ⟨Aq1.S,nM⟩))
end Ai9
namespace Aq2
noncomputable def sig:Sig:=⟨[pS,pS],[oB]⟩
noncomputable def cfg:Cfg:=cf (cx [⟨12,Aa5.sig,Aa5.F⟩,⟨14,Ag9.sig,Ag9.F⟩,⟨37,Ai9.sig,Ai9.F⟩])
noncomputable def fin:=finK cfg.c sig [.tmp 4]
noncomputable def F (d:SF×SF×Unit):OB:=anyK (a9u cfg fin (bd f13) (a6P sig.ps d 28))
variable (a_1:LL) (a_2:Int) (a_3:LI) (a_4:LM) (b_5:LL) (b_6:Int) (b_7:LI) (b_8:LM)
noncomputable def T:OB:=(Ag9.F (a_1,b_5,())).bind fun r9=>if (!r9.1.1)=true then some ((false,()),())else if (a_2 !=b_6)=true then some ((false,()),())else(Aa5.F (a_3,b_7,())).bind fun r10=>if (!r10.1.1)=true then some ((false,()),())else(Ai9.F (a_4,b_8,())).bind fun r11=>if (!r11.1.1)=true then some ((false,()),())else some ((true,()),())
theorem eq:F ((a_1,(a_2,(a_3,a_4))),(b_5,(b_6,(b_7,b_8))),())=T a_1 a_2 a_3 a_4 b_5 b_6 b_7 b_8:=eq_any fun k=>by kernel_rfl
theorem S:a3P prog ⟨13,sig,F⟩:=sound_k (res:=[.tmp 4]) func13 (cok (cM ⟨Aa5.S,cM ⟨Ag9.S,cM ⟨Ai9.S,nM⟩⟩⟩))
end Aq2
namespace Ab4
noncomputable def sig:Sig:=⟨[.wr false tL .deep,pI],[oI]⟩
noncomputable def cfg:Cfg:=⟨cx [],[0],[],fun id=>match id with|2=>([0,1,5],[0])|_=>([],[]),fun _=>[]⟩
noncomputable def fin:=finK cfg.c sig [.tmp 4]
noncomputable def F (d:LI×Int×Unit):Option ((Int×Unit)×(LI×Unit)):=anyK (a9u cfg fin (bd f17) (a6P sig.ps d 19))
variable (k:Nat) (i3 i4:Int) (x5:LI)
noncomputable def l2:Option ((Int×Unit)×(LI×Unit)):=Vm.runT cfg fin k [.inLoop (sub [1,0,1,0,0] (bd f17)),.inBlock 0,.code (sub [1,1] (bd f17))] ⟨[.view 0 (.root 0) 1 false,vI i3,dD,dD,dD,vI i4]++a9B 13,[(0,⟨false,[dL x5]⟩)]⟩
theorem l2_eq:l2 (k+1) i3 i4 x5=if (decide (i4<(x5.length:Int)))=true then if 0≤i4∧i4<(x5.length:Int)then l2 k (za.wrap (i3+1)) (za.wrap (i4+1)) (x5.set i4.toNat i3)else none else some ((i3,()),(x5,())):=by kernel_rfl
variable (a_1:LI) (k_2:Int)
noncomputable def T:Option ((Int×Unit)×(LI×Unit)):=l2 k k_2 (0:Int) a_1
theorem of {r} (h:Ev (fun k=>T k a_1 k_2) r):F (a_1,k_2,())=some r:=Ev.run (fun k=>by kernel_rfl) h
theorem S:a3P prog ⟨17,sig,F⟩:=sound_k (res:=[.tmp 4]) func17 (cok nM)
end Ab4
namespace Am7
noncomputable def sig:Sig:=⟨[.wr false tQ .deep,pI],[oI]⟩
noncomputable def cfg:Cfg:=⟨cx [⟨17,Ab4.sig,Ab4.F⟩],[0],[],fun id=>match id with|2=>([0,1,5],[0])|_=>([],[]),fun _=>[]⟩
noncomputable def fin:=finK cfg.c sig [.tmp 4]
noncomputable def F (d:LL×Int×Unit):Option ((Int×Unit)×(LL×Unit)):=anyK (a9u cfg fin (bd f40) (a6P sig.ps d 19))
variable (k:Nat) (i3 i4:Int) (x5:LL)
noncomputable def l2:Option ((Int×Unit)×(LL×Unit)):=Vm.runT cfg fin k [.inLoop (sub [1,0,1,0,0] (bd f40)),.inBlock 0,.code (sub [1,1] (bd f40))] ⟨[.view 0 (.root 0) 1 false,vI i3,dD,dD,dD,vI i4]++a9B 13,[(0,⟨false,[dQ x5]⟩)]⟩
theorem l2_eq:l2 (k+1) i3 i4 x5=if (decide (i4<(x5.length:Int)))=true then if 0≤i4∧i4<(x5.length:Int)then(Ab4.F (x5.getD i4.toNat ([]:LI),i3,())).bind fun r6=>l2 k r6.1.1 (za.wrap (i4+1)) (x5.set i4.toNat r6.2.1)else none else some ((i3,()),(x5,())):=by kernel_rfl
variable (a_1:LL) (k_2:Int)
noncomputable def T:Option ((Int×Unit)×(LL×Unit)):=l2 k k_2 (0:Int) a_1
theorem of {r} (h:Ev (fun k=>T k a_1 k_2) r):F (a_1,k_2,())=some r:=Ev.run (fun k=>by kernel_rfl) h
theorem S:a3P prog ⟨40,sig,F⟩:=sound_k (res:=[.tmp 4]) func40 (cok (cM ⟨Ab4.S,nM⟩))
end Am7
namespace Ah0
noncomputable def sig:Sig:=⟨[.wr true tQ .deep,pI],[oI]⟩
noncomputable def cfg:Cfg:=⟨cx [⟨40,Am7.sig,Am7.F⟩],[0],[],fun _=>([],[]),fun _=>[]⟩
noncomputable def fin:=finK cfg.c sig [.tmp 4]
noncomputable def F (d:LL×Int×Unit):Option ((Int×Unit)×(LL×Unit)):=anyK (a9u cfg fin (bd f16) (a6P sig.ps d 10))
variable (a_1:LL) (k_2:Int)
noncomputable def T:Option ((Int×Unit)×(LL×Unit)):=(Am7.F (a_1,k_2,())).bind fun r3=>some ((r3.1.1,()),(r3.2.1,()))
theorem eq:F (a_1,k_2,())=T a_1 k_2:=eq_any fun k=>by kernel_rfl
theorem S:a3P prog ⟨16,sig,F⟩:=sound_k (res:=[.tmp 4]) func16 (cok (cM ⟨Am7.S,nM⟩))
end Ah0
namespace Am8
noncomputable def sig:Sig:=⟨[.wr false (.sl TMatrix) .deep,pI],[oI]⟩
noncomputable def cfg:Cfg:=⟨cx [⟨17,Ab4.sig,Ab4.F⟩],[0],[],fun id=>match id with|2=>([0,1,5],[0])|_=>([],[]),fun _=>[]⟩
noncomputable def fin:=finK cfg.c sig [.tmp 4]
noncomputable def F (d:LM×Int×Unit):Option ((Int×Unit)×(LM×Unit)):=anyK (a9u cfg fin (bd f39) (a6P sig.ps d 41))
variable (k:Nat) (i3 i4:Int) (x5:LM)
noncomputable def l2:Option ((Int×Unit)×(LM×Unit)):=Vm.runT cfg fin k [.inLoop (sub [1,0,1,0,0] (bd f39)),.inBlock 0,.code (sub [1,1] (bd f39))] ⟨[.view 0 (.root 0) 1 false,vI i3,dD,dD,dD,vI i4]++a9B 35,[(0,⟨false,[⟨(.sl TMatrix),.deep,x5⟩]⟩)]⟩
theorem l2_eq:l2 (k+1) i3 i4 x5=if (decide (i4<(x5.length:Int)))=true then if 0≤i4∧i4<(x5.length:Int)then if 0≤i4∧i4<((x5.set i4.toNat (i3,(x5.getD i4.toNat (0,0,0,([]:LI))).2)).length:Int)then let y6:LM:=(x5.set i4.toNat (i3,(x5.getD i4.toNat (0,0,0,([]:LI))).2)).set i4.toNat (((x5.set i4.toNat (i3,(x5.getD i4.toNat (0,0,0,([]:LI))).2)).getD i4.toNat (0,0,0,([]:LI))).1,(za.wrap (i3+1),(((x5.set i4.toNat (i3,(x5.getD i4.toNat (0,0,0,([]:LI))).2)).getD i4.toNat (0,0,0,([]:LI))).2).2));if 0≤i4∧i4<(y6.length:Int)then let y7:LM:=y6.set i4.toNat ((y6.getD i4.toNat (0,0,0,([]:LI))).1,(((y6.getD i4.toNat (0,0,0,([]:LI))).2).1,(za.wrap ((za.wrap (i3+1))+1),(((y6.getD i4.toNat (0,0,0,([]:LI))).2).2).2)));if 0≤i4∧i4<(y7.length:Int)then(Ab4.F ((((y7.getD i4.toNat (0,0,0,([]:LI))).2).2).2,za.wrap ((za.wrap ((za.wrap (i3+1))+1))+1),())).bind fun r8=>l2 k r8.1.1 (za.wrap (i4+1)) (y7.set i4.toNat ((y7.getD i4.toNat (0,0,0,([]:LI))).1,(((y7.getD i4.toNat (0,0,0,([]:LI))).2).1,((((y7.getD i4.toNat (0,0,0,([]:LI))).2).2).1,r8.2.1))))else none else none else none else none else some ((i3,()),(x5,())):=by kernel_rfl
variable (a_1:LM) (k_2:Int)
noncomputable def T:Option ((Int×Unit)×(LM×Unit)):=l2 k k_2 (0:Int) a_1
theorem of {r} (h:Ev (fun k=>T k a_1 k_2) r):F (a_1,k_2,())=some r:=Ev.run (fun k=>by kernel_rfl) h
theorem S:a3P prog ⟨39,sig,F⟩:=sound_k (res:=[.tmp 4]) func39 (cok (cM ⟨Ab4.S,nM⟩))
end Am8
namespace Aq3
noncomputable def sig:Sig:=⟨[.wr true TSheaf .deep,pI],[oI]⟩
noncomputable def cfg:Cfg:=⟨cx [⟨16,Ah0.sig,Ah0.F⟩,⟨17,Ab4.sig,Ab4.F⟩,⟨39,Am8.sig,Am8.F⟩],[0],[],fun _=>([],[]),fun _=>[]⟩
noncomputable def fin:=finK cfg.c sig [.tmp 4]
noncomputable def F (d:SF×Int×Unit):Option ((Int×Unit)×(SF×Unit)):=anyK (a9u cfg fin (bd f15) (a6P sig.ps d 18))
variable (a_1:LL) (a_2:Int) (a_3:LI) (a_4:LM) (k_5:Int)
noncomputable def T:Option ((Int×Unit)×(SF×Unit)):=(Ah0.F (a_1,k_5,())).bind fun r6=>(Ab4.F (a_3,r6.1.1,())).bind fun r7=>(Am8.F (a_4,r7.1.1,())).bind fun r8=>some ((r8.1.1,()),((r6.2.1,(a_2,(r7.2.1,r8.2.1))),()))
theorem eq:F ((a_1,(a_2,(a_3,a_4))),k_5,())=T a_1 a_2 a_3 a_4 k_5:=eq_any fun k=>by kernel_rfl
theorem S:a3P prog ⟨15,sig,F⟩:=sound_k (res:=[.tmp 4]) func15 (cok (cM ⟨Ah0.S,cM ⟨Ab4.S,cM ⟨Am8.S,nM⟩⟩⟩))
end Aq3
namespace Ah8
noncomputable def sig:Sig:=⟨[pL,pI],[oI]⟩
noncomputable def cfg:Cfg:=cl (cx []) fun id=>match id with|2=>([0,1,5],[])|_=>([],[])
noncomputable def fin:=finK cfg.c sig [.tmp 4]
noncomputable def F (d:LI×Int×Unit):OI:=anyK (a9u cfg fin (bd f18) (a6P sig.ps d 21))
variable (k:Nat) (x3:LI) (i4 i5:Int)
noncomputable def l2:OI:=Vm.runT cfg fin k [.inLoop (sub [1,0,1,0,0] (bd f18)),.inBlock 0,.code (sub [1,1] (bd f18))] ⟨[vL x3,vI i4,dD,dD,dD,vI i5]++a9B 15,[]⟩
theorem l2_eq:l2 (k+1) x3 i4 i5=if (decide (i5<(x3.length:Int)))=true then if 0≤i5∧i5<(x3.length:Int)then if ((x3.getD i5.toNat 0:Int)!=i4)=true then some (((-1:Int),()),())else l2 k x3 (za.wrap (i4+1)) (za.wrap (i5+1))else none else some ((i4,()),()):=by kernel_rfl
variable (a_1:LI) (k_2:Int)
noncomputable def T:OI:=l2 k a_1 k_2 (0:Int)
theorem of {r} (h:Ev (fun k=>T k a_1 k_2) r):F (a_1,k_2,())=some r:=Ev.run (fun k=>by kernel_rfl) h
theorem S:a3P prog ⟨18,sig,F⟩:=sound_k (res:=[.tmp 4]) func18 (cok nM)
end Ah8
namespace Aa3
noncomputable def sig:Sig:=⟨[pL],[oL]⟩
noncomputable def cfg:Cfg:=cf (cx [])
noncomputable def fin:=finK cfg.c sig [.tmp 2]
noncomputable def F (d:LI×Unit):OL:=anyK (a9u cfg fin (bd f44) (a6P sig.ps d 6))
variable (list_1:LI)
noncomputable def T:OL:=if ([]:LI).length+list_1.length≤bigA then some ((([]:LI)++list_1,()),())else none
theorem eq:F (list_1,())=T list_1:=eq_any fun k=>by kernel_rfl
theorem S:a3P prog ⟨44,sig,F⟩:=sound_k (res:=[.tmp 2]) func44 (cok nM)
end Aa3
namespace Ah9
noncomputable def sig:Sig:=⟨[pL,pL],[oB]⟩
noncomputable def cfg:Cfg:=cl (cx []) fun id=>match id with|4=>([0,1,5],[])|_=>([],[])
noncomputable def fin:=finK cfg.c sig [.tmp 4]
noncomputable def F (d:LI×LI×Unit):OB:=anyK (a9u cfg fin (bd f104) (a6P sig.ps d 26))
variable (k:Nat) (x3 x4:LI) (i5:Int)
noncomputable def l4:OB:=Vm.runT cfg fin k [.inLoop (sub [1,1,0,1,0,0] (bd f104)),.inBlock 0,.code (sub [1,1,1] (bd f104))] ⟨[vL x3,vL x4,dD,dD,dD,vI i5]++a9B 20,[]⟩
theorem l4_eq:l4 (k+1) x3 x4 i5=if (decide (i5<(x3.length:Int)))=true then if 0≤i5∧i5<(x3.length:Int)then if 0≤i5∧i5<(x4.length:Int)then if ((x3.getD i5.toNat 0:Int)!=(x4.getD i5.toNat 0:Int))=true then some ((false,()),())else l4 k x3 x4 (za.wrap (i5+1))else none else none else some ((true,()),()):=by kernel_rfl
variable (a_1 b_2:LI)
noncomputable def T:OB:=if ((a_1.length:Int)!=(b_2.length:Int))=true then some ((false,()),())else l4 k a_1 b_2 (0:Int)
theorem of {r} (h:Ev (fun k=>T k a_1 b_2) r):F (a_1,b_2,())=some r:=Ev.run (fun k=>by kernel_rfl) h
theorem S:a3P prog ⟨104,sig,F⟩:=sound_k (res:=[.tmp 4]) func104 (cok nM)
end Ah9
namespace Aa0
noncomputable def sig:Sig:=⟨[qC,pL],[oI]⟩
noncomputable def cfg:Cfg:=cl (cx [⟨104,Ah9.sig,Ah9.F⟩]) fun id=>match id with|2=>([0,1,5],[])|_=>([],[])
noncomputable def fin:=finK cfg.c sig [.tmp 4]
noncomputable def F (d:LL×LI×Unit):OI:=anyK (a9u cfg fin (bd f65) (a6P sig.ps d 25))
variable (k:Nat) (x3:LL) (x4:LI) (i5:Int)
noncomputable def l2:OI:=Vm.runT cfg fin k [.inLoop (sub [1,0,1,0,0] (bd f65)),.inBlock 0,.code (sub [1,1] (bd f65))] ⟨[.rptr false [cQ x3],vL x4,dD,dD,dD,vI i5]++a9B 19,[]⟩
theorem l2_eq:l2 (k+1) x3 x4 i5=if (decide (i5<(x3.length:Int)))=true then if 0≤i5∧i5<(x3.length:Int)then(Ah9.F (x3.getD i5.toNat ([]:LI),x4,())).bind fun r6=>if r6.1.1=true then some ((i5,()),())else l2 k x3 x4 (za.wrap (i5+1))else none else some (((-1:Int),()),()):=by kernel_rfl
variable (c_1:LL) (s_2:LI)
noncomputable def T:OI:=l2 k c_1 s_2 (0:Int)
theorem of {r} (h:Ev (fun k=>T k c_1 s_2) r):F (c_1,s_2,())=some r:=Ev.run (fun k=>by kernel_rfl) h
theorem S:a3P prog ⟨65,sig,F⟩:=sound_k (res:=[.tmp 4]) func65 (cok (cM ⟨Ah9.S,nM⟩))
end Aa0
namespace Ac5
noncomputable def sig:Sig:=⟨[qC,qC],[oC]⟩
noncomputable def cfg:Cfg:=cl (cx [⟨44,Aa3.sig,Aa3.F⟩,⟨65,Aa0.sig,Aa0.F⟩]) fun id=>match id with|3=>([0,1,4,5,6],[16,20])|_=>([],[])
noncomputable def fin:=finK cfg.c sig [.cell 4 33]
noncomputable def F (d:LL×LL×Unit):OQ:=anyK (a9u cfg fin (bd f45) (a6P sig.ps d 40))
variable (k:Nat) (x3 x4:LL) (i5:Int) (x6 x7:LL)
noncomputable def l3:OQ:=Vm.runT cfg fin k [.inLoop (sub [1,1,0,1,0,0] (bd f45)),.inBlock 0,.code (sub [1,1,1] (bd f45))] ⟨[.rptr false [cQ x3],.rptr false [cQ x4],dD,dD,.ref 16 (.root 0),.view 20 (.root 0) 1 false,vI i5]++a9B 33,[(16,⟨true,[dQ x6]⟩),(20,⟨false,[dQ x7]⟩)]⟩
theorem l3_eq:l3 (k+1) x3 x4 i5 x6 x7=if (decide (i5<(x3.length:Int)))=true then if 0≤i5∧i5<(x3.length:Int)then(Aa0.F (x4,x3.getD i5.toNat ([]:LI),())).bind fun r8=>if (decide (r8.1.1≥0))=true then if 0≤i5∧i5<(x3.length:Int)then(Aa3.F (x3.getD i5.toNat ([]:LI),())).bind fun r9=>if x7.length+[r9.1.1].length≤bigA then l3 k x3 x4 (za.wrap (i5+1)) x6 (x7++[r9.1.1])else none else none else l3 k x3 x4 (za.wrap (i5+1)) x6 x7 else none else some ((x7,()),()):=by kernel_rfl
variable (a_1 b_2:LL)
noncomputable def T:OQ:=l3 k a_1 b_2 (0:Int) ([]:LL) ([]:LL)
theorem of {r} (h:Ev (fun k=>T k a_1 b_2) r):F (a_1,b_2,())=some r:=Ev.run (fun k=>by kernel_rfl) h
theorem S:a3P prog ⟨45,sig,F⟩:=sound_k (res:=[.cell 4 33]) func45 (cok (cM ⟨Aa3.S,cM ⟨Aa0.S,nM⟩⟩))
end Ac5
namespace Ai1
noncomputable def sig:Sig:=⟨[pL,pI],[oL]⟩
noncomputable def cfg:Cfg:=cf (cx [⟨44,Aa3.sig,Aa3.F⟩])
noncomputable def fin:=finK cfg.c sig [.tmp 4]
noncomputable def F (d:LI×Int×Unit):OL:=anyK (a9u cfg fin (bd f125) (a6P sig.ps d 16))
variable (s_1:LI) (k_2:Int)
noncomputable def T:OL:=if 0≤(0:Int)∧(0:Int)≤k_2∧k_2≤(s_1.length:Int)then(Aa3.F (cutL s_1 (0:Int) k_2,())).bind fun r3=>if 0≤(za.wrap (k_2+(1:Int)))∧(za.wrap (k_2+(1:Int)))≤(s_1.length:Int)∧(s_1.length:Int)≤(s_1.length:Int)then if r3.1.1.length+(cutL s_1 (za.wrap (k_2+(1:Int))) (s_1.length:Int)).length≤bigA then some ((r3.1.1++(cutL s_1 (za.wrap (k_2+(1:Int))) (s_1.length:Int)),()),())else none else none else none
theorem eq:F (s_1,k_2,())=T s_1 k_2:=eq_any fun k=>by kernel_rfl
theorem S:a3P prog ⟨125,sig,F⟩:=sound_k (res:=[.tmp 4]) func125 (cok (cM ⟨Aa3.S,nM⟩))
end Ai1
namespace Aa9
noncomputable def sig:Sig:=⟨[pI,pI,pI],[oB]⟩
noncomputable def cfg:Cfg:=cf (cx [])
noncomputable def fin:=finK cfg.c sig [.tmp 6]
noncomputable def F (d:Int×Int×Int×Unit):OB:=anyK (a9u cfg fin (bd f177) (a6P sig.ps d 15))
variable (n_1 low_2 high_3:Int)
noncomputable def T:OB:=if (decide (n_1≥low_2))=true then some ((decide (n_1≤high_3),()),())else some ((false,()),())
theorem eq:F (n_1,low_2,high_3,())=T n_1 low_2 high_3:=eq_any fun k=>by kernel_rfl
theorem S:a3P prog ⟨177,sig,F⟩:=sound_k (res:=[.tmp 6]) func177 (cok nM)
end Aa9
namespace An0
noncomputable def sig:Sig:=⟨[pL,pI,pI],[oB]⟩
noncomputable def cfg:Cfg:=cl (cx [⟨177,Aa9.sig,Aa9.F⟩]) fun id=>match id with|2=>([0,1,2,7],[])|_=>([],[])
noncomputable def fin:=finK cfg.c sig [.tmp 6]
noncomputable def F (d:LI×Int×Int×Unit):OB:=anyK (a9u cfg fin (bd f178) (a6P sig.ps d 38))
variable (k:Nat) (x4:LI) (i5 i6 i7:Int)
noncomputable def l2:OB:=Vm.runT cfg fin k [.inLoop (sub [1,0,1,0,0] (bd f178)),.inBlock 0,.code (sub [1,1] (bd f178))] ⟨[vL x4,vI i5,vI i6,dD,dD,dD,dD,vI i7]++a9B 30,[]⟩
theorem l2_eq:l2 (k+1) x4 i5 i6 i7=if (decide (i7<(x4.length:Int)))=true then if 0≤i7∧i7<(x4.length:Int)then(Aa9.F ((x4.getD i7.toNat 0:Int),i5,i6,())).bind fun r8=>if (!r8.1.1)=true then some ((false,()),())else if (decide (i7>0))=true then if 0≤(za.wrap (i7-1))∧(za.wrap (i7-1))<(x4.length:Int)then if 0≤i7∧i7<(x4.length:Int)then if (decide ((x4.getD (za.wrap (i7-1)).toNat 0)≥(x4.getD i7.toNat 0:Int)))=true then some ((false,()),())else l2 k x4 i5 i6 (za.wrap (i7+1))else none else none else l2 k x4 i5 i6 (za.wrap (i7+1))else none else some ((true,()),()):=by kernel_rfl
variable (list_1:LI) (low_2 high_3:Int)
noncomputable def T:OB:=l2 k list_1 low_2 high_3 (0:Int)
theorem of {r} (h:Ev (fun k=>T k list_1 low_2 high_3) r):F (list_1,low_2,high_3,())=some r:=Ev.run (fun k=>by kernel_rfl) h
theorem S:a3P prog ⟨178,sig,F⟩:=sound_k (res:=[.tmp 6]) func178 (cok (cM ⟨Aa9.S,nM⟩))
end An0
namespace Ar0
noncomputable def sig:Sig:=⟨[pL],[oB]⟩
noncomputable def cfg:Cfg:=cf (cx [⟨177,Aa9.sig,Aa9.F⟩,⟨178,An0.sig,An0.F⟩])
noncomputable def fin:=finK cfg.c sig [.tmp 2]
noncomputable def F (d:LI×Unit):OB:=anyK (a9u cfg fin (bd f137) (a6P sig.ps d 10))
variable (s_1:LI)
noncomputable def T:OB:=(Aa9.F ((s_1.length:Int),(1:Int),(4:Int),())).bind fun r2=>if r2.1.1=true then(An0.F (s_1,(0:Int),(9:Int),())).bind fun r3=>some ((r3.1.1,()),())else some ((false,()),())
theorem eq:F (s_1,())=T s_1:=eq_any fun k=>by kernel_rfl
theorem S:a3P prog ⟨137,sig,F⟩:=sound_k (res:=[.tmp 2]) func137 (cok (cM ⟨Aa9.S,cM ⟨An0.S,nM⟩⟩))
end Ar0
namespace Aj3
noncomputable def sig:Sig:=⟨[pL,pL],[oB]⟩
noncomputable def cfg:Cfg:=cl (cx []) fun id=>match id with|4=>([0,1,5],[])|_=>([],[])
noncomputable def fin:=finK cfg.c sig [.tmp 4]
noncomputable def F (d:LI×LI×Unit):OB:=anyK (a9u cfg fin (bd f138) (a6P sig.ps d 40))
variable (k:Nat) (x3 x4:LI) (i5:Int)
noncomputable def l4:OB:=Vm.runT cfg fin k [.inLoop (sub [1,1,0,1,0,0] (bd f138)),.inBlock 0,.code (sub [1,1,1] (bd f138))] ⟨[vL x3,vL x4,dD,dD,dD,vI i5]++a9B 34,[]⟩
theorem l4_eq:l4 (k+1) x3 x4 i5=if (decide (i5<(x3.length:Int)))=true then if 0≤i5∧i5<(x3.length:Int)then if 0≤i5∧i5<(x4.length:Int)then if ((x3.getD i5.toNat 0:Int)!=(x4.getD i5.toNat 0:Int))=true then if 0≤i5∧i5<(x3.length:Int)then if 0≤i5∧i5<(x4.length:Int)then some ((decide ((x3.getD i5.toNat 0:Int)<(x4.getD i5.toNat 0:Int)),()),())else none else none else l4 k x3 x4 (za.wrap (i5+1))else none else none else some ((false,()),()):=by kernel_rfl
variable (a_1 b_2:LI)
noncomputable def T:OB:=if ((a_1.length:Int)!=(b_2.length:Int))=true then some ((decide ((a_1.length:Int)<(b_2.length:Int)),()),())else l4 k a_1 b_2 (0:Int)
theorem of {r} (h:Ev (fun k=>T k a_1 b_2) r):F (a_1,b_2,())=some r:=Ev.run (fun k=>by kernel_rfl) h
theorem S:a3P prog ⟨138,sig,F⟩:=sound_k (res:=[.tmp 4]) func138 (cok nM)
end Aj3
namespace Aa7
noncomputable def sig:Sig:=⟨[qC],[oB]⟩
noncomputable def cfg:Cfg:=cl (cx [⟨65,Aa0.sig,Aa0.F⟩,⟨125,Ai1.sig,Ai1.F⟩,⟨137,Ar0.sig,Ar0.F⟩,⟨138,Aj3.sig,Aj3.F⟩]) fun id=>match id with|4=>([0,3],[])|10=>([0,3,4,5],[])|_=>([],[])
noncomputable def fin:=finK cfg.c sig [.tmp 2]
noncomputable def F (d:LL×Unit):OB:=anyK (a9u cfg fin (bd f98) (a6P sig.ps d 65))
variable (k:Nat) (x2:LL) (i3:Int)
noncomputable def l4:OB:=Vm.runT cfg fin k [.inLoop (sub [1,1,0,1,0,0] (bd f98)),.inBlock 0,.code (sub [1,1,1] (bd f98))] ⟨[.rptr false [cQ x2],dD,dD,vI i3]++a9B 61,[]⟩
variable (x6:LL) (i7:Int) (x8:LI) (i9:Int)
noncomputable def l10:OB:=Vm.runT cfg fin k [.inLoop (sub [1,1,0,1,0,0,1,0,0,1,1,1,0,0] (bd f98)),.inBlock 2,.inBlock 1,.code (sub [1,1,0,1,0,0,1,1] (bd f98)),.inLoop (sub [1,1,0,1,0,0] (bd f98)),.inBlock 0,.code (sub [1,1,1] (bd f98))] ⟨[.rptr false [cQ x6],dD,dD,vI i7,vL x8,vI i9]++a9B 59,[]⟩
theorem l4_eq:l4 (k+1) x2 i3=if (decide (i3<(x2.length:Int)))=true then if 0≤i3∧i3<(x2.length:Int)then(Ar0.F (x2.getD i3.toNat ([]:LI),())).bind fun r4=>if (!r4.1.1)=true then some ((false,()),())else if (decide (i3>0))=true then if 0≤(za.wrap (i3-1))∧(za.wrap (i3-1))<(x2.length:Int)then(Aj3.F (x2.getD (za.wrap (i3-1)).toNat ([]:LI),x2.getD i3.toNat ([]:LI),())).bind fun r5=>if (!r5.1.1)=true then some ((false,()),())else l10 k x2 i3 (x2.getD i3.toNat ([]:LI)) (0:Int)else none else l10 k x2 i3 (x2.getD i3.toNat ([]:LI)) (0:Int)else none else some ((true,()),()):=by kernel_rfl
theorem l10_eq:l10 (k+1) x6 i7 x8 i9=if (decide (i9<(x8.length:Int)))=true then if (decide ((x8.length:Int)>1))=true then(Ai1.F (x8,i9,())).bind fun r10=>(Aa0.F (x6,r10.1.1,())).bind fun r11=>if (decide (r11.1.1<0))=true then some ((false,()),())else l10 k x6 i7 x8 (za.wrap (i9+1))else l4 k x6 (za.wrap (i7+1))else l4 k x6 (za.wrap (i7+1)):=by kernel_rfl
variable (t_1:LL)
noncomputable def T:OB:=if (decide ((t_1.length:Int)>48))=true then some ((false,()),())else l4 k t_1 (0:Int)
theorem of {r} (h:Ev (fun k=>T k t_1) r):F (t_1,())=some r:=Ev.run (fun k=>by kernel_rfl) h
theorem S:a3P prog ⟨98,sig,F⟩:=sound_k (res:=[.tmp 2]) func98 (cok (cM ⟨Aa0.S,cM ⟨Ai1.S,cM ⟨Ar0.S,cM ⟨Aj3.S,nM⟩⟩⟩⟩))
end Aa7
namespace Ac8
noncomputable def sig:Sig:=⟨[qC,pI,pI],[oI]⟩
noncomputable def cfg:Cfg:=cl (cx []) fun id=>match id with|3=>([0,1,2,7,8],[])|_=>([],[])
noncomputable def fin:=finK cfg.c sig [.tmp 6]
noncomputable def F (d:LL×Int×Int×Unit):OI:=anyK (a9u cfg fin (bd f126) (a6P sig.ps d 36))
variable (k:Nat) (x4:LL) (i5 i6 i7 i8:Int)
noncomputable def l3:OI:=Vm.runT cfg fin k [.inLoop (sub [1,1,0,1,0,0] (bd f126)),.inBlock 0,.code (sub [1,1,1] (bd f126))] ⟨[.rptr false [cQ x4],vI i5,vI i6,dD,dD,dD,dD,vI i7,vI i8]++a9B 27,[]⟩
theorem l3_eq:l3 (k+1) x4 i5 i6 i7 i8=if (decide (i8<i5))=true then if 0≤i8∧i8<(x4.length:Int)then if (decide (((x4.getD i8.toNat ([]:LI)).length:Int)>1))=true then if 0≤i8∧i8<(x4.length:Int)then l3 k x4 i5 i6 (za.wrap (i7+((x4.getD i8.toNat ([]:LI)).length:Int))) (za.wrap (i8+1))else none else l3 k x4 i5 i6 i7 (za.wrap (i8+1))else none else some ((za.wrap (i7+i6),()),()):=by kernel_rfl
variable (c_1:LL) (simplex_2 i_3:Int)
noncomputable def T:OI:=l3 k c_1 simplex_2 i_3 (0:Int) (0:Int)
theorem of {r} (h:Ev (fun k=>T k c_1 simplex_2 i_3) r):F (c_1,simplex_2,i_3,())=some r:=Ev.run (fun k=>by kernel_rfl) h
theorem S:a3P prog ⟨126,sig,F⟩:=sound_k (res:=[.tmp 6]) func126 (cok nM)
end Ac8
namespace Aj2
noncomputable def sig:Sig:=⟨[pI],[oB]⟩
noncomputable def cfg:Cfg:=cl (cx [⟨177,Aa9.sig,Aa9.F⟩]) fun id=>match id with|4=>([0,3],[])|_=>([],[])
noncomputable def fin:=finK cfg.c sig [.tmp 2]
noncomputable def F (d:Int×Unit):OB:=anyK (a9u cfg fin (bd f202) (a6P sig.ps d 18))
variable (k:Nat) (i3 i4:Int)
noncomputable def l4:OB:=Vm.runT cfg fin k [.inLoop (sub [1,1,0,1,0,0] (bd f202)),.inBlock 0,.code (sub [1,1,1] (bd f202))] ⟨[vI i3,dD,dD,vI i4]++a9B 14,[]⟩
theorem l4_eq:l4 (k+1) i3 i4=if (decide ((za.wrap (i4*i4))≤i3))=true then if i4=0 then none else if ((i3.tmod i4)==0)=true then some ((false,()),())else l4 k i3 (za.wrap (i4+1))else some ((true,()),()):=by kernel_rfl
variable (p_1:Int)
noncomputable def T:OB:=(Aa9.F (p_1,(2:Int),(251:Int),())).bind fun r2=>if (!r2.1.1)=true then some ((false,()),())else l4 k p_1 (2:Int)
theorem of {r} (h:Ev (fun k=>T k p_1) r):F (p_1,())=some r:=Ev.run (fun k=>by kernel_rfl) h
theorem S:a3P prog ⟨202,sig,F⟩:=sound_k (res:=[.tmp 2]) func202 (cok (cM ⟨Aa9.S,nM⟩))
end Aj2
namespace Ak1
noncomputable def sig:Sig:=⟨[pI],[oB]⟩
noncomputable def cfg:Cfg:=cf (cx [⟨202,Aj2.sig,Aj2.F⟩])
noncomputable def fin:=finK cfg.c sig [.tmp 2]
noncomputable def F (d:Int×Unit):OB:=anyK (a9u cfg fin (bd f171) (a6P sig.ps d 5))
variable (p_1:Int)
noncomputable def T:OB:=(Aj2.F (p_1,())).bind fun r2=>some ((r2.1.1,()),())
theorem eq:F (p_1,())=T p_1:=eq_any fun k=>by kernel_rfl
theorem S:a3P prog ⟨171,sig,F⟩:=sound_k (res:=[.tmp 2]) func171 (cok (cM ⟨Aj2.S,nM⟩))
end Ak1
namespace Ad2
noncomputable def sig:Sig:=⟨[qC,pI],[oL]⟩
noncomputable def cfg:Cfg:=cl (cx []) fun id=>match id with|3=>([0,1,5,6],[20])|_=>([],[])
noncomputable def fin:=finK cfg.c sig [.tmp 4]
noncomputable def F (d:LL×Int×Unit):OL:=anyK (a9u cfg fin (bd f61) (a6P sig.ps d 33))
variable (k:Nat) (x3:LL) (i4 i5:Int) (x6:LI)
noncomputable def l3:OL:=Vm.runT cfg fin k [.inLoop (sub [1,1,0,1,0,0] (bd f61)),.inBlock 0,.code (sub [1,1,1] (bd f61))] ⟨[.rptr false [cQ x3],vI i4,dD,dD,dD,.view 20 (.root 0) 1 false,vI i5]++a9B 26,[(20,⟨false,[dL x6]⟩)]⟩
theorem l3_eq:l3 (k+1) x3 i4 i5 x6=if (decide (i5<(x3.length:Int)))=true then if 0≤i5∧i5<(x3.length:Int)then if (((x3.getD i5.toNat ([]:LI)).length:Int)==(za.wrap (i4+1)))=true then if x6.length+[i5].length≤bigA then l3 k x3 i4 (za.wrap (i5+1)) (x6++[i5])else none else l3 k x3 i4 (za.wrap (i5+1)) x6 else none else some ((x6,()),()):=by kernel_rfl
variable (c_1:LL) (dimension_2:Int)
noncomputable def T:OL:=l3 k c_1 dimension_2 (0:Int) ([]:LI)
theorem of {r} (h:Ev (fun k=>T k c_1 dimension_2) r):F (c_1,dimension_2,())=some r:=Ev.run (fun k=>by kernel_rfl) h
theorem S:a3P prog ⟨61,sig,F⟩:=sound_k (res:=[.tmp 4]) func61 (cok nM)
end Ad2
namespace Ad7
noncomputable def sig:Sig:=⟨[qC,pL,pI],[oI]⟩
noncomputable def cfg:Cfg:=cl (cx [⟨61,Ad2.sig,Ad2.F⟩]) fun id=>match id with|4=>([1,7,8,9],[28])|_=>([],[])
noncomputable def fin:=finK cfg.c sig [.tmp 6]
noncomputable def F (d:LL×LI×Int×Unit):OI:=anyK (a9u cfg fin (bd f84) (a6P sig.ps d 29))
variable (k:Nat) (x5:LI) (i6 i7:Int) (x8:LI)
noncomputable def l4:OI:=Vm.runT cfg fin k [.inLoop (sub [1,1,1,0,1,0,0] (bd f84)),.inBlock 0,.code (sub [1,1,1,1] (bd f84))] ⟨[dD,vL x5,dD,dD,dD,dD,dD,.view 28 (.root 0) 1 false,vI i6,vI i7]++a9B 19,[(28,⟨false,[dL x8]⟩)]⟩
theorem l4_eq:l4 (k+1) x5 i6 i7 x8=if (decide (i7<(x8.length:Int)))=true then if 0≤i7∧i7<(x8.length:Int)then if 0≤(x8.getD i7.toNat 0:Int)∧(x8.getD i7.toNat 0:Int)<(x5.length:Int)then l4 k x5 (za.wrap (i6+(x5.getD (x8.getD i7.toNat 0:Int).toNat 0))) (za.wrap (i7+1)) x8 else none else none else some ((i6,()),()):=by kernel_rfl
variable (c_1:LL) (stalks_2:LI) (k_3:Int)
noncomputable def T:OI:=(Ad2.F (c_1,k_3,())).bind fun r4=>l4 k stalks_2 (0:Int) (0:Int) r4.1.1
theorem of {r} (h:Ev (fun k=>T k c_1 stalks_2 k_3) r):F (c_1,stalks_2,k_3,())=some r:=Ev.run (fun k=>by kernel_rfl) h
theorem S:a3P prog ⟨84,sig,F⟩:=sound_k (res:=[.tmp 6]) func84 (cok (cM ⟨Ad2.S,nM⟩))
end Ad7
namespace Ah4
noncomputable def sig:Sig:=⟨[pL,pI,pI],[oB]⟩
noncomputable def cfg:Cfg:=cl (cx [⟨177,Aa9.sig,Aa9.F⟩]) fun id=>match id with|2=>([0,1,2,7],[])|_=>([],[])
noncomputable def fin:=finK cfg.c sig [.tmp 6]
noncomputable def F (d:LI×Int×Int×Unit):OB:=anyK (a9u cfg fin (bd f203) (a6P sig.ps d 26))
variable (k:Nat) (x4:LI) (i5 i6 i7:Int)
noncomputable def l2:OB:=Vm.runT cfg fin k [.inLoop (sub [1,0,1,0,0] (bd f203)),.inBlock 0,.code (sub [1,1] (bd f203))] ⟨[vL x4,vI i5,vI i6,dD,dD,dD,dD,vI i7]++a9B 18,[]⟩
theorem l2_eq:l2 (k+1) x4 i5 i6 i7=if (decide (i7<(x4.length:Int)))=true then if 0≤i7∧i7<(x4.length:Int)then(Aa9.F ((x4.getD i7.toNat 0:Int),(0:Int),za.wrap (i6-1),())).bind fun r8=>if (!r8.1.1)=true then some ((false,()),())else l2 k x4 i5 i6 (za.wrap (i7+1))else none else some (((x4.length:Int)==i5,()),()):=by kernel_rfl
variable (v_1:LI) (n_2 p_3:Int)
noncomputable def T:OB:=l2 k v_1 n_2 p_3 (0:Int)
theorem of {r} (h:Ev (fun k=>T k v_1 n_2 p_3) r):F (v_1,n_2,p_3,())=some r:=Ev.run (fun k=>by kernel_rfl) h
theorem S:a3P prog ⟨203,sig,F⟩:=sound_k (res:=[.tmp 6]) func203 (cok (cM ⟨Aa9.S,nM⟩))
end Ah4
namespace Aj4
noncomputable def sig:Sig:=⟨[qC,pL],[oB]⟩
noncomputable def cfg:Cfg:=cl (cx [⟨84,Ad7.sig,Ad7.F⟩,⟨203,Ah4.sig,Ah4.F⟩]) fun id=>match id with|4=>([0,1,5],[])|_=>([],[])
noncomputable def fin:=finK cfg.c sig [.tmp 4]
noncomputable def F (d:LL×LI×Unit):OB:=anyK (a9u cfg fin (bd f172) (a6P sig.ps d 23))
variable (k:Nat) (x4:LL) (x5:LI) (i6:Int)
noncomputable def l4:OB:=Vm.runT cfg fin k [.inLoop (sub [1,1,0,1,0,0] (bd f172)),.inBlock 0,.code (sub [1,1,1] (bd f172))] ⟨[.rptr false [cQ x4],vL x5,dD,dD,dD,vI i6]++a9B 17,[]⟩
theorem l4_eq:l4 (k+1) x4 x5 i6=if (decide (i6≤3))=true then(Ad7.F (x4,x5,i6,())).bind fun r7=>if (decide (r7.1.1>32))=true then some ((false,()),())else l4 k x4 x5 (za.wrap (i6+1))else some ((true,()),()):=by kernel_rfl
variable (c_1:LL) (stalks_2:LI)
noncomputable def T:OB:=(Ah4.F (stalks_2,(c_1.length:Int),(4:Int),())).bind fun r3=>if (!r3.1.1)=true then some ((false,()),())else l4 k c_1 stalks_2 (0:Int)
theorem of {r} (h:Ev (fun k=>T k c_1 stalks_2) r):F (c_1,stalks_2,())=some r:=Ev.run (fun k=>by kernel_rfl) h
theorem S:a3P prog ⟨172,sig,F⟩:=sound_k (res:=[.tmp 4]) func172 (cok (cM ⟨Ad7.S,cM ⟨Ah4.S,nM⟩⟩))
end Aj4
namespace As4
noncomputable def sig:Sig:=⟨[qC],[oI]⟩
noncomputable def cfg:Cfg:=cf (cx [⟨126,Ac8.sig,Ac8.F⟩])
noncomputable def fin:=finK cfg.c sig [.tmp 2]
noncomputable def F (d:LL×Unit):OI:=anyK (a9u cfg fin (bd f173) (a6P sig.ps d 10))
variable (c_1:LL)
noncomputable def T:OI:=(Ac8.F (c_1,(c_1.length:Int),(0:Int),())).bind fun r2=>some ((r2.1.1,()),())
theorem eq:F (c_1,())=T c_1:=eq_any fun k=>by kernel_rfl
theorem S:a3P prog ⟨173,sig,F⟩:=sound_k (res:=[.tmp 2]) func173 (cok (cM ⟨Ac8.S,nM⟩))
end As4
namespace Aa6
noncomputable def sig:Sig:=⟨[qC,pI],[oL]⟩
noncomputable def cfg:Cfg:=cl (cx [⟨65,Aa0.sig,Aa0.F⟩,⟨125,Ai1.sig,Ai1.F⟩]) fun id=>match id with|4=>([0,5,6,7],[24])|_=>([],[])
noncomputable def fin:=finK cfg.c sig [.tmp 4]
noncomputable def F (d:LL×Int×Unit):OL:=anyK (a9u cfg fin (bd f85) (a6P sig.ps d 36))
variable (k:Nat) (x3:LL) (x4:LI) (i5:Int) (x6:LI)
noncomputable def l4:OL:=Vm.runT cfg fin k [.inLoop (sub [1,1,1,0,1,0,0] (bd f85)),.inBlock 0,.code (sub [1,1,1,1] (bd f85))] ⟨[.rptr false [cQ x3],dD,dD,dD,dD,vL x4,.view 24 (.root 0) 1 false,vI i5]++a9B 28,[(24,⟨false,[dL x6]⟩)]⟩
theorem l4_eq:l4 (k+1) x3 x4 i5 x6=if (decide (i5<(x4.length:Int)))=true then if (decide ((x4.length:Int)>1))=true then(Ai1.F (x4,i5,())).bind fun r7=>(Aa0.F (x3,r7.1.1,())).bind fun r8=>if x6.length+[r8.1.1].length≤bigA then l4 k x3 x4 (za.wrap (i5+1)) (x6++[r8.1.1])else none else some ((x6,()),())else some ((x6,()),()):=by kernel_rfl
variable (c_1:LL) (k_2:Int)
noncomputable def T:OL:=if 0≤k_2∧k_2<(c_1.length:Int)then l4 k c_1 (c_1.getD k_2.toNat ([]:LI)) (0:Int) ([]:LI)else none
theorem of {r} (h:Ev (fun k=>T k c_1 k_2) r):F (c_1,k_2,())=some r:=Ev.run (fun k=>by kernel_rfl) h
theorem S:a3P prog ⟨85,sig,F⟩:=sound_k (res:=[.tmp 4]) func85 (cok (cM ⟨Aa0.S,cM ⟨Ai1.S,nM⟩⟩))
end Aa6
namespace Aq8
noncomputable def sig:Sig:=⟨[qM],[oB]⟩
noncomputable def cfg:Cfg:=cf (cx [⟨171,Ak1.sig,Ak1.F⟩,⟨177,Aa9.sig,Aa9.F⟩,⟨203,Ah4.sig,Ah4.F⟩])
noncomputable def fin:=finK cfg.c sig [.tmp 2]
noncomputable def F (d:MX×Unit):OB:=anyK (a9u cfg fin (bd f204) (a6P sig.ps d 42))
variable (m_1 m_2 m_3:Int) (m_4:LI)
noncomputable def T:OB:=(Ak1.F (m_1,())).bind fun r5=>if r5.1.1=true then(Aa9.F (m_2,(0:Int),(32:Int),())).bind fun r6=>if r6.1.1=true then(Aa9.F (m_3,(0:Int),(32:Int),())).bind fun r7=>if r7.1.1=true then(Ah4.F (m_4,za.wrap (m_2*m_3),m_1,())).bind fun r8=>some ((r8.1.1,()),())else some ((false,()),())else some ((false,()),())else some ((false,()),())
theorem eq:F ((m_1,(m_2,(m_3,m_4))),())=T m_1 m_2 m_3 m_4:=eq_any fun k=>by kernel_rfl
theorem S:a3P prog ⟨204,sig,F⟩:=sound_k (res:=[.tmp 2]) func204 (cok (cM ⟨Ak1.S,cM ⟨Aa9.S,cM ⟨Ah4.S,nM⟩⟩⟩))
end Aq8
namespace Ar1
noncomputable def sig:Sig:=⟨[qS,pI,pI,qM],[oB]⟩
noncomputable def cfg:Cfg:=cf (cx [⟨85,Aa6.sig,Aa6.F⟩,⟨204,Aq8.sig,Aq8.F⟩])
noncomputable def fin:=finK cfg.c sig [.tmp 8]
noncomputable def F (d:SF×Int×Int×MX×Unit):OB:=anyK (a9u cfg fin (bd f174) (a6P sig.ps d 59))
noncomputable def T (s_1:LL) (s_2:Int) (s_3:LI) (s_4:LM) (simplex_5 i_6 m_7 m_8 m_9:Int) (m_10:LI):OB:=(Aa6.F (s_1,simplex_5,())).bind fun r11=>if 0≤i_6∧i_6<(r11.1.1.length:Int)then(Aq8.F ((m_7,(m_8,(m_9,m_10))),())).bind fun r12=>if r12.1.1=true then if (m_7==s_2)=true then if 0≤simplex_5∧simplex_5<(s_3.length:Int)then if (m_8==(s_3.getD simplex_5.toNat 0:Int))=true then if 0≤(r11.1.1.getD i_6.toNat 0:Int)∧(r11.1.1.getD i_6.toNat 0:Int)<(s_3.length:Int)then some ((m_9==(s_3.getD (r11.1.1.getD i_6.toNat 0:Int).toNat 0),()),())else none else some ((false,()),())else none else some ((false,()),())else some ((false,()),())else none
theorem eq (s_1:LL) (s_2:Int) (s_3:LI) (s_4:LM) (simplex_5 i_6 m_7 m_8 m_9:Int) (m_10:LI):F ((s_1,(s_2,(s_3,s_4))),simplex_5,i_6,(m_7,(m_8,(m_9,m_10))),())=T s_1 s_2 s_3 s_4 simplex_5 i_6 m_7 m_8 m_9 m_10:=eq_any fun k=>by kernel_rfl
theorem S:a3P prog ⟨174,sig,F⟩:=sound_k (res:=[.tmp 8]) func174 (cok (cM ⟨Aa6.S,cM ⟨Aq8.S,nM⟩⟩))
end Ar1
namespace Ab5
noncomputable def sig:Sig:=⟨[qS],[oB]⟩
noncomputable def cfg:Cfg:=cl (cx [⟨98,Aa7.sig,Aa7.F⟩,⟨126,Ac8.sig,Ac8.F⟩,⟨171,Ak1.sig,Ak1.F⟩,⟨172,Aj4.sig,Aj4.F⟩,⟨173,As4.sig,As4.F⟩,⟨174,Ar1.sig,Ar1.F⟩]) fun id=>match id with|4=>([0,3],[])|7=>([0,3,4],[])|_=>([],[])
noncomputable def fin:=finK cfg.c sig [.tmp 2]
noncomputable def F (d:SF×Unit):OB:=anyK (a9u cfg fin (bd f135) (a6P sig.ps d 92))
variable (k:Nat) (x9:LL) (i10:Int) (x11:LI) (x12:LM) (i13:Int)
noncomputable def l4:OB:=Vm.runT cfg fin k [.inLoop (sub [1,1,0,1,0,0] (bd f135)),.inBlock 0,.code (sub [1,1,1] (bd f135))] ⟨[.rptr false [cQ x9,cI i10,cL x11,⟨(.sl TMatrix),.sh,x12⟩],dD,dD,vI i13]++a9B 88,[]⟩
variable (x14:LL) (i15:Int) (x16:LI) (x17:LM) (i18 i19:Int)
noncomputable def l7:OB:=Vm.runT cfg fin k [.inLoop (sub [1,1,0,1,0,0,1,0,0,1,0,0] (bd f135)),.inBlock 2,.inBlock 1,.code (sub [1,1,0,1,0,0,1,1] (bd f135)),.inLoop (sub [1,1,0,1,0,0] (bd f135)),.inBlock 0,.code (sub [1,1,1] (bd f135))] ⟨[.rptr false [cQ x14,cI i15,cL x16,⟨(.sl TMatrix),.sh,x17⟩],dD,dD,vI i18,vI i19]++a9B 87,[]⟩
theorem l4_eq:l4 (k+1) x9 i10 x11 x12 i13=if (decide (i13<(x9.length:Int)))=true then l7 k x9 i10 x11 x12 i13 (0:Int)else some ((true,()),()):=by kernel_rfl
theorem l7_eq:l7 (k+1) x14 i15 x16 x17 i18 i19=if 0≤i18∧i18<(x14.length:Int)then if (decide (i19<((x14.getD i18.toNat ([]:LI)).length:Int)))=true then if 0≤i18∧i18<(x14.length:Int)then if (decide (((x14.getD i18.toNat ([]:LI)).length:Int)>1))=true then(Ac8.F (x14,i18,i19,())).bind fun r20=>if 0≤r20.1.1∧r20.1.1<(x17.length:Int)then(Ar1.F ((x14,(i15,(x16,x17))),i18,i19,x17.getD r20.1.1.toNat (0,0,0,([]:LI)),())).bind fun r21=>if (!r21.1.1)=true then some ((false,()),())else l7 k x14 i15 x16 x17 i18 (za.wrap (i19+1))else none else l4 k x14 i15 x16 x17 (za.wrap (i18+1))else none else l4 k x14 i15 x16 x17 (za.wrap (i18+1))else none:=by kernel_rfl
variable (t_1:LL) (t_2:Int) (t_3:LI) (t_4:LM)
noncomputable def T:OB:=(Aa7.F (t_1,())).bind fun r5=>if (!r5.1.1)=true then some ((false,()),())else(Ak1.F (t_2,())).bind fun r6=>if (!r6.1.1)=true then some ((false,()),())else(Aj4.F (t_1,t_3,())).bind fun r7=>if (!r7.1.1)=true then some ((false,()),())else(As4.F (t_1,())).bind fun r8=>if ((t_4.length:Int)!=r8.1.1)=true then some ((false,()),())else l4 k t_1 t_2 t_3 t_4 (0:Int)
theorem of {r} (h:Ev (fun k=>T k t_1 t_2 t_3 t_4) r):F ((t_1,(t_2,(t_3,t_4))),())=some r:=Ev.run (fun k=>by kernel_rfl) h
theorem S:a3P prog ⟨135,sig,F⟩:=sound_k (res:=[.tmp 2]) func135 (cok (cM ⟨Aa7.S,cM ⟨Ac8.S,cM ⟨Ak1.S,cM ⟨Aj4.S,cM ⟨As4.S,cM ⟨Ar1.S,nM⟩⟩⟩⟩⟩⟩))
end Ab5
namespace Ab0
noncomputable def sig:Sig:=⟨[qS,pI,pI],[(.ptr,TMatrix,.sh)]⟩
noncomputable def cfg:Cfg:=cf (cx [⟨126,Ac8.sig,Ac8.F⟩])
noncomputable def fin:=finK cfg.c sig [.tmp 6]
noncomputable def F (d:SF×Int×Int×Unit):OM:=anyK (a9u cfg fin (bd f87) (a6P sig.ps d 18))
noncomputable def T (s_1:LL) (s_2:Int) (s_3:LI) (s_4:LM) (simplex_5 i_6:Int):OM:=(Ac8.F (s_1,simplex_5,i_6,())).bind fun r7=>if 0≤r7.1.1∧r7.1.1<(s_4.length:Int)then some ((s_4.getD r7.1.1.toNat (0,0,0,([]:LI)),()),())else none
theorem eq (s_1:LL) (s_2:Int) (s_3:LI) (s_4:LM) (simplex_5 i_6:Int):F ((s_1,(s_2,(s_3,s_4))),simplex_5,i_6,())=T s_1 s_2 s_3 s_4 simplex_5 i_6:=eq_any fun k=>by kernel_rfl
theorem S:a3P prog ⟨87,sig,F⟩:=sound_k (res:=[.tmp 6]) func87 (cok (cM ⟨Ac8.S,nM⟩))
end Ab0
namespace Af5
noncomputable def sig:Sig:=⟨[pI,pI,pI],[oM]⟩
noncomputable def cfg:Cfg:=cf (cx [])
noncomputable def fin:=finK cfg.c sig [.cell 6 65]
noncomputable def F (d:Int×Int×Int×Unit):OM:=anyK (a9u cfg fin (bd f101) (a6P sig.ps d 15))
variable (p_1 rows_2 columns_3:Int)
noncomputable def T:OM:=if 0≤(za.wrap (rows_2*columns_3))∧(za.wrap (rows_2*columns_3))≤(bigN:Int)then some (((p_1,(rows_2,(columns_3,zb (za.wrap (rows_2*columns_3)).toNat (0:Int)))),()),())else none
theorem eq:F (p_1,rows_2,columns_3,())=T p_1 rows_2 columns_3:=eq_any fun k=>by kernel_rfl
theorem S:a3P prog ⟨101,sig,F⟩:=sound_k (res:=[.cell 6 65]) func101 (cok nM)
end Af5
namespace Ad4
noncomputable def sig:Sig:=⟨[qM,qM],[oM]⟩
noncomputable def cfg:Cfg:=cl (cx [⟨101,Af5.sig,Af5.F⟩]) fun id=>match id with|3=>([0,1,4,5,6],[16,20])|6=>([0,1,4,5,6,7],[16,20])|10=>([0,1,4,5,6,7,8,9],[16,20])|_=>([],[])
noncomputable def fin:=finK cfg.c sig [.cell 4 65]
noncomputable def F (d:MX×MX×Unit):OM:=anyK (a9u cfg fin (bd f201) (a6P sig.ps d 96))
variable (k:Nat) (i10 i11 i12:Int) (x13:LI) (i14 i15 i16:Int) (x17:LI) (i18 i19 i20 i21:Int) (x22:LI) (i23 i24 i25:Int) (x26:LI)
noncomputable def l3:OM:=Vm.runT cfg fin k [.inLoop (sub [1,1,0,1,0,0] (bd f201)),.inBlock 0,.code (sub [1,1,1] (bd f201))] ⟨[.rptr false [cI i10,cI i11,cI i12,cL x13],.rptr false [cI i14,cI i15,cI i16,cL x17],dD,dD,.ref 16 (.root 0),.ref 20 (.root 0),vI i18]++a9B 89,[(16,⟨true,[cI i19,cI i20,cI i21,dL x22]⟩),(20,⟨true,[cI i23,cI i24,cI i25,dL x26]⟩)]⟩
variable (i27 i28 i29:Int) (x30:LI) (i31 i32 i33:Int) (x34:LI) (i35 i36 i37 i38 i39:Int) (x40:LI) (i41 i42 i43:Int) (x44:LI)
noncomputable def l6:OM:=Vm.runT cfg fin k [.inLoop (sub [1,1,0,1,0,0,1,0,0,1,0,0] (bd f201)),.inBlock 2,.inBlock 1,.code (sub [1,1,0,1,0,0,1,1] (bd f201)),.inLoop (sub [1,1,0,1,0,0] (bd f201)),.inBlock 0,.code (sub [1,1,1] (bd f201))] ⟨[.rptr false [cI i27,cI i28,cI i29,cL x30],.rptr false [cI i31,cI i32,cI i33,cL x34],dD,dD,.ref 16 (.root 0),.ref 20 (.root 0),vI i35,vI i36]++a9B 88,[(16,⟨true,[cI i37,cI i38,cI i39,dL x40]⟩),(20,⟨true,[cI i41,cI i42,cI i43,dL x44]⟩)]⟩
variable (i45 i46 i47:Int) (x48:LI) (i49 i50 i51:Int) (x52:LI) (i53 i54 i55 i56 i57 i58 i59:Int) (x60:LI) (i61 i62 i63:Int) (x64:LI)
noncomputable def l10:OM:=Vm.runT cfg fin k [.inLoop (sub [1,1,0,1,0,0,1,0,0,1,0,0,1,0,0,1,0,1,0,0] (bd f201)),.inBlock 4,.code (sub [1,1,0,1,0,0,1,0,0,1,0,0,1,0,0,1,1] (bd f201)),.inBlock 3,.code (sub [1,1,0,1,0,0,1,0,0,1,0,0,1,1] (bd f201)),.inLoop (sub [1,1,0,1,0,0,1,0,0,1,0,0] (bd f201)),.inBlock 2,.inBlock 1,.code (sub [1,1,0,1,0,0,1,1] (bd f201)),.inLoop (sub [1,1,0,1,0,0] (bd f201)),.inBlock 0,.code (sub [1,1,1] (bd f201))] ⟨[.rptr false [cI i45,cI i46,cI i47,cL x48],.rptr false [cI i49,cI i50,cI i51,cL x52],dD,dD,.ref 16 (.root 0),.ref 20 (.root 0),vI i53,vI i54,vI i55,vI i56]++a9B 86,[(16,⟨true,[cI i57,cI i58,cI i59,dL x60]⟩),(20,⟨true,[cI i61,cI i62,cI i63,dL x64]⟩)]⟩
theorem l3_eq:l3 (k+1) i10 i11 i12 x13 i14 i15 i16 x17 i18 i19 i20 i21 x22 i23 i24 i25 x26=if (decide (i18<i11))=true then l6 k i10 i11 i12 x13 i14 i15 i16 x17 i18 (0:Int) i19 i20 i21 x22 i23 i24 i25 x26 else some (((i23,(i24,(i25,x26))),()),()):=by kernel_rfl
theorem l6_eq:l6 (k+1) i27 i28 i29 x30 i31 i32 i33 x34 i35 i36 i37 i38 i39 x40 i41 i42 i43 x44=if (decide (i36<i33))=true then l10 k i27 i28 i29 x30 i31 i32 i33 x34 i35 i36 (0:Int) (0:Int) i37 i38 i39 x40 i41 i42 i43 x44 else l3 k i27 i28 i29 x30 i31 i32 i33 x34 (za.wrap (i35+1)) i37 i38 i39 x40 i41 i42 i43 x44:=by kernel_rfl
theorem l10_eq:l10 (k+1) i45 i46 i47 x48 i49 i50 i51 x52 i53 i54 i55 i56 i57 i58 i59 x60 i61 i62 i63 x64=if (decide (i56<i47))=true then if 0≤(za.wrap ((za.wrap (i53*i47))+i56))∧(za.wrap ((za.wrap (i53*i47))+i56))<(x48.length:Int)then if 0≤(za.wrap ((za.wrap (i56*i51))+i54))∧(za.wrap ((za.wrap (i56*i51))+i54))<(x52.length:Int)then l10 k i45 i46 i47 x48 i49 i50 i51 x52 i53 i54 (za.wrap (i55+(za.wrap ((x48.getD (za.wrap ((za.wrap (i53*i47))+i56)).toNat 0:Int)*(x52.getD (za.wrap ((za.wrap (i56*i51))+i54)).toNat 0:Int))))) (za.wrap (i56+1)) i57 i58 i59 x60 i61 i62 i63 x64 else none else none else if i45=0 then none else if 0≤(za.wrap ((za.wrap (i53*i51))+i54))∧(za.wrap ((za.wrap (i53*i51))+i54))<(x64.length:Int)then l6 k i45 i46 i47 x48 i49 i50 i51 x52 i53 (za.wrap (i54+1)) i57 i58 i59 x60 i61 i62 i63 (x64.set (za.wrap ((za.wrap (i53*i51))+i54)).toNat (i55.tmod i45))else none:=by kernel_rfl
variable (t_1 t_2 t_3:Int) (t_4:LI) (a_5 a_6 a_7:Int) (a_8:LI)
noncomputable def T:OM:=(Af5.F (t_1,t_2,a_7,())).bind fun r9=>l3 k t_1 t_2 t_3 t_4 a_5 a_6 a_7 a_8 (0:Int) 0 0 0 ([]) r9.1.1.1 r9.1.1.2.1 r9.1.1.2.2.1 r9.1.1.2.2.2
theorem of {r} (h:Ev (fun k=>T k t_1 t_2 t_3 t_4 a_5 a_6 a_7 a_8) r):F ((t_1,(t_2,(t_3,t_4))),(a_5,(a_6,(a_7,a_8))),())=some r:=Ev.run (fun k=>by kernel_rfl) h
theorem S:a3P prog ⟨201,sig,F⟩:=sound_k (res:=[.cell 4 65]) func201 (cok (cM ⟨Af5.S,nM⟩))
end Ad4
namespace Ai2
noncomputable def sig:Sig:=⟨[qS,pI,pI,pI],[oM]⟩
noncomputable def cfg:Cfg:=cf (cx [⟨85,Aa6.sig,Aa6.F⟩,⟨87,Ab0.sig,Ab0.F⟩,⟨201,Ad4.sig,Ad4.F⟩])
noncomputable def fin:=finK cfg.c sig [.cell 8 65]
noncomputable def F (d:SF×Int×Int×Int×Unit):OM:=anyK (a9u cfg fin (bd f175) (a6P sig.ps d 32))
variable (s_1:LL) (s_2:Int) (s_3:LI) (s_4:LM) (simplex_5 i_6 j_7:Int)
noncomputable def T:OM:=(Aa6.F (s_1,simplex_5,())).bind fun r8=>if 0≤i_6∧i_6<(r8.1.1.length:Int)then if (decide (j_7>i_6))=true then(Ab0.F ((s_1,(s_2,(s_3,s_4))),simplex_5,i_6,())).bind fun r9=>(Ab0.F ((s_1,(s_2,(s_3,s_4))),(r8.1.1.getD i_6.toNat 0:Int),za.wrap (j_7-(1:Int)),())).bind fun r10=>(Ad4.F (r9.1.1,r10.1.1,())).bind fun r11=>some ((r11.1.1,()),())else(Ab0.F ((s_1,(s_2,(s_3,s_4))),simplex_5,i_6,())).bind fun r12=>(Ab0.F ((s_1,(s_2,(s_3,s_4))),(r8.1.1.getD i_6.toNat 0:Int),j_7,())).bind fun r13=>(Ad4.F (r12.1.1,r13.1.1,())).bind fun r14=>some ((r14.1.1,()),())else none
theorem eq:F ((s_1,(s_2,(s_3,s_4))),simplex_5,i_6,j_7,())=T s_1 s_2 s_3 s_4 simplex_5 i_6 j_7:=eq_any fun k=>by kernel_rfl
theorem S:a3P prog ⟨175,sig,F⟩:=sound_k (res:=[.cell 8 65]) func175 (cok (cM ⟨Aa6.S,cM ⟨Ab0.S,cM ⟨Ad4.S,nM⟩⟩⟩))
end Ai2
namespace Af0
noncomputable def sig:Sig:=⟨[qM,qM],[oB]⟩
noncomputable def cfg:Cfg:=cl (cx []) fun id=>match id with|4=>([0,1,5],[])|_=>([],[])
noncomputable def fin:=finK cfg.c sig [.tmp 4]
noncomputable def F (d:MX×MX×Unit):OB:=anyK (a9u cfg fin (bd f176) (a6P sig.ps d 74))
variable (k:Nat) (i9 i10 i11:Int) (x12:LI) (i13 i14 i15:Int) (x16:LI) (i17:Int)
noncomputable def l4:OB:=Vm.runT cfg fin k [.inLoop (sub [1,1,0,1,0,0] (bd f176)),.inBlock 0,.code (sub [1,1,1] (bd f176))] ⟨[.rptr false [cI i9,cI i10,cI i11,cL x12],.rptr false [cI i13,cI i14,cI i15,cL x16],dD,dD,dD,vI i17]++a9B 68,[]⟩
theorem l4_eq:l4 (k+1) i9 i10 i11 x12 i13 i14 i15 x16 i17=if (decide (i17<(x12.length:Int)))=true then if 0≤i17∧i17<(x12.length:Int)then if 0≤i17∧i17<(x16.length:Int)then if ((x12.getD i17.toNat 0:Int)!=(x16.getD i17.toNat 0:Int))=true then some ((false,()),())else l4 k i9 i10 i11 x12 i13 i14 i15 x16 (za.wrap (i17+1))else none else none else some ((true,()),()):=by kernel_rfl
variable (t_1 t_2 t_3:Int) (t_4:LI) (a_5 a_6 a_7:Int) (a_8:LI)
noncomputable def T:OB:=if (t_1 !=a_5)=true then some ((false,()),())else if (t_2 !=a_6)=true then some ((false,()),())else if (t_3 !=a_7)=true then some ((false,()),())else if ((t_4.length:Int)!=(a_8.length:Int))=true then some ((false,()),())else l4 k t_1 t_2 t_3 t_4 a_5 a_6 a_7 a_8 (0:Int)
theorem of {r} (h:Ev (fun k=>T k t_1 t_2 t_3 t_4 a_5 a_6 a_7 a_8) r):F ((t_1,(t_2,(t_3,t_4))),(a_5,(a_6,(a_7,a_8))),())=some r:=Ev.run (fun k=>by kernel_rfl) h
theorem S:a3P prog ⟨176,sig,F⟩:=sound_k (res:=[.tmp 4]) func176 (cok nM)
end Af0
namespace Ac9
noncomputable def sig:Sig:=⟨[qS],[oI,oI,oI]⟩
noncomputable def cfg:Cfg:=cl (cx [⟨175,Ai2.sig,Ai2.F⟩,⟨176,Af0.sig,Af0.F⟩]) fun id=>match id with|2=>([0,5],[])|6=>([0,5,6,7],[])|9=>([0,5,6,7,8],[])|_=>([],[])
noncomputable def fin:=finK cfg.c sig [.tmp 2,.tmp 3,.tmp 4]
noncomputable def F (d:SF×Unit):Option ((Int×Int×Int×Unit)×(Unit)):=anyK (a9u cfg fin (bd f136) (a6P sig.ps d 61))
variable (k:Nat) (x5:LL) (i6:Int) (x7:LI) (x8:LM) (i9:Int)
noncomputable def l2:Option ((Int×Int×Int×Unit)×(Unit)):=Vm.runT cfg fin k [.inLoop (sub [1,0,1,0,0] (bd f136)),.inBlock 0,.code (sub [1,1] (bd f136))] ⟨[.rptr false [cQ x5,cI i6,cL x7,⟨(.sl TMatrix),.sh,x8⟩],dD,dD,dD,dD,vI i9]++a9B 55,[]⟩
variable (x10:LL) (i11:Int) (x12:LI) (x13:LM) (i14 i15 i16:Int)
noncomputable def l6:Option ((Int×Int×Int×Unit)×(Unit)):=Vm.runT cfg fin k [.inLoop (sub [1,0,1,0,0,1,0,0,1,1,0,0] (bd f136)),.inBlock 2,.inBlock 1,.code (sub [1,0,1,0,0,1,1] (bd f136)),.inLoop (sub [1,0,1,0,0] (bd f136)),.inBlock 0,.code (sub [1,1] (bd f136))] ⟨[.rptr false [cQ x10,cI i11,cL x12,⟨(.sl TMatrix),.sh,x13⟩],dD,dD,dD,dD,vI i14,vI i15,vI i16]++a9B 53,[]⟩
variable (x17:LL) (i18:Int) (x19:LI) (x20:LM) (i21 i22 i23 i24:Int)
noncomputable def l9:Option ((Int×Int×Int×Unit)×(Unit)):=Vm.runT cfg fin k [.inLoop (sub [1,0,1,0,0,1,0,0,1,1,0,0,1,0,0,1,0,0] (bd f136)),.inBlock 4,.inBlock 3,.code (sub [1,0,1,0,0,1,0,0,1,1,0,0,1,1] (bd f136)),.inLoop (sub [1,0,1,0,0,1,0,0,1,1,0,0] (bd f136)),.inBlock 2,.inBlock 1,.code (sub [1,0,1,0,0,1,1] (bd f136)),.inLoop (sub [1,0,1,0,0] (bd f136)),.inBlock 0,.code (sub [1,1] (bd f136))] ⟨[.rptr false [cQ x17,cI i18,cL x19,⟨(.sl TMatrix),.sh,x20⟩],dD,dD,dD,dD,vI i21,vI i22,vI i23,vI i24]++a9B 52,[]⟩
theorem l2_eq:l2 (k+1) x5 i6 x7 x8 i9=if (decide (i9<(x5.length:Int)))=true then if 0≤i9∧i9<(x5.length:Int)then l6 k x5 i6 x7 x8 i9 ((x5.getD i9.toNat ([]:LI)).length:Int) (0:Int)else none else some (((-1:Int),((0:Int),((0:Int),()))),()):=by kernel_rfl
theorem l6_eq:l6 (k+1) x10 i11 x12 x13 i14 i15 i16=if (decide (i16<i15))=true then if (decide (i15>2))=true then l9 k x10 i11 x12 x13 i14 i15 i16 (za.wrap (i16+1))else l2 k x10 i11 x12 x13 (za.wrap (i14+1))else l2 k x10 i11 x12 x13 (za.wrap (i14+1)):=by kernel_rfl
theorem l9_eq:l9 (k+1) x17 i18 x19 x20 i21 i22 i23 i24=if (decide (i24<i22))=true then(Ai2.F ((x17,(i18,(x19,x20))),i21,i23,i24,())).bind fun r25=>(Ai2.F ((x17,(i18,(x19,x20))),i21,i24,i23,())).bind fun r26=>(Af0.F (r25.1.1,r26.1.1,())).bind fun r27=>if (!r27.1.1)=true then some ((i21,(i23,(i24,()))),())else l9 k x17 i18 x19 x20 i21 i22 i23 (za.wrap (i24+1))else l6 k x17 i18 x19 x20 i21 i22 (za.wrap (i23+1)):=by kernel_rfl
variable (s_1:LL) (s_2:Int) (s_3:LI) (s_4:LM)
noncomputable def T:Option ((Int×Int×Int×Unit)×(Unit)):=l2 k s_1 s_2 s_3 s_4 (0:Int)
theorem of {r} (h:Ev (fun k=>T k s_1 s_2 s_3 s_4) r):F ((s_1,(s_2,(s_3,s_4))),())=some r:=Ev.run (fun k=>by kernel_rfl) h
theorem S:a3P prog ⟨136,sig,F⟩:=sound_k (res:=[.tmp 2,.tmp 3,.tmp 4]) func136 (cok (cM ⟨Ai2.S,cM ⟨Af0.S,nM⟩⟩))
end Ac9
namespace Af8
noncomputable def sig:Sig:=⟨[qS],[oB]⟩
noncomputable def cfg:Cfg:=cf (cx [⟨135,Ab5.sig,Ab5.F⟩,⟨136,Ac9.sig,Ac9.F⟩])
noncomputable def fin:=finK cfg.c sig [.tmp 2]
noncomputable def F (d:SF×Unit):OB:=anyK (a9u cfg fin (bd f97) (a6P sig.ps d 17))
variable (s_1:LL) (s_2:Int) (s_3:LI) (s_4:LM)
noncomputable def T:OB:=(Ab5.F ((s_1,(s_2,(s_3,s_4))),())).bind fun r5=>if (!r5.1.1)=true then some ((false,()),())else(Ac9.F ((s_1,(s_2,(s_3,s_4))),())).bind fun r6=>some ((decide (r6.1.1<0),()),())
theorem eq:F ((s_1,(s_2,(s_3,s_4))),())=T s_1 s_2 s_3 s_4:=eq_any fun k=>by kernel_rfl
theorem S:a3P prog ⟨97,sig,F⟩:=sound_k (res:=[.tmp 2]) func97 (cok (cM ⟨Ab5.S,cM ⟨Ac9.S,nM⟩⟩))
end Af8
namespace Ae7
noncomputable def sig:Sig:=⟨[qC,qC,qC],[oB]⟩
noncomputable def cfg:Cfg:=cl (cx [⟨45,Ac5.sig,Ac5.F⟩,⟨65,Aa0.sig,Aa0.F⟩]) fun id=>match id with|6=>([0,1,2,9],[])|_=>([],[])
noncomputable def fin:=finK cfg.c sig [.tmp 6]
noncomputable def F (d:LL×LL×LL×Unit):OB:=anyK (a9u cfg fin (bd f99) (a6P sig.ps d 67))
variable (k:Nat) (x6 x7 x8:LL) (i9:Int)
noncomputable def l6:OB:=Vm.runT cfg fin k [.inLoop (sub [1,1,1,1,0,1,0,0] (bd f99)),.inBlock 0,.code (sub [1,1,1,1,1] (bd f99))] ⟨[.rptr false [cQ x6],.rptr false [cQ x7],.rptr false [cQ x8],dD,dD,dD,dD,dD,dD,vI i9]++a9B 57,[]⟩
theorem l6_eq:l6 (k+1) x6 x7 x8 i9=if (decide (i9<(x6.length:Int)))=true then if 0≤i9∧i9<(x6.length:Int)then(Aa0.F (x7,x6.getD i9.toNat ([]:LI),())).bind fun r10=>if (decide (r10.1.1<0))=true then if 0≤i9∧i9<(x6.length:Int)then(Aa0.F (x8,x6.getD i9.toNat ([]:LI),())).bind fun r11=>if (decide (r11.1.1<0))=true then some ((false,()),())else l6 k x6 x7 x8 (za.wrap (i9+1))else none else l6 k x6 x7 x8 (za.wrap (i9+1))else none else some ((true,()),()):=by kernel_rfl
variable (t_1 a_2 a_3:LL)
noncomputable def T:OB:=(Ac5.F (a_2,t_1,())).bind fun r4=>(Ac5.F (a_3,t_1,())).bind fun r5=>if ((r4.1.1.length:Int)!=(a_2.length:Int))=true then some ((false,()),())else if ((r5.1.1.length:Int)!=(a_3.length:Int))=true then some ((false,()),())else l6 k t_1 a_2 a_3 (0:Int)
theorem of {r} (h:Ev (fun k=>T k t_1 a_2 a_3) r):F (t_1,a_2,a_3,())=some r:=Ev.run (fun k=>by kernel_rfl) h
theorem S:a3P prog ⟨99,sig,F⟩:=sound_k (res:=[.tmp 6]) func99 (cok (cM ⟨Ac5.S,cM ⟨Aa0.S,nM⟩⟩))
end Ae7
namespace Al8
noncomputable def sig:Sig:=⟨[qS,qC,qC],[oI]⟩
noncomputable def cfg:Cfg:=cf (cx [⟨97,Af8.sig,Af8.F⟩,⟨98,Aa7.sig,Aa7.F⟩,⟨99,Ae7.sig,Ae7.F⟩])
noncomputable def fin:=finK cfg.c sig [.tmp 6]
noncomputable def F (d:SF×LL×LL×Unit):OI:=anyK (a9u cfg fin (bd f59) (a6P sig.ps d 27))
variable (s_1:LL) (s_2:Int) (s_3:LI) (s_4:LM) (a_5 b_6:LL)
noncomputable def T:OI:=(Af8.F ((s_1,(s_2,(s_3,s_4))),())).bind fun r7=>if (!r7.1.1)=true then some ((1,()),())else(Aa7.F (a_5,())).bind fun r8=>if (!r8.1.1)=true then some ((1,()),())else(Aa7.F (b_6,())).bind fun r9=>if (!r9.1.1)=true then some ((1,()),())else(Ae7.F (s_1,a_5,b_6,())).bind fun r10=>if (!r10.1.1)=true then some ((6,()),())else some ((0,()),())
theorem eq:F ((s_1,(s_2,(s_3,s_4))),a_5,b_6,())=T s_1 s_2 s_3 s_4 a_5 b_6:=eq_any fun k=>by kernel_rfl
theorem S:a3P prog ⟨59,sig,F⟩:=sound_k (res:=[.tmp 6]) func59 (cok (cM ⟨Af8.S,cM ⟨Aa7.S,cM ⟨Ae7.S,nM⟩⟩⟩))
end Al8
namespace An7
noncomputable def sig:Sig:=⟨[qC,qC],[oB]⟩
noncomputable def cfg:Cfg:=cl (cx [⟨65,Aa0.sig,Aa0.F⟩]) fun id=>match id with|2=>([0,1,5],[])|_=>([],[])
noncomputable def fin:=finK cfg.c sig [.tmp 4]
noncomputable def F (d:LL×LL×Unit):OB:=anyK (a9u cfg fin (bd f122) (a6P sig.ps d 25))
variable (k:Nat) (x3 x4:LL) (i5:Int)
noncomputable def l2:OB:=Vm.runT cfg fin k [.inLoop (sub [1,0,1,0,0] (bd f122)),.inBlock 0,.code (sub [1,1] (bd f122))] ⟨[.rptr false [cQ x3],.rptr false [cQ x4],dD,dD,dD,vI i5]++a9B 19,[]⟩
theorem l2_eq:l2 (k+1) x3 x4 i5=if (decide (i5<(x3.length:Int)))=true then if 0≤i5∧i5<(x3.length:Int)then(Aa0.F (x4,x3.getD i5.toNat ([]:LI),())).bind fun r6=>if (decide (r6.1.1<0))=true then some ((false,()),())else l2 k x3 x4 (za.wrap (i5+1))else none else some ((true,()),()):=by kernel_rfl
variable (part_1 c_2:LL)
noncomputable def T:OB:=l2 k part_1 c_2 (0:Int)
theorem of {r} (h:Ev (fun k=>T k part_1 c_2) r):F (part_1,c_2,())=some r:=Ev.run (fun k=>by kernel_rfl) h
theorem S:a3P prog ⟨122,sig,F⟩:=sound_k (res:=[.tmp 4]) func122 (cok (cM ⟨Aa0.S,nM⟩))
end An7
namespace Am9
noncomputable def sig:Sig:=⟨[pL,pI],[oL]⟩
noncomputable def cfg:Cfg:=cl (cx []) fun id=>match id with|4=>([0,1,5,6,7],[20])|_=>([],[])
noncomputable def fin:=finK cfg.c sig [.tmp 4]
noncomputable def F (d:LI×Int×Unit):OL:=anyK (a9u cfg fin (bd f197) (a6P sig.ps d 49))
variable (k:Nat) (x3:LI) (i4:Int) (b5:Bool) (i6:Int) (x7:LI)
noncomputable def l4:OL:=Vm.runT cfg fin k [.inLoop (sub [1,1,1,0,1,0,0] (bd f197)),.inBlock 0,.code (sub [1,1,1,1] (bd f197))] ⟨[vL x3,vI i4,dD,dD,dD,.view 20 (.root 0) 1 false,.val false [⟨.bool,.sh,b5⟩],vI i6]++a9B 41,[(20,⟨false,[dL x7]⟩)]⟩
theorem l4_eq:l4 (k+1) x3 i4 b5 i6 x7=if (decide (i6<(x3.length:Int)))=true then if (!b5)=true then if 0≤i6∧i6<(x3.length:Int)then if (decide ((x3.getD i6.toNat 0:Int)≥i4))=true then if 0≤i6∧i6<(x3.length:Int)then if (decide ((x3.getD i6.toNat 0:Int)>i4))=true then if x7.length+[i4].length≤bigA then if 0≤i6∧i6<(x3.length:Int)then if (x7++[i4]).length+[(x3.getD i6.toNat 0:Int)].length≤bigA then l4 k x3 i4 true (za.wrap (i6+1)) ((x7++[i4])++[(x3.getD i6.toNat 0:Int)])else none else none else none else if 0≤i6∧i6<(x3.length:Int)then if x7.length+[(x3.getD i6.toNat 0:Int)].length≤bigA then l4 k x3 i4 true (za.wrap (i6+1)) (x7++[(x3.getD i6.toNat 0:Int)])else none else none else none else if 0≤i6∧i6<(x3.length:Int)then if x7.length+[(x3.getD i6.toNat 0:Int)].length≤bigA then l4 k x3 i4 b5 (za.wrap (i6+1)) (x7++[(x3.getD i6.toNat 0:Int)])else none else none else none else if 0≤i6∧i6<(x3.length:Int)then if x7.length+[(x3.getD i6.toNat 0:Int)].length≤bigA then l4 k x3 i4 b5 (za.wrap (i6+1)) (x7++[(x3.getD i6.toNat 0:Int)])else none else none else if (!b5)=true then if x7.length+[i4].length≤bigA then some ((x7++[i4],()),())else none else some ((x7,()),()):=by kernel_rfl
variable (list_1:LI) (n_2:Int)
noncomputable def T:OL:=l4 k list_1 n_2 false (0:Int) ([]:LI)
theorem of {r} (h:Ev (fun k=>T k list_1 n_2) r):F (list_1,n_2,())=some r:=Ev.run (fun k=>by kernel_rfl) h
theorem S:a3P prog ⟨197,sig,F⟩:=sound_k (res:=[.tmp 4]) func197 (cok nM)
end Am9
namespace An6
noncomputable def sig:Sig:=⟨[qC,pL,pL],[oL]⟩
noncomputable def cfg:Cfg:=cl (cx [⟨65,Aa0.sig,Aa0.F⟩,⟨197,Am9.sig,Am9.F⟩]) fun id=>match id with|3=>([0,1,2,7,8],[28])|_=>([],[])
noncomputable def fin:=finK cfg.c sig [.tmp 6]
noncomputable def F (d:LL×LI×LI×Unit):OL:=anyK (a9u cfg fin (bd f167) (a6P sig.ps d 29))
variable (k:Nat) (x4:LL) (x5 x6:LI) (i7:Int) (x8:LI)
noncomputable def l3:OL:=Vm.runT cfg fin k [.inLoop (sub [1,1,0,1,0,0] (bd f167)),.inBlock 0,.code (sub [1,1,1] (bd f167))] ⟨[.rptr false [cQ x4],vL x5,vL x6,dD,dD,dD,dD,.view 28 (.root 0) 1 false,vI i7]++a9B 20,[(28,⟨false,[dL x8]⟩)]⟩
theorem l3_eq:l3 (k+1) x4 x5 x6 i7 x8=if (decide (i7<(x6.length:Int)))=true then if 0≤i7∧i7≤(za.wrap (i7+1))∧(za.wrap (i7+1))≤(x6.length:Int)then(Aa0.F (x4,cutL x6 i7 (za.wrap (i7+1)),())).bind fun r9=>if 0≤r9.1.1∧r9.1.1<(x5.length:Int)then(Am9.F (x8,x5.getD r9.1.1.toNat 0,())).bind fun r10=>l3 k x4 x5 x6 (za.wrap (i7+1)) r10.1.1 else none else none else some ((x8,()),()):=by kernel_rfl
variable (c_1:LL) (images_2 s_3:LI)
noncomputable def T:OL:=l3 k c_1 images_2 s_3 (0:Int) ([]:LI)
theorem of {r} (h:Ev (fun k=>T k c_1 images_2 s_3) r):F (c_1,images_2,s_3,())=some r:=Ev.run (fun k=>by kernel_rfl) h
theorem S:a3P prog ⟨167,sig,F⟩:=sound_k (res:=[.tmp 6]) func167 (cok (cM ⟨Aa0.S,cM ⟨Am9.S,nM⟩⟩))
end An6
namespace An5
noncomputable def sig:Sig:=⟨[qC,pI],[oC]⟩
noncomputable def cfg:Cfg:=cl (cx [⟨44,Aa3.sig,Aa3.F⟩]) fun id=>match id with|3=>([0,1,4,5,6],[16,20])|_=>([],[])
noncomputable def fin:=finK cfg.c sig [.cell 4 33]
noncomputable def F (d:LL×Int×Unit):OQ:=anyK (a9u cfg fin (bd f198) (a6P sig.ps d 43))
variable (k:Nat) (x3:LL) (i4 i5:Int) (x6 x7:LL)
noncomputable def l3:OQ:=Vm.runT cfg fin k [.inLoop (sub [1,1,0,1,0,0] (bd f198)),.inBlock 0,.code (sub [1,1,1] (bd f198))] ⟨[.rptr false [cQ x3],vI i4,dD,dD,.ref 16 (.root 0),.ref 20 (.root 0),vI i5]++a9B 36,[(16,⟨true,[dQ x6]⟩),(20,⟨true,[dQ x7]⟩)]⟩
theorem l3_eq:l3 (k+1) x3 i4 i5 x6 x7=if (decide (i5<(x3.length:Int)))=true then if 0≤i5∧i5<(x3.length:Int)then if (decide (((x3.getD i5.toNat ([]:LI)).length:Int)≤(za.wrap (i4+1))))=true then if 0≤i5∧i5<(x3.length:Int)then(Aa3.F (x3.getD i5.toNat ([]:LI),())).bind fun r8=>if x7.length+[r8.1.1].length≤bigA then l3 k x3 i4 (za.wrap (i5+1)) x6 (x7++[r8.1.1])else none else none else l3 k x3 i4 (za.wrap (i5+1)) x6 x7 else none else some ((x7,()),()):=by kernel_rfl
variable (c_1:LL) (dimension_2:Int)
noncomputable def T:OQ:=l3 k c_1 dimension_2 (0:Int) ([]:LL) ([]:LL)
theorem of {r} (h:Ev (fun k=>T k c_1 dimension_2) r):F (c_1,dimension_2,())=some r:=Ev.run (fun k=>by kernel_rfl) h
theorem S:a3P prog ⟨198,sig,F⟩:=sound_k (res:=[.cell 4 33]) func198 (cok (cM ⟨Aa3.S,nM⟩))
end An5
namespace Ag2
noncomputable def sig:Sig:=⟨[qC,pI,pL],[oS]⟩
noncomputable def cfg:Cfg:=cl (cx [⟨44,Aa3.sig,Aa3.F⟩,⟨85,Aa6.sig,Aa6.F⟩,⟨101,Af5.sig,Af5.F⟩,⟨198,An5.sig,An5.F⟩]) fun id=>match id with|3=>([0,1,2,6,7,8],[24,28])|7=>([0,1,2,6,7,8,9,10],[24,28,36])|_=>([],[])
noncomputable def fin:=finK cfg.c sig [.cell 6 36]
noncomputable def F (d:LL×Int×LI×Unit):OS:=anyK (a9u cfg fin (bd f168) (a6P sig.ps d 55))
variable (k:Nat) (x6:LL) (i7:Int) (x8:LI) (i9:Int) (x10:LL) (i11:Int) (x12:LI) (x13:LM) (x14:LL) (i15:Int) (x16:LI) (x17:LM)
noncomputable def l3:OS:=Vm.runT cfg fin k [.inLoop (sub [1,1,0,1,0,0] (bd f168)),.inBlock 0,.code (sub [1,1,1] (bd f168))] ⟨[.rptr false [cQ x6],vI i7,vL x8,dD,dD,dD,.ref 24 (.root 0),.ref 28 (.root 0),vI i9]++a9B 46,[(24,⟨true,[dQ x10,cI i11,dL x12,⟨(.sl TMatrix),.deep,x13⟩]⟩),(28,⟨true,[dQ x14,cI i15,dL x16,⟨(.sl TMatrix),.deep,x17⟩]⟩)]⟩
variable (x19:LL) (i20:Int) (x21:LI) (i22 i23:Int) (x24:LL) (i25:Int) (x26:LI) (x27:LM) (x28:LL) (i29:Int) (x30:LI) (x31:LM) (x32:LI)
noncomputable def l7:OS:=Vm.runT cfg fin k [.inLoop (sub [1,1,0,1,0,0,1,0,0,1,1,0,0] (bd f168)),.inBlock 2,.inBlock 1,.code (sub [1,1,0,1,0,0,1,1] (bd f168)),.inLoop (sub [1,1,0,1,0,0] (bd f168)),.inBlock 0,.code (sub [1,1,1] (bd f168))] ⟨[.rptr false [cQ x19],vI i20,vL x21,dD,dD,dD,.ref 24 (.root 0),.ref 28 (.root 0),vI i22,.view 36 (.root 0) 1 false,vI i23]++a9B 44,[(24,⟨true,[dQ x24,cI i25,dL x26,⟨(.sl TMatrix),.deep,x27⟩]⟩),(28,⟨true,[dQ x28,cI i29,dL x30,⟨(.sl TMatrix),.deep,x31⟩]⟩),(36,⟨false,[dL x32]⟩)]⟩
theorem l3_eq:l3 (k+1) x6 i7 x8 i9 x10 i11 x12 x13 x14 i15 x16 x17=if (decide (i9<(x6.length:Int)))=true then(Aa6.F (x6,i9,())).bind fun r18=>l7 k x6 i7 x8 i9 (0:Int) x10 i11 x12 x13 x14 i15 x16 x17 r18.1.1 else some (((x14,(i15,(x16,x17))),()),()):=by kernel_rfl
theorem l7_eq:l7 (k+1) x19 i20 x21 i22 i23 x24 i25 x26 x27 x28 i29 x30 x31 x32=if (decide (i23<(x32.length:Int)))=true then if 0≤i22∧i22<(x21.length:Int)then if 0≤i23∧i23<(x32.length:Int)then if 0≤(x32.getD i23.toNat 0:Int)∧(x32.getD i23.toNat 0:Int)<(x21.length:Int)then(Af5.F (i20,(x21.getD i22.toNat 0:Int),x21.getD (x32.getD i23.toNat 0:Int).toNat 0,())).bind fun r33=>if x31.length+[r33.1.1].length≤bigA then l7 k x19 i20 x21 i22 (za.wrap (i23+1)) x24 i25 x26 x27 x28 i29 x30 (x31++[r33.1.1]) x32 else none else none else none else none else l3 k x19 i20 x21 (za.wrap (i22+1)) x24 i25 x26 x27 x28 i29 x30 x31:=by kernel_rfl
variable (c_1:LL) (p_2:Int) (stalks_3:LI)
noncomputable def T:OS:=(An5.F (c_1,(3:Int),())).bind fun r4=>(Aa3.F (stalks_3,())).bind fun r5=>l3 k c_1 p_2 stalks_3 (0:Int) ([]) 0 ([]) ([]) r4.1.1 p_2 r5.1.1 ([]:LM)
theorem of {r} (h:Ev (fun k=>T k c_1 p_2 stalks_3) r):F (c_1,p_2,stalks_3,())=some r:=Ev.run (fun k=>by kernel_rfl) h
theorem S:a3P prog ⟨168,sig,F⟩:=sound_k (res:=[.cell 6 36]) func168 (cok (cM ⟨Aa3.S,cM ⟨Aa6.S,cM ⟨Af5.S,cM ⟨An5.S,nM⟩⟩⟩⟩))
end Ag2
namespace Al4
noncomputable def sig:Sig:=⟨[pI,pI],[oM]⟩
noncomputable def cfg:Cfg:=cl (cx [⟨101,Af5.sig,Af5.F⟩]) fun id=>match id with|3=>([1,4,5,6],[16,20])|_=>([],[])
noncomputable def fin:=finK cfg.c sig [.cell 4 65]
noncomputable def F (d:Int×Int×Unit):OM:=anyK (a9u cfg fin (bd f199) (a6P sig.ps d 25))
variable (k:Nat) (i4 i5 i6 i7 i8:Int) (x9:LI) (i10 i11 i12:Int) (x13:LI)
noncomputable def l3:OM:=Vm.runT cfg fin k [.inLoop (sub [1,1,0,1,0,0] (bd f199)),.inBlock 0,.code (sub [1,1,1] (bd f199))] ⟨[dD,vI i4,dD,dD,.ref 16 (.root 0),.ref 20 (.root 0),vI i5]++a9B 18,[(16,⟨true,[cI i6,cI i7,cI i8,dL x9]⟩),(20,⟨true,[cI i10,cI i11,cI i12,dL x13]⟩)]⟩
theorem l3_eq:l3 (k+1) i4 i5 i6 i7 i8 x9 i10 i11 i12 x13=if (decide (i5<i4))=true then if 0≤(za.wrap ((za.wrap (i5*i4))+i5))∧(za.wrap ((za.wrap (i5*i4))+i5))<(x13.length:Int)then l3 k i4 (za.wrap (i5+1)) i6 i7 i8 x9 i10 i11 i12 (x13.set (za.wrap ((za.wrap (i5*i4))+i5)).toNat (1:Int))else none else some (((i10,(i11,(i12,x13))),()),()):=by kernel_rfl
variable (p_1 n_2:Int)
noncomputable def T:OM:=(Af5.F (p_1,n_2,n_2,())).bind fun r3=>l3 k n_2 (0:Int) 0 0 0 ([]) r3.1.1.1 r3.1.1.2.1 r3.1.1.2.2.1 r3.1.1.2.2.2
theorem of {r} (h:Ev (fun k=>T k p_1 n_2) r):F (p_1,n_2,())=some r:=Ev.run (fun k=>by kernel_rfl) h
theorem S:a3P prog ⟨199,sig,F⟩:=sound_k (res:=[.cell 4 65]) func199 (cok (cM ⟨Af5.S,nM⟩))
end Al4
namespace Al3
noncomputable def sig:Sig:=⟨[pL,pI],[oB]⟩
noncomputable def cfg:Cfg:=cl (cx []) fun id=>match id with|2=>([0,1,5],[])|_=>([],[])
noncomputable def fin:=finK cfg.c sig [.tmp 4]
noncomputable def F (d:LI×Int×Unit):OB:=anyK (a9u cfg fin (bd f200) (a6P sig.ps d 18))
variable (k:Nat) (x3:LI) (i4 i5:Int)
noncomputable def l2:OB:=Vm.runT cfg fin k [.inLoop (sub [1,0,1,0,0] (bd f200)),.inBlock 0,.code (sub [1,1] (bd f200))] ⟨[vL x3,vI i4,dD,dD,dD,vI i5]++a9B 12,[]⟩
theorem l2_eq:l2 (k+1) x3 i4 i5=if (decide (i5<(x3.length:Int)))=true then if 0≤i5∧i5<(x3.length:Int)then if ((x3.getD i5.toNat 0:Int)==i4)=true then some ((true,()),())else l2 k x3 i4 (za.wrap (i5+1))else none else some ((false,()),()):=by kernel_rfl
variable (list_1:LI) (n_2:Int)
noncomputable def T:OB:=l2 k list_1 n_2 (0:Int)
theorem of {r} (h:Ev (fun k=>T k list_1 n_2) r):F (list_1,n_2,())=some r:=Ev.run (fun k=>by kernel_rfl) h
theorem S:a3P prog ⟨200,sig,F⟩:=sound_k (res:=[.tmp 4]) func200 (cok nM)
end Al3
namespace Ae6
noncomputable def sig:Sig:=⟨[qS,pI,pI],[oM]⟩
noncomputable def ctx (self:(SF×Int×Int×Unit)→OM):Ctx:=⟨a2n tabl,[⟨85,Aa6.sig,Aa6.F⟩,⟨87,Ab0.sig,Ab0.F⟩,⟨199,Al4.sig,Al4.F⟩,⟨200,Al3.sig,Al3.F⟩,⟨201,Ad4.sig,Ad4.F⟩,⟨169,sig,self⟩],[],[],[],[]⟩
noncomputable def cfg (self:(SF×Int×Int×Unit)→OM):Cfg:=⟨(ctx self),[],[],fun id=>match id with|5=>([0,1,2,6,7,8],[24])|_=>([],[]),fun _=>[]⟩
noncomputable def code:Code:=(f169).body.getD .skip
noncomputable def fin (self:(SF×Int×Int×Unit)→OM):=finK (ctx self) sig [.cell 6 65]
noncomputable def step (self:(SF×Int×Int×Unit)→OM) (d:SF×Int×Int×Unit):OM:=anyK (a9u (cfg self) (fin self) code (a6P sig.ps d 64))
variable (self:(SF×Int×Int×Unit)→OM) (k:Nat) (x8:LL) (i9:Int) (x10:LI) (x11:LM) (i12 i13:Int) (x14:LI) (i15 i16 i17 i18:Int) (x19:LI)
noncomputable def l5:OM:=Vm.runT (cfg self) (fin self) k [.inLoop (sub [1,1,1,1,0,0,0] code),.inBlock 0,.code (sub [1,1,1,1,1] code)] ⟨[.rptr false [cQ x8,cI i9,cL x10,⟨(.sl TMatrix),.sh,x11⟩],vI i12,vI i13,dD,dD,dD,.ref 24 (.root 0),vL x14,vI i15]++a9B 55,[(24,⟨true,[cI i16,cI i17,cI i18,dL x19]⟩)]⟩
theorem l5_eq:l5 self (k+1) x8 i9 x10 x11 i12 i13 x14 i15 i16 i17 i18 x19=if 0≤i12∧i12<(x8.length:Int)then if 0≤i15∧i15<(x14.length:Int)then(Al3.F (x8.getD i12.toNat ([]:LI),(x14.getD i15.toNat 0:Int),())).bind fun r20=>if r20.1.1=true then l5 self k x8 i9 x10 x11 i12 i13 x14 (za.wrap (i15+1)) i16 i17 i18 x19 else(Aa6.F (x8,i13,())).bind fun r21=>if 0≤i15∧i15<(r21.1.1.length:Int)then(self ((x8,(i9,(x10,x11))),i12,(r21.1.1.getD i15.toNat 0:Int),())).bind fun r22=>(Ab0.F ((x8,(i9,(x10,x11))),i13,i15,())).bind fun r23=>(Ad4.F (r23.1.1,r22.1.1,())).bind fun r24=>some ((r24.1.1,()),())else none else none else none:=by kernel_rfl
variable (s_1:LL) (s_2:Int) (s_3:LI) (s_4:LM) (face_5 simplex_6:Int)
noncomputable def T:OM:=if (face_5==simplex_6)=true then if 0≤face_5∧face_5<(s_3.length:Int)then(Al4.F (s_2,(s_3.getD face_5.toNat 0:Int),())).bind fun r7=>some ((r7.1.1,()),())else none else if 0≤simplex_6∧simplex_6<(s_1.length:Int)then l5 self k s_1 s_2 s_3 s_4 face_5 simplex_6 (s_1.getD simplex_6.toNat ([]:LI)) (0:Int) 0 0 0 ([])else none
theorem run (self:(SF×Int×Int×Unit)→OM) (k:Nat) (s_1:LL) (s_2:Int) (s_3:LI) (s_4:LM) (face_5 simplex_6:Int):a9u (cfg self) (fin self) code (a6P sig.ps ((s_1,(s_2,(s_3,s_4))),face_5,simplex_6,()) 64) k=T self k s_1 s_2 s_3 s_4 face_5 simplex_6:=by kernel_rfl
theorem of {r} (h:Ev (fun k=>T self k s_1 s_2 s_3 s_4 face_5 simplex_6) r):step self ((s_1,(s_2,(s_3,s_4))),face_5,simplex_6,())=some r:=Ev.run (fun k=>run self k s_1 s_2 s_3 s_4 face_5 simplex_6) h
theorem ok (self:(SF×Int×Int×Unit)→OM) (hs:a3P prog ⟨169,sig,self⟩):CtxOK prog (ctx self):=⟨nilM,mixed_ok,tab_ok tab_good,consM ⟨Aa6.S,consM ⟨Ab0.S,consM ⟨Al4.S,consM ⟨Al3.S,consM ⟨Ad4.S,consM ⟨hs,nilM⟩⟩⟩⟩⟩⟩,nilM,nilM⟩
theorem stepS (self:(SF×Int×Int×Unit)→OM) (hs:a3P prog ⟨169,sig,self⟩):a3P prog ⟨169,sig,step self⟩:=b3f (fn:=f169) (code:=code) (g:=cfg self) (res:=[.cell 6 65]) func169 (by kernel_rfl) (by kernel_rfl) (ok self hs) (by kernel_rfl) (by kernel_rfl) (zd (by kernel_rfl)) (by kernel_rfl)
noncomputable def R:Nat→(SF×Int×Int×Unit)→OM:=recF step
noncomputable def F (d:SF×Int×Int×Unit):OM:=anyE fun q=>R q d
theorem ofR {d:SF×Int×Int×Unit} {r:(MX×Unit)×(Unit)} (h:Ev (fun q=>R q d) r):F d=some r:=anyE_of h
theorem S:a3P prog ⟨169,sig,F⟩:=sound_rec ⟨_,func169,by kernel_rfl,by kernel_rfl⟩ fun self h=>stepS self h
end Ae6
namespace Ag0
noncomputable def sig:Sig:=⟨[qS,qC,pL],[oS]⟩
noncomputable def cfg:Cfg:=cl (cx [⟨65,Aa0.sig,Aa0.F⟩,⟨85,Aa6.sig,Aa6.F⟩,⟨126,Ac8.sig,Ac8.F⟩,⟨167,An6.sig,An6.F⟩,⟨168,Ag2.sig,Ag2.F⟩,⟨169,Ae6.sig,Ae6.F⟩]) fun id=>match id with|4=>([0,1,2,6,7,8,9],[24,28,32])|11=>([0,1,6,7,11,12],[24,28,44])|15=>([0,1,6,7,11,12,13,14],[24,28,44,52])|_=>([],[])
noncomputable def fin:=finK cfg.c sig [.cell 6 36]
noncomputable def F (d:SF×LL×LI×Unit):OS:=anyK (a9u cfg fin (bd f123) (a6P sig.ps d 100))
variable (k:Nat) (x7:LL) (i8:Int) (x9:LI) (x10:LM) (x11:LL) (x12:LI) (i13:Int) (x14:LL) (i15:Int) (x16:LI) (x17:LM) (x18 x19:LI)
noncomputable def l4:OS:=Vm.runT cfg fin k [.inLoop (sub [1,1,1,0,1,0,0] (bd f123)),.inBlock 0,.code (sub [1,1,1,1] (bd f123))] ⟨[.rptr false [cQ x7,cI i8,cL x9,⟨(.sl TMatrix),.sh,x10⟩],.rptr false [cQ x11],vL x12,dD,dD,dD,.ref 24 (.root 0),.view 28 (.root 0) 1 false,.view 32 (.root 0) 1 false,vI i13]++a9B 90,[(24,⟨true,[dQ x14,cI i15,dL x16,⟨(.sl TMatrix),.deep,x17⟩]⟩),(28,⟨false,[dL x18]⟩),(32,⟨false,[dL x19]⟩)]⟩
variable (x23:LL) (i24:Int) (x25:LI) (x26:LM) (x27:LL) (i28:Int) (x29:LL) (i30:Int) (x31:LI) (x32:LM) (x33:LI) (x34:LL) (i35:Int) (x36:LI) (x37:LM)
noncomputable def l11:OS:=Vm.runT cfg fin k [.inLoop (sub [1,1,1,1,1,0,1,0,0] (bd f123)),.inBlock 2,.code (sub [1,1,1,1,1,1] (bd f123))] ⟨[.rptr false [cQ x23,cI i24,cL x25,⟨(.sl TMatrix),.sh,x26⟩],.rptr false [cQ x27],dD,dD,dD,dD,.ref 24 (.root 0),.view 28 (.root 0) 1 false,dD,dD,dD,.ref 44 (.root 0),vI i28]++a9B 87,[(24,⟨true,[dQ x29,cI i30,dL x31,⟨(.sl TMatrix),.deep,x32⟩]⟩),(28,⟨false,[dL x33]⟩),(44,⟨true,[dQ x34,cI i35,dL x36,⟨(.sl TMatrix),.deep,x37⟩]⟩)]⟩
variable (x39:LL) (i40:Int) (x41:LI) (x42:LM) (x43:LL) (i44 i45:Int) (x46:LL) (i47:Int) (x48:LI) (x49:LM) (x50:LI) (x51:LL) (i52:Int) (x53:LI) (x54:LM) (x55:LI)
noncomputable def l15:OS:=Vm.runT cfg fin k [.inLoop (sub [1,1,1,1,1,0,1,0,0,1,0,0,1,1,0,0] (bd f123)),.inBlock 4,.inBlock 3,.code (sub [1,1,1,1,1,0,1,0,0,1,1] (bd f123)),.inLoop (sub [1,1,1,1,1,0,1,0,0] (bd f123)),.inBlock 2,.code (sub [1,1,1,1,1,1] (bd f123))] ⟨[.rptr false [cQ x39,cI i40,cL x41,⟨(.sl TMatrix),.sh,x42⟩],.rptr false [cQ x43],dD,dD,dD,dD,.ref 24 (.root 0),.view 28 (.root 0) 1 false,dD,dD,dD,.ref 44 (.root 0),vI i44,.view 52 (.root 0) 1 false,vI i45]++a9B 85,[(24,⟨true,[dQ x46,cI i47,dL x48,⟨(.sl TMatrix),.deep,x49⟩]⟩),(28,⟨false,[dL x50]⟩),(44,⟨true,[dQ x51,cI i52,dL x53,⟨(.sl TMatrix),.deep,x54⟩]⟩),(52,⟨false,[dL x55]⟩)]⟩
theorem l4_eq:l4 (k+1) x7 i8 x9 x10 x11 x12 i13 x14 i15 x16 x17 x18 x19=if (decide (i13<(x11.length:Int)))=true then if 0≤i13∧i13<(x11.length:Int)then(An6.F (x11,x12,x11.getD i13.toNat ([]:LI),())).bind fun r20=>(Aa0.F (x7,r20.1.1,())).bind fun r21=>if x18.length+[r21.1.1].length≤bigA then if 0≤r21.1.1∧r21.1.1<(x9.length:Int)then if x19.length+[x9.getD r21.1.1.toNat 0].length≤bigA then l4 k x7 i8 x9 x10 x11 x12 (za.wrap (i13+1)) x14 i15 x16 x17 (x18++[r21.1.1]) (x19++[x9.getD r21.1.1.toNat 0])else none else none else none else none else(Ag2.F (x11,i8,x19,())).bind fun r22=>l11 k x7 i8 x9 x10 x11 (0:Int) x14 i15 x16 x17 x18 r22.1.1.1 r22.1.1.2.1 r22.1.1.2.2.1 r22.1.1.2.2.2:=by kernel_rfl
theorem l11_eq:l11 (k+1) x23 i24 x25 x26 x27 i28 x29 i30 x31 x32 x33 x34 i35 x36 x37=if (decide (i28<(x27.length:Int)))=true then(Aa6.F (x27,i28,())).bind fun r38=>l15 k x23 i24 x25 x26 x27 i28 (0:Int) x29 i30 x31 x32 x33 x34 i35 x36 x37 r38.1.1 else some (((x34,(i35,(x36,x37))),()),()):=by kernel_rfl
theorem l15_eq:l15 (k+1) x39 i40 x41 x42 x43 i44 i45 x46 i47 x48 x49 x50 x51 i52 x53 x54 x55=if (decide (i45<(x55.length:Int)))=true then(Ac8.F (x43,i44,i45,())).bind fun r56=>if 0≤i45∧i45<(x55.length:Int)then if 0≤(x55.getD i45.toNat 0:Int)∧(x55.getD i45.toNat 0:Int)<(x50.length:Int)then if 0≤i44∧i44<(x50.length:Int)then(Ae6.F ((x39,(i40,(x41,x42))),x50.getD (x55.getD i45.toNat 0:Int).toNat 0,(x50.getD i44.toNat 0:Int),())).bind fun r57=>if 0≤r56.1.1∧r56.1.1<(x54.length:Int)then l15 k x39 i40 x41 x42 x43 i44 (za.wrap (i45+1)) x46 i47 x48 x49 x50 x51 i52 x53 (x54.set r56.1.1.toNat r57.1.1) x55 else none else none else none else none else l11 k x39 i40 x41 x42 x43 (za.wrap (i44+1)) x46 i47 x48 x49 x50 x51 i52 x53 x54:=by kernel_rfl
variable (t_1:LL) (t_2:Int) (t_3:LI) (t_4:LM) (a_5:LL) (a_6:LI)
noncomputable def T:OS:=l4 k t_1 t_2 t_3 t_4 a_5 a_6 (0:Int) ([]) 0 ([]) ([]) ([]:LI) ([]:LI)
theorem of {r} (h:Ev (fun k=>T k t_1 t_2 t_3 t_4 a_5 a_6) r):F ((t_1,(t_2,(t_3,t_4))),a_5,a_6,())=some r:=Ev.run (fun k=>by kernel_rfl) h
theorem S:a3P prog ⟨123,sig,F⟩:=sound_k (res:=[.cell 6 36]) func123 (cok (cM ⟨Aa0.S,cM ⟨Aa6.S,cM ⟨Ac8.S,cM ⟨An6.S,cM ⟨Ag2.S,cM ⟨Ae6.S,nM⟩⟩⟩⟩⟩⟩))
end Ag0
namespace Al7
noncomputable def sig:Sig:=⟨[qC],[oL]⟩
noncomputable def cfg:Cfg:=cl (cx [⟨61,Ad2.sig,Ad2.F⟩]) fun id=>match id with|4=>([0,3,4,5],[12,16])|_=>([],[])
noncomputable def fin:=finK cfg.c sig [.tmp 2]
noncomputable def F (d:LL×Unit):OL:=anyK (a9u cfg fin (bd f124) (a6P sig.ps d 31))
variable (k:Nat) (x3:LL) (i4:Int) (x5 x6:LI)
noncomputable def l4:OL:=Vm.runT cfg fin k [.inLoop (sub [1,1,1,0,1,0,0] (bd f124)),.inBlock 0,.code (sub [1,1,1,1] (bd f124))] ⟨[.rptr false [cQ x3],dD,dD,.view 12 (.root 0) 1 false,.view 16 (.root 0) 1 false,vI i4]++a9B 25,[(12,⟨false,[dL x5]⟩),(16,⟨false,[dL x6]⟩)]⟩
theorem l4_eq:l4 (k+1) x3 i4 x5 x6=if (decide (i4<(x6.length:Int)))=true then if 0≤i4∧i4<(x6.length:Int)then if 0≤(x6.getD i4.toNat 0:Int)∧(x6.getD i4.toNat 0:Int)<(x3.length:Int)then if 0≤(0:Int)∧(0:Int)<((x3.getD (x6.getD i4.toNat 0:Int).toNat ([]:LI)).length:Int)then if x5.length+[(x3.getD (x6.getD i4.toNat 0:Int).toNat ([]:LI)).getD (0:Int).toNat 0].length≤bigA then l4 k x3 (za.wrap (i4+1)) (x5++[(x3.getD (x6.getD i4.toNat 0:Int).toNat ([]:LI)).getD (0:Int).toNat 0]) x6 else none else none else none else none else some ((x5,()),()):=by kernel_rfl
variable (c_1:LL)
noncomputable def T:OL:=(Ad2.F (c_1,(0:Int),())).bind fun r2=>l4 k c_1 (0:Int) ([]:LI) r2.1.1
theorem of {r} (h:Ev (fun k=>T k c_1) r):F (c_1,())=some r:=Ev.run (fun k=>by kernel_rfl) h
theorem S:a3P prog ⟨124,sig,F⟩:=sound_k (res:=[.tmp 2]) func124 (cok (cM ⟨Ad2.S,nM⟩))
end Al7
namespace Al2
noncomputable def sig:Sig:=⟨[pS,pC],[oS,oI]⟩
noncomputable def cfg:Cfg:=cf (cx [⟨97,Af8.sig,Af8.F⟩,⟨98,Aa7.sig,Aa7.F⟩,⟨122,An7.sig,An7.F⟩,⟨123,Ag0.sig,Ag0.F⟩,⟨124,Al7.sig,Al7.F⟩])
noncomputable def fin:=finK cfg.c sig [.cell 4 36,.tmp 5]
noncomputable def F (d:SF×LL×Unit):Option ((SF×Int×Unit)×(Unit)):=anyK (a9u cfg fin (bd f83) (a6P sig.ps d 19))
variable (s_1:LL) (s_2:Int) (s_3:LI) (s_4:LM) (part_5:LL)
noncomputable def T:Option ((SF×Int×Unit)×(Unit)):=(Af8.F ((s_1,(s_2,(s_3,s_4))),())).bind fun r6=>if (!r6.1.1)=true then some ((([],(0,([],[]))),((1:Int),())),())else(Aa7.F (part_5,())).bind fun r7=>if (!r7.1.1)=true then some ((([],(0,([],[]))),((1:Int),())),())else(An7.F (part_5,s_1,())).bind fun r8=>if (!r8.1.1)=true then some ((([],(0,([],[]))),((6:Int),())),())else(Al7.F (part_5,())).bind fun r9=>(Ag0.F ((s_1,(s_2,(s_3,s_4))),part_5,r9.1.1,())).bind fun r10=>some ((r10.1.1,((0:Int),())),())
theorem eq:F ((s_1,(s_2,(s_3,s_4))),part_5,())=T s_1 s_2 s_3 s_4 part_5:=eq_any fun k=>by kernel_rfl
theorem S:a3P prog ⟨83,sig,F⟩:=sound_k (res:=[.cell 4 36,.tmp 5]) func83 (cok (cM ⟨Af8.S,cM ⟨Aa7.S,cM ⟨An7.S,cM ⟨Ag0.S,cM ⟨Al7.S,nM⟩⟩⟩⟩⟩))
end Al2
namespace Ae8
noncomputable def sig:Sig:=⟨[qS,qC],[oS]⟩
noncomputable def cfg:Cfg:=cf (cx [⟨83,Al2.sig,Al2.F⟩])
noncomputable def fin:=finK cfg.c sig [.cell 4 36]
noncomputable def F (d:SF×LL×Unit):OS:=anyK (a9u cfg fin (bd f41) (a6P sig.ps d 18))
variable (s_1:LL) (s_2:Int) (s_3:LI) (s_4:LM) (part_5:LL)
noncomputable def T:OS:=(Al2.F ((s_1,(s_2,(s_3,s_4))),part_5,())).bind fun r6=>some ((r6.1.1,()),())
theorem eq:F ((s_1,(s_2,(s_3,s_4))),part_5,())=T s_1 s_2 s_3 s_4 part_5:=eq_any fun k=>by kernel_rfl
theorem S:a3P prog ⟨41,sig,F⟩:=sound_k (res:=[.cell 4 36]) func41 (cok (cM ⟨Al2.S,nM⟩))
end Ae8
namespace Ac4
noncomputable def sig:Sig:=⟨[qS],[oI]⟩
noncomputable def cfg:Cfg:=cf (cx [⟨84,Ad7.sig,Ad7.F⟩])
noncomputable def fin:=finK cfg.c sig [.tmp 2]
noncomputable def F (d:SF×Unit):OI:=anyK (a9u cfg fin (bd f42) (a6P sig.ps d 11))
noncomputable def T (s_1:LL) (s_2:Int) (s_3:LI) (s_4:LM):OI:=(Ad7.F (s_1,s_3,(0:Int),())).bind fun r5=>some ((r5.1.1,()),())
theorem eq (s_1:LL) (s_2:Int) (s_3:LI) (s_4:LM):F ((s_1,(s_2,(s_3,s_4))),())=T s_1 s_2 s_3 s_4:=eq_any fun k=>by kernel_rfl
theorem S:a3P prog ⟨42,sig,F⟩:=sound_k (res:=[.tmp 2]) func42 (cok (cM ⟨Ad7.S,nM⟩))
end Ac4
namespace Af9
noncomputable def sig:Sig:=⟨[qM,pI,pI,pI],[oQ]⟩
noncomputable def cfg:Cfg:=cl (cx []) fun id=>match id with|3=>([0,1,2,3,9,10],[36])|7=>([0,1,2,3,9,10,11,12],[36,44])|_=>([],[])
noncomputable def fin:=finK cfg.c sig [.tmp 8]
noncomputable def F (d:MX×Int×Int×Int×Unit):OQ:=anyK (a9u cfg fin (bd f86) (a6P sig.ps d 63))
variable (k:Nat) (i8 i9 i10:Int) (x11:LI) (i12 i13 i14 i15:Int) (x16:LL)
noncomputable def l3:OQ:=Vm.runT cfg fin k [.inLoop (sub [1,1,0,1,0,0] (bd f86)),.inBlock 0,.code (sub [1,1,1] (bd f86))] ⟨[.rptr false [cI i8,cI i9,cI i10,cL x11],vI i12,vI i13,vI i14,dD,dD,dD,dD,dD,.view 36 (.root 0) 1 false,vI i15]++a9B 52,[(36,⟨false,[dQ x16]⟩)]⟩
variable (i17 i18 i19:Int) (x20:LI) (i21 i22 i23 i24 i25:Int) (x26:LL) (x27:LI)
noncomputable def l7:OQ:=Vm.runT cfg fin k [.inLoop (sub [1,1,0,1,0,0,1,0,0,1,0,1,0,0] (bd f86)),.inBlock 2,.code (sub [1,1,0,1,0,0,1,0,0,1,1] (bd f86)),.inBlock 1,.code (sub [1,1,0,1,0,0,1,1] (bd f86)),.inLoop (sub [1,1,0,1,0,0] (bd f86)),.inBlock 0,.code (sub [1,1,1] (bd f86))] ⟨[.rptr false [cI i17,cI i18,cI i19,cL x20],vI i21,vI i22,vI i23,dD,dD,dD,dD,dD,.view 36 (.root 0) 1 false,vI i24,.view 44 (.root 0) 1 false,vI i25]++a9B 50,[(36,⟨false,[dQ x26]⟩),(44,⟨false,[dL x27]⟩)]⟩
theorem l3_eq:l3 (k+1) i8 i9 i10 x11 i12 i13 i14 i15 x16=if (decide (i15<i9))=true then if 0≤i13∧i13≤(bigN:Int)then l7 k i8 i9 i10 x11 i12 i13 i14 i15 (0:Int) x16 (zb i13.toNat (0:Int))else none else some ((x16,()),()):=by kernel_rfl
theorem l7_eq:l7 (k+1) i17 i18 i19 x20 i21 i22 i23 i24 i25 x26 x27=if (decide (i25<i19))=true then if 0≤(za.wrap ((za.wrap (i24*i19))+i25))∧(za.wrap ((za.wrap (i24*i19))+i25))<(x20.length:Int)then if i17=0 then none else if 0≤(za.wrap (i21+i25))∧(za.wrap (i21+i25))<(x27.length:Int)then let y28:LI:=x27.set (za.wrap (i21+i25)).toNat ((za.wrap ((x20.getD (za.wrap ((za.wrap (i24*i19))+i25)).toNat 0:Int)*i23)).tmod i17);l7 k i17 i18 i19 x20 i21 i22 i23 i24 (za.wrap (i25+1)) x26 y28 else none else none else if x26.length+[x27].length≤bigA then l3 k i17 i18 i19 x20 i21 i22 i23 (za.wrap (i24+1)) (x26++[x27])else none:=by kernel_rfl
variable (m_1 m_2 m_3:Int) (m_4:LI) (at_5 columns_6 times_7:Int)
noncomputable def T:OQ:=l3 k m_1 m_2 m_3 m_4 at_5 columns_6 times_7 (0:Int) ([]:LL)
theorem of {r} (h:Ev (fun k=>T k m_1 m_2 m_3 m_4 at_5 columns_6 times_7) r):F ((m_1,(m_2,(m_3,m_4))),at_5,columns_6,times_7,())=some r:=Ev.run (fun k=>by kernel_rfl) h
theorem S:a3P prog ⟨86,sig,F⟩:=sound_k (res:=[.tmp 8]) func86 (cok nM)
end Af9
namespace Ag3
noncomputable def sig:Sig:=⟨[qS,pI],[oI]⟩
noncomputable def cfg:Cfg:=cl (cx []) fun id=>match id with|3=>([0,1,5,6],[])|_=>([],[])
noncomputable def fin:=finK cfg.c sig [.tmp 4]
noncomputable def F (d:SF×Int×Unit):OI:=anyK (a9u cfg fin (bd f88) (a6P sig.ps d 22))
variable (k:Nat) (x6:LL) (i7:Int) (x8:LI) (x9:LM) (i10 i11 i12:Int)
noncomputable def l3:OI:=Vm.runT cfg fin k [.inLoop (sub [1,1,0,1,0,0] (bd f88)),.inBlock 0,.code (sub [1,1,1] (bd f88))] ⟨[.rptr false [cQ x6,cI i7,cL x8,⟨(.sl TMatrix),.sh,x9⟩],vI i10,dD,dD,dD,vI i11,vI i12]++a9B 15,[]⟩
theorem l3_eq:l3 (k+1) x6 i7 x8 x9 i10 i11 i12=if (decide (i12<i10))=true then if 0≤i12∧i12<(x8.length:Int)then l3 k x6 i7 x8 x9 i10 (za.wrap (i11+(x8.getD i12.toNat 0:Int))) (za.wrap (i12+1))else none else some ((i11,()),()):=by kernel_rfl
variable (s_1:LL) (s_2:Int) (s_3:LI) (s_4:LM) (vertex_5:Int)
noncomputable def T:OI:=l3 k s_1 s_2 s_3 s_4 vertex_5 (0:Int) (0:Int)
theorem of {r} (h:Ev (fun k=>T k s_1 s_2 s_3 s_4 vertex_5) r):F ((s_1,(s_2,(s_3,s_4))),vertex_5,())=some r:=Ev.run (fun k=>by kernel_rfl) h
theorem S:a3P prog ⟨88,sig,F⟩:=sound_k (res:=[.tmp 4]) func88 (cok nM)
end Ag3
namespace An1
noncomputable def sig:Sig:=⟨[pL,pL,pI,pI],[oL]⟩
noncomputable def cfg:Cfg:=cl (cx []) fun id=>match id with|3=>([0,1,2,3,9,10],[36])|_=>([],[])
noncomputable def fin:=finK cfg.c sig [.tmp 8]
noncomputable def F (d:LI×LI×Int×Int×Unit):OL:=anyK (a9u cfg fin (bd f127) (a6P sig.ps d 35))
variable (k:Nat) (x5 x6:LI) (i7 i8 i9:Int) (x10:LI)
noncomputable def l3:OL:=Vm.runT cfg fin k [.inLoop (sub [1,1,0,1,0,0] (bd f127)),.inBlock 0,.code (sub [1,1,1] (bd f127))] ⟨[vL x5,vL x6,vI i7,vI i8,dD,dD,dD,dD,dD,.view 36 (.root 0) 1 false,vI i9]++a9B 24,[(36,⟨false,[dL x10]⟩)]⟩
theorem l3_eq:l3 (k+1) x5 x6 i7 i8 i9 x10=if (decide (i9<(x5.length:Int)))=true then if 0≤i9∧i9<(x5.length:Int)then if 0≤i9∧i9<(x6.length:Int)then if i8=0 then none else if x10.length+[(za.wrap ((x5.getD i9.toNat 0:Int)+(za.wrap (i7*(x6.getD i9.toNat 0:Int))))).tmod i8].length≤bigA then l3 k x5 x6 i7 i8 (za.wrap (i9+1)) (x10++[(za.wrap ((x5.getD i9.toNat 0:Int)+(za.wrap (i7*(x6.getD i9.toNat 0:Int))))).tmod i8])else none else none else none else some ((x10,()),()):=by kernel_rfl
variable (a_1 b_2:LI) (c_3 p_4:Int)
noncomputable def T:OL:=l3 k a_1 b_2 c_3 p_4 (0:Int) ([]:LI)
theorem of {r} (h:Ev (fun k=>T k a_1 b_2 c_3 p_4) r):F (a_1,b_2,c_3,p_4,())=some r:=Ev.run (fun k=>by kernel_rfl) h
theorem S:a3P prog ⟨127,sig,F⟩:=sound_k (res:=[.tmp 8]) func127 (cok nM)
end An1
namespace Al6
noncomputable def sig:Sig:=⟨[pQ,pQ,pI],[oQ]⟩
noncomputable def cfg:Cfg:=cl (cx [⟨127,An1.sig,An1.F⟩]) fun id=>match id with|3=>([0,1,2,7,8],[28])|_=>([],[])
noncomputable def fin:=finK cfg.c sig [.tmp 6]
noncomputable def F (d:LL×LL×Int×Unit):OQ:=anyK (a9u cfg fin (bd f89) (a6P sig.ps d 30))
variable (k:Nat) (x4 x5:LL) (i6 i7:Int) (x8:LL)
noncomputable def l3:OQ:=Vm.runT cfg fin k [.inLoop (sub [1,1,0,1,0,0] (bd f89)),.inBlock 0,.code (sub [1,1,1] (bd f89))] ⟨[vQ x4,vQ x5,vI i6,dD,dD,dD,dD,.view 28 (.root 0) 1 false,vI i7]++a9B 21,[(28,⟨false,[dQ x8]⟩)]⟩
theorem l3_eq:l3 (k+1) x4 x5 i6 i7 x8=if (decide (i7<(x4.length:Int)))=true then if 0≤i7∧i7<(x4.length:Int)then if 0≤i7∧i7<(x5.length:Int)then(An1.F (x4.getD i7.toNat ([]:LI),x5.getD i7.toNat ([]:LI),(1:Int),i6,())).bind fun r9=>if x8.length+[r9.1.1].length≤bigA then l3 k x4 x5 i6 (za.wrap (i7+1)) (x8++[r9.1.1])else none else none else none else some ((x8,()),()):=by kernel_rfl
variable (a_1 b_2:LL) (p_3:Int)
noncomputable def T:OQ:=l3 k a_1 b_2 p_3 (0:Int) ([]:LL)
theorem of {r} (h:Ev (fun k=>T k a_1 b_2 p_3) r):F (a_1,b_2,p_3,())=some r:=Ev.run (fun k=>by kernel_rfl) h
theorem S:a3P prog ⟨89,sig,F⟩:=sound_k (res:=[.tmp 6]) func89 (cok (cM ⟨An1.S,nM⟩))
end Al6
namespace Ad9
noncomputable def sig:Sig:=⟨[qS],[oQ]⟩
noncomputable def cfg:Cfg:=cl (cx [⟨42,Ac4.sig,Ac4.F⟩,⟨61,Ad2.sig,Ad2.F⟩,⟨85,Aa6.sig,Aa6.F⟩,⟨86,Af9.sig,Af9.F⟩,⟨87,Ab0.sig,Ab0.F⟩,⟨88,Ag3.sig,Ag3.F⟩,⟨89,Al6.sig,Al6.F⟩]) fun id=>match id with|5=>([0,3,4,5,6],[12,20])|_=>([],[])
noncomputable def fin:=finK cfg.c sig [.tmp 2]
noncomputable def F (d:SF×Unit):OQ:=anyK (a9u cfg fin (bd f43) (a6P sig.ps d 72))
variable (k:Nat) (x7:LL) (i8:Int) (x9:LI) (x10:LM) (i11 i12:Int) (x13:LL) (x14:LI)
noncomputable def l5:OQ:=Vm.runT cfg fin k [.inLoop (sub [1,1,1,1,0,1,0,0] (bd f43)),.inBlock 0,.code (sub [1,1,1,1,1] (bd f43))] ⟨[.rptr false [cQ x7,cI i8,cL x9,⟨(.sl TMatrix),.sh,x10⟩],dD,dD,.view 12 (.root 0) 1 false,vI i11,.view 20 (.root 0) 1 false,vI i12]++a9B 65,[(12,⟨false,[dQ x13]⟩),(20,⟨false,[dL x14]⟩)]⟩
theorem l5_eq:l5 (k+1) x7 i8 x9 x10 i11 i12 x13 x14=if (decide (i12<(x14.length:Int)))=true then if 0≤i12∧i12<(x14.length:Int)then(Aa6.F (x7,(x14.getD i12.toNat 0:Int),())).bind fun r15=>if 0≤i12∧i12<(x14.length:Int)then(Ab0.F ((x7,(i8,(x9,x10))),(x14.getD i12.toNat 0:Int),(0:Int),())).bind fun r16=>if 0≤(0:Int)∧(0:Int)<(r15.1.1.length:Int)then(Ag3.F ((x7,(i8,(x9,x10))),r15.1.1.getD (0:Int).toNat 0,())).bind fun r17=>(Af9.F (r16.1.1,r17.1.1,i11,(1:Int),())).bind fun r18=>if 0≤i12∧i12<(x14.length:Int)then(Ab0.F ((x7,(i8,(x9,x10))),(x14.getD i12.toNat 0:Int),(1:Int),())).bind fun r19=>if 0≤(1:Int)∧(1:Int)<(r15.1.1.length:Int)then(Ag3.F ((x7,(i8,(x9,x10))),r15.1.1.getD (1:Int).toNat 0,())).bind fun r20=>(Af9.F (r19.1.1,r20.1.1,i11,za.wrap (i8-1),())).bind fun r21=>(Al6.F (r18.1.1,r21.1.1,i8,())).bind fun r22=>if x13.length+r22.1.1.length≤bigA then l5 k x7 i8 x9 x10 i11 (za.wrap (i12+1)) (x13++r22.1.1) x14 else none else none else none else none else none else none else some ((x13,()),()):=by kernel_rfl
variable (t_1:LL) (t_2:Int) (t_3:LI) (t_4:LM)
noncomputable def T:OQ:=(Ac4.F ((t_1,(t_2,(t_3,t_4))),())).bind fun r5=>(Ad2.F (t_1,(1:Int),())).bind fun r6=>l5 k t_1 t_2 t_3 t_4 r5.1.1 (0:Int) ([]:LL) r6.1.1
theorem of {r} (h:Ev (fun k=>T k t_1 t_2 t_3 t_4) r):F ((t_1,(t_2,(t_3,t_4))),())=some r:=Ev.run (fun k=>by kernel_rfl) h
theorem S:a3P prog ⟨43,sig,F⟩:=sound_k (res:=[.tmp 2]) func43 (cok (cM ⟨Ac4.S,cM ⟨Ad2.S,cM ⟨Aa6.S,cM ⟨Af9.S,cM ⟨Ab0.S,cM ⟨Ag3.S,cM ⟨Al6.S,nM⟩⟩⟩⟩⟩⟩⟩))
end Ad9
namespace An3
noncomputable def sig:Sig:=⟨[pL,pI],[oB]⟩
noncomputable def cfg:Cfg:=cl (cx [⟨177,Aa9.sig,Aa9.F⟩]) fun id=>match id with|2=>([0,1,5],[])|_=>([],[])
noncomputable def fin:=finK cfg.c sig [.tmp 4]
noncomputable def F (d:LI×Int×Unit):OB:=anyK (a9u cfg fin (bd f179) (a6P sig.ps d 23))
variable (k:Nat) (x3:LI) (i4 i5:Int)
noncomputable def l2:OB:=Vm.runT cfg fin k [.inLoop (sub [1,0,1,0,0] (bd f179)),.inBlock 0,.code (sub [1,1] (bd f179))] ⟨[vL x3,vI i4,dD,dD,dD,vI i5]++a9B 17,[]⟩
theorem l2_eq:l2 (k+1) x3 i4 i5=if (decide (i5<(x3.length:Int)))=true then if 0≤i5∧i5<(x3.length:Int)then(Aa9.F ((x3.getD i5.toNat 0:Int),(0:Int),za.wrap (i4-1),())).bind fun r6=>if (!r6.1.1)=true then some ((false,()),())else l2 k x3 i4 (za.wrap (i5+1))else none else some ((decide ((x3.length:Int)≤64),()),()):=by kernel_rfl
variable (v_1:LI) (p_2:Int)
noncomputable def T:OB:=l2 k v_1 p_2 (0:Int)
theorem of {r} (h:Ev (fun k=>T k v_1 p_2) r):F (v_1,p_2,())=some r:=Ev.run (fun k=>by kernel_rfl) h
theorem S:a3P prog ⟨179,sig,F⟩:=sound_k (res:=[.tmp 4]) func179 (cok (cM ⟨Aa9.S,nM⟩))
end An3
namespace Aq9
noncomputable def sig:Sig:=⟨[pI,pI,pL],[oB]⟩
noncomputable def cfg:Cfg:=cf (cx [⟨179,An3.sig,An3.F⟩])
noncomputable def fin:=finK cfg.c sig [.tmp 6]
noncomputable def F (d:Int×Int×LI×Unit):OB:=anyK (a9u cfg fin (bd f139) (a6P sig.ps d 16))
variable (p_1 length_2:Int) (x_3:LI)
noncomputable def T:OB:=(An3.F (x_3,p_1,())).bind fun r4=>if r4.1.1=true then some (((x_3.length:Int)==length_2,()),())else some ((false,()),())
theorem eq:F (p_1,length_2,x_3,())=T p_1 length_2 x_3:=eq_any fun k=>by kernel_rfl
theorem S:a3P prog ⟨139,sig,F⟩:=sound_k (res:=[.tmp 6]) func139 (cok (cM ⟨An3.S,nM⟩))
end Aq9
namespace An2
noncomputable def sig:Sig:=⟨[pL,pL,pI],[oI]⟩
noncomputable def cfg:Cfg:=cl (cx []) fun id=>match id with|3=>([0,1,2,7,8],[])|_=>([],[])
noncomputable def fin:=finK cfg.c sig [.tmp 6]
noncomputable def F (d:LI×LI×Int×Unit):OI:=anyK (a9u cfg fin (bd f140) (a6P sig.ps d 29))
variable (k:Nat) (x4 x5:LI) (i6 i7 i8:Int)
noncomputable def l3:OI:=Vm.runT cfg fin k [.inLoop (sub [1,1,0,1,0,0] (bd f140)),.inBlock 0,.code (sub [1,1,1] (bd f140))] ⟨[vL x4,vL x5,vI i6,dD,dD,dD,dD,vI i7,vI i8]++a9B 20,[]⟩
theorem l3_eq:l3 (k+1) x4 x5 i6 i7 i8=if (decide (i8<(x4.length:Int)))=true then if 0≤i8∧i8<(x4.length:Int)then if 0≤i8∧i8<(x5.length:Int)then if i6=0 then none else l3 k x4 x5 i6 ((za.wrap (i7+(za.wrap ((x4.getD i8.toNat 0:Int)*(x5.getD i8.toNat 0:Int))))).tmod i6) (za.wrap (i8+1))else none else none else some ((i7,()),()):=by kernel_rfl
variable (a_1 b_2:LI) (p_3:Int)
noncomputable def T:OI:=l3 k a_1 b_2 p_3 (0:Int) (0:Int)
theorem of {r} (h:Ev (fun k=>T k a_1 b_2 p_3) r):F (a_1,b_2,p_3,())=some r:=Ev.run (fun k=>by kernel_rfl) h
theorem S:a3P prog ⟨140,sig,F⟩:=sound_k (res:=[.tmp 6]) func140 (cok nM)
end An2
namespace Ah6
noncomputable def sig:Sig:=⟨[qS,pL],[oB]⟩
noncomputable def cfg:Cfg:=cl (cx [⟨42,Ac4.sig,Ac4.F⟩,⟨43,Ad9.sig,Ad9.F⟩,⟨139,Aq9.sig,Aq9.F⟩,⟨140,An2.sig,An2.F⟩]) fun id=>match id with|5=>([0,1,5,6],[20])|_=>([],[])
noncomputable def fin:=finK cfg.c sig [.tmp 4]
noncomputable def F (d:SF×LI×Unit):OB:=anyK (a9u cfg fin (bd f100) (a6P sig.ps d 35))
variable (k:Nat) (x9:LL) (i10:Int) (x11:LI) (x12:LM) (x13:LI) (i14:Int) (x15:LL)
noncomputable def l5:OB:=Vm.runT cfg fin k [.inLoop (sub [1,1,1,0,1,0,0] (bd f100)),.inBlock 0,.code (sub [1,1,1,1] (bd f100))] ⟨[.rptr false [cQ x9,cI i10,cL x11,⟨(.sl TMatrix),.sh,x12⟩],vL x13,dD,dD,dD,.view 20 (.root 0) 1 false,vI i14]++a9B 28,[(20,⟨false,[dQ x15]⟩)]⟩
theorem l5_eq:l5 (k+1) x9 i10 x11 x12 x13 i14 x15=if (decide (i14<(x15.length:Int)))=true then if 0≤i14∧i14<(x15.length:Int)then(An2.F (x15.getD i14.toNat ([]:LI),x13,i10,())).bind fun r16=>if (r16.1.1 !=0)=true then some ((false,()),())else l5 k x9 i10 x11 x12 x13 (za.wrap (i14+1)) x15 else none else some ((true,()),()):=by kernel_rfl
variable (s_1:LL) (s_2:Int) (s_3:LI) (s_4:LM) (x_5:LI)
noncomputable def T:OB:=(Ac4.F ((s_1,(s_2,(s_3,s_4))),())).bind fun r6=>(Aq9.F (s_2,r6.1.1,x_5,())).bind fun r7=>if (!r7.1.1)=true then some ((false,()),())else(Ad9.F ((s_1,(s_2,(s_3,s_4))),())).bind fun r8=>l5 k s_1 s_2 s_3 s_4 x_5 (0:Int) r8.1.1
theorem of {r} (h:Ev (fun k=>T k s_1 s_2 s_3 s_4 x_5) r):F ((s_1,(s_2,(s_3,s_4))),x_5,())=some r:=Ev.run (fun k=>by kernel_rfl) h
theorem S:a3P prog ⟨100,sig,F⟩:=sound_k (res:=[.tmp 4]) func100 (cok (cM ⟨Ac4.S,cM ⟨Ad9.S,cM ⟨Aq9.S,cM ⟨An2.S,nM⟩⟩⟩⟩))
end Ah6
namespace Al9
noncomputable def sig:Sig:=⟨[qS,qC,pL],[oB]⟩
noncomputable def cfg:Cfg:=cf (cx [⟨41,Ae8.sig,Ae8.F⟩,⟨100,Ah6.sig,Ah6.F⟩])
noncomputable def fin:=finK cfg.c sig [.tmp 6]
noncomputable def F (d:SF×LL×LI×Unit):OB:=anyK (a9u cfg fin (bd f60) (a6P sig.ps d 13))
variable (s_1:LL) (s_2:Int) (s_3:LI) (s_4:LM) (part_5:LL) (x_6:LI)
noncomputable def T:OB:=(Ae8.F ((s_1,(s_2,(s_3,s_4))),part_5,())).bind fun r7=>(Ah6.F (r7.1.1,x_6,())).bind fun r8=>some ((r8.1.1,()),())
theorem eq:F ((s_1,(s_2,(s_3,s_4))),part_5,x_6,())=T s_1 s_2 s_3 s_4 part_5 x_6:=eq_any fun k=>by kernel_rfl
theorem S:a3P prog ⟨60,sig,F⟩:=sound_k (res:=[.tmp 6]) func60 (cok (cM ⟨Ae8.S,cM ⟨Ah6.S,nM⟩⟩))
end Al9
namespace Am0
noncomputable def sig:Sig:=⟨[qS,qC,qC,pL],[oI]⟩
noncomputable def cfg:Cfg:=cf (cx [⟨45,Ac5.sig,Ac5.F⟩,⟨59,Al8.sig,Al8.F⟩,⟨60,Al9.sig,Al9.F⟩])
noncomputable def fin:=finK cfg.c sig [.tmp 8]
noncomputable def F (d:SF×LL×LL×LI×Unit):OI:=anyK (a9u cfg fin (bd f24) (a6P sig.ps d 25))
variable (s_1:LL) (s_2:Int) (s_3:LI) (s_4:LM) (a_5 b_6:LL) (z_7:LI)
noncomputable def T:OI:=(Al8.F ((s_1,(s_2,(s_3,s_4))),a_5,b_6,())).bind fun r8=>if (r8.1.1 !=0)=true then some ((r8.1.1,()),())else(Ac5.F (a_5,b_6,())).bind fun r9=>(Al9.F ((s_1,(s_2,(s_3,s_4))),r9.1.1,z_7,())).bind fun r10=>if (!r10.1.1)=true then some ((7,()),())else some ((0,()),())
theorem eq:F ((s_1,(s_2,(s_3,s_4))),a_5,b_6,z_7,())=T s_1 s_2 s_3 s_4 a_5 b_6 z_7:=eq_any fun k=>by kernel_rfl
theorem S:a3P prog ⟨24,sig,F⟩:=sound_k (res:=[.tmp 8]) func24 (cok (cM ⟨Ac5.S,cM ⟨Al8.S,cM ⟨Al9.S,nM⟩⟩⟩))
end Am0
namespace Af6
noncomputable def sig:Sig:=⟨[qS,qC],[oL]⟩
noncomputable def cfg:Cfg:=cl (cx [⟨61,Ad2.sig,Ad2.F⟩,⟨65,Aa0.sig,Aa0.F⟩]) fun id=>match id with|4=>([0,1,5,6,7],[20,24])|_=>([],[])
noncomputable def fin:=finK cfg.c sig [.tmp 4]
noncomputable def F (d:SF×LL×Unit):OL:=anyK (a9u cfg fin (bd f46) (a6P sig.ps d 35))
variable (k:Nat) (x7:LL) (i8:Int) (x9:LI) (x10:LM) (x11:LL) (i12:Int) (x13 x14:LI)
noncomputable def l4:OL:=Vm.runT cfg fin k [.inLoop (sub [1,1,1,0,1,0,0] (bd f46)),.inBlock 0,.code (sub [1,1,1,1] (bd f46))] ⟨[.rptr false [cQ x7,cI i8,cL x9,⟨(.sl TMatrix),.sh,x10⟩],.rptr false [cQ x11],dD,dD,dD,.view 20 (.root 0) 1 false,.view 24 (.root 0) 1 false,vI i12]++a9B 27,[(20,⟨false,[dL x13]⟩),(24,⟨false,[dL x14]⟩)]⟩
theorem l4_eq:l4 (k+1) x7 i8 x9 x10 x11 i12 x13 x14=if (decide (i12<(x14.length:Int)))=true then if 0≤i12∧i12<(x14.length:Int)then if 0≤(x14.getD i12.toNat 0:Int)∧(x14.getD i12.toNat 0:Int)<(x11.length:Int)then(Aa0.F (x7,x11.getD (x14.getD i12.toNat 0:Int).toNat ([]:LI),())).bind fun r15=>if x13.length+[r15.1.1].length≤bigA then l4 k x7 i8 x9 x10 x11 (za.wrap (i12+1)) (x13++[r15.1.1]) x14 else none else none else none else some ((x13,()),()):=by kernel_rfl
variable (s_1:LL) (s_2:Int) (s_3:LI) (s_4:LM) (part_5:LL)
noncomputable def T:OL:=(Ad2.F (part_5,(0:Int),())).bind fun r6=>l4 k s_1 s_2 s_3 s_4 part_5 (0:Int) ([]:LI) r6.1.1
theorem of {r} (h:Ev (fun k=>T k s_1 s_2 s_3 s_4 part_5) r):F ((s_1,(s_2,(s_3,s_4))),part_5,())=some r:=Ev.run (fun k=>by kernel_rfl) h
theorem S:a3P prog ⟨46,sig,F⟩:=sound_k (res:=[.tmp 4]) func46 (cok (cM ⟨Ad2.S,cM ⟨Aa0.S,nM⟩⟩))
end Af6
namespace Ah7
noncomputable def sig:Sig:=⟨[qS,pL,pI],[oI]⟩
noncomputable def cfg:Cfg:=cl (cx []) fun id=>match id with|3=>([0,1,2,7,8],[])|_=>([],[])
noncomputable def fin:=finK cfg.c sig [.tmp 6]
noncomputable def F (d:SF×LI×Int×Unit):OI:=anyK (a9u cfg fin (bd f47) (a6P sig.ps d 36))
variable (k:Nat) (x7:LL) (i8:Int) (x9:LI) (x10:LM) (x11:LI) (i12 i13 i14:Int)
noncomputable def l3:OI:=Vm.runT cfg fin k [.inLoop (sub [1,1,0,1,0,0] (bd f47)),.inBlock 0,.code (sub [1,1,1] (bd f47))] ⟨[.rptr false [cQ x7,cI i8,cL x9,⟨(.sl TMatrix),.sh,x10⟩],vL x11,vI i12,dD,dD,dD,dD,vI i13,vI i14]++a9B 27,[]⟩
theorem l3_eq:l3 (k+1) x7 i8 x9 x10 x11 i12 i13 i14=if (decide (i14<(x11.length:Int)))=true then if 0≤i14∧i14<(x11.length:Int)then if ((x11.getD i14.toNat 0:Int)!=i12)=true then if 0≤i14∧i14<(x11.length:Int)then if 0≤(x11.getD i14.toNat 0:Int)∧(x11.getD i14.toNat 0:Int)<(x9.length:Int)then l3 k x7 i8 x9 x10 x11 i12 (za.wrap (i13+(x9.getD (x11.getD i14.toNat 0:Int).toNat 0))) (za.wrap (i14+1))else none else none else some ((i13,()),())else none else some ((i13,()),()):=by kernel_rfl
variable (s_1:LL) (s_2:Int) (s_3:LI) (s_4:LM) (list_5:LI) (vertex_6:Int)
noncomputable def T:OI:=l3 k s_1 s_2 s_3 s_4 list_5 vertex_6 (0:Int) (0:Int)
theorem of {r} (h:Ev (fun k=>T k s_1 s_2 s_3 s_4 list_5 vertex_6) r):F ((s_1,(s_2,(s_3,s_4))),list_5,vertex_6,())=some r:=Ev.run (fun k=>by kernel_rfl) h
theorem S:a3P prog ⟨47,sig,F⟩:=sound_k (res:=[.tmp 6]) func47 (cok nM)
end Ah7
namespace Al5
noncomputable def sig:Sig:=⟨[pI,pI,pQ],[oM]⟩
noncomputable def cfg:Cfg:=cl (cx []) fun id=>match id with|3=>([2,6,7,8],[24,28])|_=>([],[])
noncomputable def fin:=finK cfg.c sig [.cell 6 65]
noncomputable def F (d:Int×Int×LL×Unit):OM:=anyK (a9u cfg fin (bd f48) (a6P sig.ps d 30))
variable (k:Nat) (x4:LL) (i5 i6 i7 i8:Int) (x9:LI) (i10 i11 i12:Int) (x13:LI)
noncomputable def l3:OM:=Vm.runT cfg fin k [.inLoop (sub [1,1,0,1,0,0] (bd f48)),.inBlock 0,.code (sub [1,1,1] (bd f48))] ⟨[dD,dD,vQ x4,dD,dD,dD,.ref 24 (.root 0),.ref 28 (.root 0),vI i5]++a9B 21,[(24,⟨true,[cI i6,cI i7,cI i8,dL x9]⟩),(28,⟨true,[cI i10,cI i11,cI i12,dL x13]⟩)]⟩
theorem l3_eq:l3 (k+1) x4 i5 i6 i7 i8 x9 i10 i11 i12 x13=if (decide (i5<(x4.length:Int)))=true then if 0≤i5∧i5<(x4.length:Int)then if x13.length+(x4.getD i5.toNat ([]:LI)).length≤bigA then l3 k x4 (za.wrap (i5+1)) i6 i7 i8 x9 i10 i11 i12 (x13++(x4.getD i5.toNat ([]:LI)))else none else none else some (((i10,(i11,(i12,x13))),()),()):=by kernel_rfl
variable (p_1 length_2:Int) (rows_3:LL)
noncomputable def T:OM:=l3 k rows_3 (0:Int) 0 0 0 ([]) p_1 (rows_3.length:Int) length_2 ([]:LI)
theorem of {r} (h:Ev (fun k=>T k p_1 length_2 rows_3) r):F (p_1,length_2,rows_3,())=some r:=Ev.run (fun k=>by kernel_rfl) h
theorem S:a3P prog ⟨48,sig,F⟩:=sound_k (res:=[.cell 6 65]) func48 (cok nM)
end Al5
namespace An4
noncomputable def sig:Sig:=⟨[qM,qM],[oM]⟩
noncomputable def cfg:Cfg:=cl (⟨a2n tabl,[],[],[],[],[24]⟩) fun id=>match id with|3=>([0,1,4,5,6],[16,20])|_=>([],[])
noncomputable def fin:=finK cfg.c sig [.cell 4 65]
noncomputable def F (d:MX×MX×Unit):OM:=anyK (a9u cfg fin (bd f90) (a6P sig.ps d 79))
variable (k:Nat) (i9 i10 i11:Int) (x12:LI) (i13 i14 i15:Int) (x16:LI) (i17 i18 i19 i20:Int) (x21:LI) (i22 i23 i24:Int) (x25:LI)
noncomputable def l3:OM:=Vm.runT cfg fin k [.inLoop (sub [1,1,0,1,0,0] (bd f90)),.inBlock 0,.code (sub [1,1,1] (bd f90))] ⟨[.rptr false [cI i9,cI i10,cI i11,cL x12],.rptr false [cI i13,cI i14,cI i15,cL x16],dD,dD,.ref 16 (.root 0),.ref 20 (.root 0),vI i17]++a9B 72,[(16,⟨true,[cI i18,cI i19,cI i20,dL x21]⟩),(20,⟨true,[cI i22,cI i23,cI i24,dL x25]⟩)]⟩
theorem l3_eq:l3 (k+1) i9 i10 i11 x12 i13 i14 i15 x16 i17 i18 i19 i20 x21 i22 i23 i24 x25=if (decide (i17<i10))=true then if 0≤(za.wrap (i17*i11))∧(za.wrap (i17*i11))≤(za.wrap ((za.wrap (i17+1))*i11))∧(za.wrap ((za.wrap (i17+1))*i11))≤(x12.length:Int)then if x25.length+(cutL x12 (za.wrap (i17*i11)) (za.wrap ((za.wrap (i17+1))*i11))).length≤bigA then let y26:LI:=x25++(cutL x12 (za.wrap (i17*i11)) (za.wrap ((za.wrap (i17+1))*i11)));if 0≤(za.wrap (i17*i15))∧(za.wrap (i17*i15))≤(za.wrap ((za.wrap (i17+1))*i15))∧(za.wrap ((za.wrap (i17+1))*i15))≤(x16.length:Int)then if y26.length+(cutL x16 (za.wrap (i17*i15)) (za.wrap ((za.wrap (i17+1))*i15))).length≤bigA then let y27:LI:=y26++(cutL x16 (za.wrap (i17*i15)) (za.wrap ((za.wrap (i17+1))*i15)));l3 k i9 i10 i11 x12 i13 i14 i15 x16 (za.wrap (i17+1)) i18 i19 i20 x21 i22 i23 i24 y27 else none else none else none else none else some (((i22,(i23,(i24,x25))),()),()):=by kernel_rfl
variable (t_1 t_2 t_3:Int) (t_4:LI) (a_5 a_6 a_7:Int) (a_8:LI)
noncomputable def T:OM:=l3 k t_1 t_2 t_3 t_4 a_5 a_6 a_7 a_8 (0:Int) 0 0 0 ([]) t_1 t_2 (za.wrap (t_3+a_7)) ([])
theorem of {r} (h:Ev (fun k=>T k t_1 t_2 t_3 t_4 a_5 a_6 a_7 a_8) r):F ((t_1,(t_2,(t_3,t_4))),(a_5,(a_6,(a_7,a_8))),())=some r:=Ev.run (fun k=>by kernel_rfl) h
theorem S:a3P prog ⟨90,sig,F⟩:=sound_k (res:=[.cell 4 65]) func90 (⟨nM,mixed_ok,tab_ok tab_good,nM,nM,nM⟩)
end An4
namespace Ai0
noncomputable def sig:Sig:=⟨[pI,pI],[oI]⟩
noncomputable def cfg:Cfg:=cl (cx []) fun id=>match id with|3=>([0,1,5,6],[])|_=>([],[])
noncomputable def fin:=finK cfg.c sig [.tmp 4]
noncomputable def F (d:Int×Int×Unit):OI:=anyK (a9u cfg fin (bd f128) (a6P sig.ps d 19))
variable (k:Nat) (i3 i4 i5 i6:Int)
noncomputable def l3:OI:=Vm.runT cfg fin k [.inLoop (sub [1,1,0,1,0,0] (bd f128)),.inBlock 0,.code (sub [1,1,1] (bd f128))] ⟨[vI i3,vI i4,dD,dD,dD,vI i5,vI i6]++a9B 12,[]⟩
theorem l3_eq:l3 (k+1) i3 i4 i5 i6=if (decide (i6>0))=true then if i4=0 then none else l3 k i3 i4 ((za.wrap (i5*i3)).tmod i4) (za.wrap (i6-1))else some ((i5,()),()):=by kernel_rfl
variable (a_1 p_2:Int)
noncomputable def T:OI:=l3 k a_1 p_2 (1:Int) (za.wrap (p_2-(2:Int)))
theorem of {r} (h:Ev (fun k=>T k a_1 p_2) r):F (a_1,p_2,())=some r:=Ev.run (fun k=>by kernel_rfl) h
theorem S:a3P prog ⟨128,sig,F⟩:=sound_k (res:=[.tmp 4]) func128 (cok nM)
end Ai0
namespace As3
noncomputable def sig:Sig:=⟨[pI,pI],[oI]⟩
noncomputable def cfg:Cfg:=cf (cx [])
noncomputable def fin:=finK cfg.c sig [.tmp 4]
noncomputable def F (d:Int×Int×Unit):OI:=anyK (a9u cfg fin (bd f129) (a6P sig.ps d 12))
variable (n_1 p_2:Int)
noncomputable def T:OI:=if p_2=0 then none else if p_2=0 then none else some (((za.wrap ((n_1.tmod p_2)+p_2)).tmod p_2,()),())
theorem eq:F (n_1,p_2,())=T n_1 p_2:=eq_any fun k=>by kernel_rfl
theorem S:a3P prog ⟨129,sig,F⟩:=sound_k (res:=[.tmp 4]) func129 (cok nM)
end As3
namespace Aa1
noncomputable def sig:Sig:=⟨[qM],[oM,oL,oI]⟩
noncomputable def cfg:Cfg:=cl (cx [⟨44,Aa3.sig,Aa3.F⟩,⟨128,Ai0.sig,Ai0.F⟩,⟨129,As3.sig,As3.F⟩]) fun id=>match id with|8=>([0,2,5,6,7,8,9,10,11],[8,20,32])|11=>([0,2,5,6,7,8,9,10,11,12],[8,20,32])|17=>([0,2,5,6,7,8,9,10,11,12,13],[8,20,32])|26=>([0,2,5,6,7,8,9,10,11,16,17],[8,20,32])|30=>([0,2,5,6,7,8,9,10,11,18],[8,20,32])|35=>([0,2,5,6,7,8,9,10,11,18,19,20],[8,20,32])|_=>([],[])
noncomputable def fin:=finK cfg.c sig [.cell 2 65,.tmp 3,.tmp 4]
noncomputable def F (d:MX×Unit):Option ((MX×LI×Int×Unit)×(Unit)):=anyK (a9u cfg fin (bd f91) (a6P sig.ps d 246))
variable (k:Nat) (i6 i7 i8:Int) (x9:LI) (i10 i11 i12 i13 i14 i15 i16 i17:Int) (x18:LI) (i19 i20 i21:Int) (x22 x23:LI)
noncomputable def l8:Option ((MX×LI×Int×Unit)×(Unit)):=Vm.runT cfg fin k [.inLoop (sub [1,1,1,1,1,1,1,0,1,0,0] (bd f91)),.inBlock 0,.code (sub [1,1,1,1,1,1,1,1] (bd f91))] ⟨[.rptr false [cI i6,cI i7,cI i8,cL x9],dD,.ref 8 (.root 0),dD,dD,.ref 20 (.root 0),vI i10,vI i11,.view 32 (.root 0) 1 false,vI i12,vI i13,vI i14]++a9B 234,[(8,⟨true,[cI i15,cI i16,cI i17,dL x18]⟩),(20,⟨true,[cI i19,cI i20,cI i21,dL x22]⟩),(32,⟨false,[dL x23]⟩)]⟩
variable (i24 i25 i26:Int) (x27:LI) (i28 i29 i30 i31 i32 i33 i34 i35 i36:Int) (x37:LI) (i38 i39 i40:Int) (x41 x42:LI)
noncomputable def l11:Option ((MX×LI×Int×Unit)×(Unit)):=Vm.runT cfg fin k [.inLoop (sub [1,1,1,1,1,1,1,0,1,0,0,1,0,0,1,0,0,0] (bd f91)),.inBlock 2,.code (sub [1,1,1,1,1,1,1,0,1,0,0,1,0,0,1,1] (bd f91)),.inBlock 1,.code (sub [1,1,1,1,1,1,1,0,1,0,0,1,1] (bd f91)),.inLoop (sub [1,1,1,1,1,1,1,0,1,0,0] (bd f91)),.inBlock 0,.code (sub [1,1,1,1,1,1,1,1] (bd f91))] ⟨[.rptr false [cI i24,cI i25,cI i26,cL x27],dD,.ref 8 (.root 0),dD,dD,.ref 20 (.root 0),vI i28,vI i29,.view 32 (.root 0) 1 false,vI i30,vI i31,vI i32,vI i33]++a9B 233,[(8,⟨true,[cI i34,cI i35,cI i36,dL x37]⟩),(20,⟨true,[cI i38,cI i39,cI i40,dL x41]⟩),(32,⟨false,[dL x42]⟩)]⟩
variable (i43 i44 i45:Int) (x46:LI) (i47 i48 i49 i50 i51 i52 i53 i54 i55 i56:Int) (x57:LI) (i58 i59 i60:Int) (x61 x62:LI)
noncomputable def l17:Option ((MX×LI×Int×Unit)×(Unit)):=Vm.runT cfg fin k [.inLoop (sub [1,1,1,1,1,1,1,0,1,0,0,1,0,0,1,1,1,0,1,0,1,1,0,0] (bd f91)),.inBlock 4,.code (sub [1,1,1,1,1,1,1,0,1,0,0,1,0,0,1,1,1,1] (bd f91)),.inBlock 1,.code (sub [1,1,1,1,1,1,1,0,1,0,0,1,1] (bd f91)),.inLoop (sub [1,1,1,1,1,1,1,0,1,0,0] (bd f91)),.inBlock 0,.code (sub [1,1,1,1,1,1,1,1] (bd f91))] ⟨[.rptr false [cI i43,cI i44,cI i45,cL x46],dD,.ref 8 (.root 0),dD,dD,.ref 20 (.root 0),vI i47,vI i48,.view 32 (.root 0) 1 false,vI i49,vI i50,vI i51,vI i52,vI i53]++a9B 232,[(8,⟨true,[cI i54,cI i55,cI i56,dL x57]⟩),(20,⟨true,[cI i58,cI i59,cI i60,dL x61]⟩),(32,⟨false,[dL x62]⟩)]⟩
variable (i66 i67 i68:Int) (x69:LI) (i70 i71 i72 i73 i74 i75 i76 i77 i78 i79:Int) (x80:LI) (i81 i82 i83:Int) (x84 x85:LI)
noncomputable def l26:Option ((MX×LI×Int×Unit)×(Unit)):=Vm.runT cfg fin k [.inLoop (sub [1,1,1,1,1,1,1,0,1,0,0,1,0,0,1,1,1,1,1,1,1,0,1,0,0] (bd f91)),.inBlock 6,.code (sub [1,1,1,1,1,1,1,0,1,0,0,1,0,0,1,1,1,1,1,1,1,1] (bd f91)),.inBlock 1,.code (sub [1,1,1,1,1,1,1,0,1,0,0,1,1] (bd f91)),.inLoop (sub [1,1,1,1,1,1,1,0,1,0,0] (bd f91)),.inBlock 0,.code (sub [1,1,1,1,1,1,1,1] (bd f91))] ⟨[.rptr false [cI i66,cI i67,cI i68,cL x69],dD,.ref 8 (.root 0),dD,dD,.ref 20 (.root 0),vI i70,vI i71,.view 32 (.root 0) 1 false,vI i72,vI i73,vI i74,dD,dD,dD,dD,vI i75,vI i76]++a9B 228,[(8,⟨true,[cI i77,cI i78,cI i79,dL x80]⟩),(20,⟨true,[cI i81,cI i82,cI i83,dL x84]⟩),(32,⟨false,[dL x85]⟩)]⟩
variable (i87 i88 i89:Int) (x90:LI) (i91 i92 i93 i94 i95 i96 i97 i98 i99:Int) (x100:LI) (i101 i102 i103:Int) (x104 x105:LI)
noncomputable def l30:Option ((MX×LI×Int×Unit)×(Unit)):=Vm.runT cfg fin k [.inLoop (sub [1,1,1,1,1,1,1,0,1,0,0,1,0,0,1,1,1,1,1,1,1,1,0,1,0,0] (bd f91)),.inBlock 8,.code (sub [1,1,1,1,1,1,1,0,1,0,0,1,0,0,1,1,1,1,1,1,1,1,1] (bd f91)),.inBlock 1,.code (sub [1,1,1,1,1,1,1,0,1,0,0,1,1] (bd f91)),.inLoop (sub [1,1,1,1,1,1,1,0,1,0,0] (bd f91)),.inBlock 0,.code (sub [1,1,1,1,1,1,1,1] (bd f91))] ⟨[.rptr false [cI i87,cI i88,cI i89,cL x90],dD,.ref 8 (.root 0),dD,dD,.ref 20 (.root 0),vI i91,vI i92,.view 32 (.root 0) 1 false,vI i93,vI i94,vI i95,dD,dD,dD,dD,dD,dD,vI i96]++a9B 227,[(8,⟨true,[cI i97,cI i98,cI i99,dL x100]⟩),(20,⟨true,[cI i101,cI i102,cI i103,dL x104]⟩),(32,⟨false,[dL x105]⟩)]⟩
variable (i106 i107 i108:Int) (x109:LI) (i110 i111 i112 i113 i114 i115 i116 i117 i118 i119 i120:Int) (x121:LI) (i122 i123 i124:Int) (x125 x126:LI)
noncomputable def l35:Option ((MX×LI×Int×Unit)×(Unit)):=Vm.runT cfg fin k [.inLoop (sub [1,1,1,1,1,1,1,0,1,0,0,1,0,0,1,1,1,1,1,1,1,1,0,1,0,0,1,0,0,1,1,1,0,0] (bd f91)),.inBlock 10,.inBlock 9,.code (sub [1,1,1,1,1,1,1,0,1,0,0,1,0,0,1,1,1,1,1,1,1,1,0,1,0,0,1,1] (bd f91)),.inLoop (sub [1,1,1,1,1,1,1,0,1,0,0,1,0,0,1,1,1,1,1,1,1,1,0,1,0,0] (bd f91)),.inBlock 8,.code (sub [1,1,1,1,1,1,1,0,1,0,0,1,0,0,1,1,1,1,1,1,1,1,1] (bd f91)),.inBlock 1,.code (sub [1,1,1,1,1,1,1,0,1,0,0,1,1] (bd f91)),.inLoop (sub [1,1,1,1,1,1,1,0,1,0,0] (bd f91)),.inBlock 0,.code (sub [1,1,1,1,1,1,1,1] (bd f91))] ⟨[.rptr false [cI i106,cI i107,cI i108,cL x109],dD,.ref 8 (.root 0),dD,dD,.ref 20 (.root 0),vI i110,vI i111,.view 32 (.root 0) 1 false,vI i112,vI i113,vI i114,dD,dD,dD,dD,dD,dD,vI i115,vI i116,vI i117]++a9B 225,[(8,⟨true,[cI i118,cI i119,cI i120,dL x121]⟩),(20,⟨true,[cI i122,cI i123,cI i124,dL x125]⟩),(32,⟨false,[dL x126]⟩)]⟩
theorem l8_eq:l8 (k+1) i6 i7 i8 x9 i10 i11 i12 i13 i14 i15 i16 i17 x18 i19 i20 i21 x22 x23=if (decide (i14<i11))=true then if (decide (i13<i7))=true then l11 k i6 i7 i8 x9 i10 i11 i12 i13 i14 i13 i15 i16 i17 x18 i19 i20 i21 x22 x23 else some (((i19,(i20,(i21,x22))),(x23,(i12,()))),())else some (((i19,(i20,(i21,x22))),(x23,(i12,()))),()):=by kernel_rfl
theorem l11_eq:l11 (k+1) i24 i25 i26 x27 i28 i29 i30 i31 i32 i33 i34 i35 i36 x37 i38 i39 i40 x41 x42=if (decide (i33<i25))=true then if 0≤(za.wrap ((za.wrap (i33*i29))+i32))∧(za.wrap ((za.wrap (i33*i29))+i32))<(x41.length:Int)then if ((x41.getD (za.wrap ((za.wrap (i33*i29))+i32)).toNat 0:Int)==0)=true then l11 k i24 i25 i26 x27 i28 i29 i30 i31 i32 (za.wrap (i33+1)) i34 i35 i36 x37 i38 i39 i40 x41 x42 else if (i33==i25)=true then l8 k i24 i25 i26 x27 i28 i29 i30 i31 (za.wrap (i32+1)) i34 i35 i36 x37 i38 i39 i40 x41 x42 else if (i33 !=i31)=true then l17 k i24 i25 i26 x27 i28 i29 (za.wrap (i28-i30)) i31 i32 i33 (0:Int) i34 i35 i36 x37 i38 i39 i40 x41 x42 else if 0≤(za.wrap ((za.wrap (i31*i29))+i32))∧(za.wrap ((za.wrap (i31*i29))+i32))<(x41.length:Int)then if i28=0 then none else(Ai0.F ((x41.getD (za.wrap ((za.wrap (i31*i29))+i32)).toNat 0:Int),i28,())).bind fun r129=>l26 k i24 i25 i26 x27 i28 i29 ((za.wrap (i30*(x41.getD (za.wrap ((za.wrap (i31*i29))+i32)).toNat 0:Int))).tmod i28) i31 i32 r129.1.1 (0:Int) i34 i35 i36 x37 i38 i39 i40 x41 x42 else none else none else if (i33==i25)=true then l8 k i24 i25 i26 x27 i28 i29 i30 i31 (za.wrap (i32+1)) i34 i35 i36 x37 i38 i39 i40 x41 x42 else if (i33 !=i31)=true then l17 k i24 i25 i26 x27 i28 i29 (za.wrap (i28-i30)) i31 i32 i33 (0:Int) i34 i35 i36 x37 i38 i39 i40 x41 x42 else if 0≤(za.wrap ((za.wrap (i31*i29))+i32))∧(za.wrap ((za.wrap (i31*i29))+i32))<(x41.length:Int)then if i28=0 then none else(Ai0.F ((x41.getD (za.wrap ((za.wrap (i31*i29))+i32)).toNat 0:Int),i28,())).bind fun r130=>l26 k i24 i25 i26 x27 i28 i29 ((za.wrap (i30*(x41.getD (za.wrap ((za.wrap (i31*i29))+i32)).toNat 0:Int))).tmod i28) i31 i32 r130.1.1 (0:Int) i34 i35 i36 x37 i38 i39 i40 x41 x42 else none:=by kernel_rfl
theorem l17_eq:l17 (k+1) i43 i44 i45 x46 i47 i48 i49 i50 i51 i52 i53 i54 i55 i56 x57 i58 i59 i60 x61 x62=if (decide (i53<i48))=true then if 0≤(za.wrap ((za.wrap (i52*i48))+i53))∧(za.wrap ((za.wrap (i52*i48))+i53))<(x61.length:Int)then if 0≤(za.wrap ((za.wrap (i50*i48))+i53))∧(za.wrap ((za.wrap (i50*i48))+i53))<(x61.length:Int)then if 0≤(za.wrap ((za.wrap (i52*i48))+i53))∧(za.wrap ((za.wrap (i52*i48))+i53))<(x61.length:Int)then let y63:LI:=x61.set (za.wrap ((za.wrap (i52*i48))+i53)).toNat (x61.getD (za.wrap ((za.wrap (i50*i48))+i53)).toNat 0:Int);if 0≤(za.wrap ((za.wrap (i50*i48))+i53))∧(za.wrap ((za.wrap (i50*i48))+i53))<(y63.length:Int)then let y64:LI:=y63.set (za.wrap ((za.wrap (i50*i48))+i53)).toNat (x61.getD (za.wrap ((za.wrap (i52*i48))+i53)).toNat 0:Int);l17 k i43 i44 i45 x46 i47 i48 i49 i50 i51 i52 (za.wrap (i53+1)) i54 i55 i56 x57 i58 i59 i60 y64 x62 else none else none else none else none else if 0≤(za.wrap ((za.wrap (i50*i48))+i51))∧(za.wrap ((za.wrap (i50*i48))+i51))<(x61.length:Int)then if i47=0 then none else(Ai0.F ((x61.getD (za.wrap ((za.wrap (i50*i48))+i51)).toNat 0:Int),i47,())).bind fun r65=>l26 k i43 i44 i45 x46 i47 i48 ((za.wrap (i49*(x61.getD (za.wrap ((za.wrap (i50*i48))+i51)).toNat 0:Int))).tmod i47) i50 i51 r65.1.1 (0:Int) i54 i55 i56 x57 i58 i59 i60 x61 x62 else none:=by kernel_rfl
theorem l26_eq:l26 (k+1) i66 i67 i68 x69 i70 i71 i72 i73 i74 i75 i76 i77 i78 i79 x80 i81 i82 i83 x84 x85=if (decide (i76<i71))=true then if 0≤(za.wrap ((za.wrap (i73*i71))+i76))∧(za.wrap ((za.wrap (i73*i71))+i76))<(x84.length:Int)then if i70=0 then none else if 0≤(za.wrap ((za.wrap (i73*i71))+i76))∧(za.wrap ((za.wrap (i73*i71))+i76))<(x84.length:Int)then let y86:LI:=x84.set (za.wrap ((za.wrap (i73*i71))+i76)).toNat ((za.wrap ((x84.getD (za.wrap ((za.wrap (i73*i71))+i76)).toNat 0:Int)*i75)).tmod i70);l26 k i66 i67 i68 x69 i70 i71 i72 i73 i74 i75 (za.wrap (i76+1)) i77 i78 i79 x80 i81 i82 i83 y86 x85 else none else none else l30 k i66 i67 i68 x69 i70 i71 i72 i73 i74 (0:Int) i77 i78 i79 x80 i81 i82 i83 x84 x85:=by kernel_rfl
theorem l30_eq:l30 (k+1) i87 i88 i89 x90 i91 i92 i93 i94 i95 i96 i97 i98 i99 x100 i101 i102 i103 x104 x105=if (decide (i96<i88))=true then if 0≤(za.wrap ((za.wrap (i96*i92))+i95))∧(za.wrap ((za.wrap (i96*i92))+i95))<(x104.length:Int)then if (i96==i94)=true then l30 k i87 i88 i89 x90 i91 i92 i93 i94 i95 (za.wrap (i96+1)) i97 i98 i99 x100 i101 i102 i103 x104 x105 else if ((x104.getD (za.wrap ((za.wrap (i96*i92))+i95)).toNat 0:Int)==0)=true then l30 k i87 i88 i89 x90 i91 i92 i93 i94 i95 (za.wrap (i96+1)) i97 i98 i99 x100 i101 i102 i103 x104 x105 else l35 k i87 i88 i89 x90 i91 i92 i93 i94 i95 i96 (x104.getD (za.wrap ((za.wrap (i96*i92))+i95)).toNat 0:Int) (0:Int) i97 i98 i99 x100 i101 i102 i103 x104 x105 else none else if x105.length+[i95].length≤bigA then l8 k i87 i88 i89 x90 i91 i92 i93 (za.wrap (i94+1)) (za.wrap (i95+1)) i97 i98 i99 x100 i101 i102 i103 x104 (x105++[i95])else none:=by kernel_rfl
theorem l35_eq:l35 (k+1) i106 i107 i108 x109 i110 i111 i112 i113 i114 i115 i116 i117 i118 i119 i120 x121 i122 i123 i124 x125 x126=if (decide (i117<i111))=true then if 0≤(za.wrap ((za.wrap (i115*i111))+i117))∧(za.wrap ((za.wrap (i115*i111))+i117))<(x125.length:Int)then if 0≤(za.wrap ((za.wrap (i113*i111))+i117))∧(za.wrap ((za.wrap (i113*i111))+i117))<(x125.length:Int)then(As3.F (za.wrap ((x125.getD (za.wrap ((za.wrap (i115*i111))+i117)).toNat 0:Int)-(za.wrap (i116*(x125.getD (za.wrap ((za.wrap (i113*i111))+i117)).toNat 0:Int)))),i110,())).bind fun r127=>if 0≤(za.wrap ((za.wrap (i115*i111))+i117))∧(za.wrap ((za.wrap (i115*i111))+i117))<(x125.length:Int)then let y128:LI:=x125.set (za.wrap ((za.wrap (i115*i111))+i117)).toNat r127.1.1;l35 k i106 i107 i108 x109 i110 i111 i112 i113 i114 i115 i116 (za.wrap (i117+1)) i118 i119 i120 x121 i122 i123 i124 y128 x126 else none else none else none else l30 k i106 i107 i108 x109 i110 i111 i112 i113 i114 (za.wrap (i115+1)) i118 i119 i120 x121 i122 i123 i124 x125 x126:=by kernel_rfl
variable (t_1 t_2 t_3:Int) (t_4:LI)
noncomputable def T:Option ((MX×LI×Int×Unit)×(Unit)):=(Aa3.F (t_4,())).bind fun r5=>l8 k t_1 t_2 t_3 t_4 t_1 t_3 (1:Int) (0:Int) (0:Int) 0 0 0 ([]) t_1 t_2 t_3 r5.1.1 ([]:LI)
theorem of {r} (h:Ev (fun k=>T k t_1 t_2 t_3 t_4) r):F ((t_1,(t_2,(t_3,t_4))),())=some r:=Ev.run (fun k=>by kernel_rfl) h
theorem S:a3P prog ⟨91,sig,F⟩:=sound_k (res:=[.cell 2 65,.tmp 3,.tmp 4]) func91 (cok (cM ⟨Aa3.S,cM ⟨Ai0.S,cM ⟨As3.S,nM⟩⟩⟩))
end Aa1
namespace Ah5
noncomputable def sig:Sig:=⟨[qM,pL],[oL,oB]⟩
noncomputable def cfg:Cfg:=cl (cx [⟨90,An4.sig,An4.F⟩,⟨91,Aa1.sig,Aa1.F⟩]) fun id=>match id with|6=>([0,7,8,9,11,12],[28,32,36,44])|_=>([],[])
noncomputable def fin:=finK cfg.c sig [.tmp 4,.tmp 5]
noncomputable def F (d:MX×LI×Unit):Option ((LI×Bool×Unit)×(Unit)):=anyK (a9u cfg fin (bd f49) (a6P sig.ps d 70))
variable (k:Nat) (i8 i9 i10:Int) (x11:LI) (i12 i13 i14 i15:Int) (x16:LI) (i17 i18 i19:Int) (x20 x21 x22:LI)
noncomputable def l6:Option ((LI×Bool×Unit)×(Unit)):=Vm.runT cfg fin k [.inLoop (sub [1,1,1,1,1,0,1,0,0] (bd f49)),.inBlock 0,.code (sub [1,1,1,1,1,1] (bd f49))] ⟨[.rptr false [cI i8,cI i9,cI i10,cL x11],dD,dD,dD,dD,dD,dD,.ref 28 (.root 0),.ref 32 (.root 0),.view 36 (.root 0) 1 false,dD,.view 44 (.root 0) 1 false,vI i12]++a9B 57,[(28,⟨true,[cI i13,cI i14,cI i15,dL x16]⟩),(32,⟨true,[cI i17,cI i18,cI i19,dL x20]⟩),(36,⟨false,[dL x21]⟩),(44,⟨false,[dL x22]⟩)]⟩
theorem l6_eq:l6 (k+1) i8 i9 i10 x11 i12 i13 i14 i15 x16 i17 i18 i19 x20 x21 x22=if (decide (i12<(x21.length:Int)))=true then if 0≤i12∧i12<(x21.length:Int)then if ((x21.getD i12.toNat 0:Int)==i10)=true then some (([],(false,())),())else if 0≤i12∧i12<(x21.length:Int)then if 0≤(za.wrap ((za.wrap (i12*i15))+i10))∧(za.wrap ((za.wrap (i12*i15))+i10))<(x20.length:Int)then if 0≤(x21.getD i12.toNat 0:Int)∧(x21.getD i12.toNat 0:Int)<(x22.length:Int)then let y23:LI:=x22.set (x21.getD i12.toNat 0:Int).toNat (x20.getD (za.wrap ((za.wrap (i12*i15))+i10)).toNat 0:Int);l6 k i8 i9 i10 x11 (za.wrap (i12+1)) i13 i14 i15 x16 i17 i18 i19 x20 x21 y23 else none else none else none else none else some ((x22,(true,())),()):=by kernel_rfl
variable (t_1 t_2 t_3:Int) (t_4 a_5:LI)
noncomputable def T:Option ((LI×Bool×Unit)×(Unit)):=(An4.F ((t_1,(t_2,(t_3,t_4))),(t_1,(t_2,((1:Int),a_5))),())).bind fun r6=>(Aa1.F (r6.1.1,())).bind fun r7=>if 0≤t_3∧t_3≤(bigN:Int)then l6 k t_1 t_2 t_3 t_4 (0:Int) r6.1.1.1 r6.1.1.2.1 r6.1.1.2.2.1 r6.1.1.2.2.2 r7.1.1.1 r7.1.1.2.1 r7.1.1.2.2.1 r7.1.1.2.2.2 r7.1.2.1 (zb t_3.toNat (0:Int))else none
theorem of {r} (h:Ev (fun k=>T k t_1 t_2 t_3 t_4 a_5) r):F ((t_1,(t_2,(t_3,t_4))),a_5,())=some r:=Ev.run (fun k=>by kernel_rfl) h
theorem S:a3P prog ⟨49,sig,F⟩:=sound_k (res:=[.tmp 4,.tmp 5]) func49 (cok (cM ⟨An4.S,cM ⟨Aa1.S,nM⟩⟩))
end Ah5
namespace Ac1
noncomputable def sig:Sig:=⟨[pS,pC,pC,pL],[oL,oL,oI]⟩
noncomputable def cfg:Cfg:=cl (⟨a2n tabl,[⟨24,Am0.sig,Am0.F⟩,⟨41,Ae8.sig,Ae8.F⟩,⟨42,Ac4.sig,Ac4.F⟩,⟨43,Ad9.sig,Ad9.F⟩,⟨44,Aa3.sig,Aa3.F⟩,⟨45,Ac5.sig,Ac5.F⟩,⟨46,Af6.sig,Af6.F⟩,⟨47,Ah7.sig,Ah7.F⟩,⟨48,Al5.sig,Al5.F⟩,⟨49,Ah5.sig,Ah5.F⟩],[],[],[],[152,156]⟩) fun id=>match id with|11=>([3,4,5,6,13,14,15,16,17,18],[16,20,24,52,64,68])|16=>([3,4,5,6,14,15,16,17,19],[16,20,24,64,68])|25=>([3,4,14,15,16,20,22,23,24,25],[16,64,80,88,92,96])|28=>([3,4,14,15,16,20,22,23,24,25,26],[16,64,80,88,92,96])|_=>([],[])
noncomputable def fin:=finK cfg.c sig [.tmp 8,.tmp 9,.tmp 10]
noncomputable def F (d:SF×LL×LL×LI×Unit):Option ((LI×LI×Int×Unit)×(Unit)):=anyK (a9u cfg fin (bd f19) (a6P sig.ps d 158))
variable (k:Nat) (x14:LI) (i15 i16 i17:Int) (x18:LL) (i19:Int) (x20:LI) (x21:LM) (x22 x23 x24:LL) (i25:Int) (x26:LI) (x27:LM) (x28 x29:LL)
noncomputable def l11:Option ((LI×LI×Int×Unit)×(Unit)):=Vm.runT cfg fin k [.inLoop (sub [1,1,1,1,1,1,1,1,1,0,1,0,0] (bd f19)),.inBlock 0,.code (sub [1,1,1,1,1,1,1,1,1,1] (bd f19))] ⟨[dD,dD,dD,vL x14,.ref 16 (.root 0),.ref 20 (.root 0),.ref 24 (.root 0),dD,dD,dD,dD,dD,dD,.ref 52 (.root 0),vI i15,vI i16,.view 64 (.root 0) 1 false,.view 68 (.root 0) 1 false,vI i17]++a9B 139,[(16,⟨true,[cQ x18,cI i19,cL x20,⟨(.sl TMatrix),.sh,x21⟩]⟩),(20,⟨true,[cQ x22]⟩),(24,⟨true,[cQ x23]⟩),(52,⟨true,[dQ x24,cI i25,dL x26,⟨(.sl TMatrix),.deep,x27⟩]⟩),(64,⟨false,[dQ x28]⟩),(68,⟨false,[dQ x29]⟩)]⟩
variable (x32:LI) (i33 i34 i35:Int) (x36:LL) (i37:Int) (x38:LI) (x39:LM) (x40 x41 x42 x43:LL)
noncomputable def l16:Option ((LI×LI×Int×Unit)×(Unit)):=Vm.runT cfg fin k [.inLoop (sub [1,1,1,1,1,1,1,1,1,1,1,0,1,0,0] (bd f19)),.inBlock 2,.code (sub [1,1,1,1,1,1,1,1,1,1,1,1] (bd f19))] ⟨[dD,dD,dD,vL x32,.ref 16 (.root 0),.ref 20 (.root 0),.ref 24 (.root 0),dD,dD,dD,dD,dD,dD,dD,vI i33,vI i34,.view 64 (.root 0) 1 false,.view 68 (.root 0) 1 false,dD,vI i35]++a9B 138,[(16,⟨true,[cQ x36,cI i37,cL x38,⟨(.sl TMatrix),.sh,x39⟩]⟩),(20,⟨true,[cQ x40]⟩),(24,⟨true,[cQ x41]⟩),(64,⟨false,[dQ x42]⟩),(68,⟨false,[dQ x43]⟩)]⟩
variable (x48:LI) (i49 i50 i51:Int) (x52:LL) (i53:Int) (x54:LI) (x55:LM) (x56:LL) (x57 x58 x59 x60:LI)
noncomputable def l25:Option ((LI×LI×Int×Unit)×(Unit)):=Vm.runT cfg fin k [.inLoop (sub [1,1,1,1,1,1,1,1,1,1,1,1,1,1,1,1,1,0,1,0,0] (bd f19)),.inBlock 4,.code (sub [1,1,1,1,1,1,1,1,1,1,1,1,1,1,1,1,1,1] (bd f19))] ⟨[dD,dD,dD,vL x48,.ref 16 (.root 0),dD,dD,dD,dD,dD,dD,dD,dD,dD,vI i49,vI i50,.view 64 (.root 0) 1 false,dD,dD,dD,.view 80 (.root 0) 1 false,dD,.view 88 (.root 0) 1 false,.view 92 (.root 0) 1 false,.view 96 (.root 0) 1 false,vI i51]++a9B 132,[(16,⟨true,[cQ x52,cI i53,cL x54,⟨(.sl TMatrix),.sh,x55⟩]⟩),(64,⟨false,[dQ x56]⟩),(80,⟨false,[dL x57]⟩),(88,⟨false,[dL x58]⟩),(92,⟨false,[dL x59]⟩),(96,⟨false,[dL x60]⟩)]⟩
variable (x61:LI) (i62 i63 i64 i65:Int) (x66:LL) (i67:Int) (x68:LI) (x69:LM) (x70:LL) (x71 x72 x73 x74:LI)
noncomputable def l28:Option ((LI×LI×Int×Unit)×(Unit)):=Vm.runT cfg fin k [.inLoop (sub [1,1,1,1,1,1,1,1,1,1,1,1,1,1,1,1,1,0,1,0,0,1,0,0,1,0,0] (bd f19)),.inBlock 6,.inBlock 5,.code (sub [1,1,1,1,1,1,1,1,1,1,1,1,1,1,1,1,1,0,1,0,0,1,1] (bd f19)),.inLoop (sub [1,1,1,1,1,1,1,1,1,1,1,1,1,1,1,1,1,0,1,0,0] (bd f19)),.inBlock 4,.code (sub [1,1,1,1,1,1,1,1,1,1,1,1,1,1,1,1,1,1] (bd f19))] ⟨[dD,dD,dD,vL x61,.ref 16 (.root 0),dD,dD,dD,dD,dD,dD,dD,dD,dD,vI i62,vI i63,.view 64 (.root 0) 1 false,dD,dD,dD,.view 80 (.root 0) 1 false,dD,.view 88 (.root 0) 1 false,.view 92 (.root 0) 1 false,.view 96 (.root 0) 1 false,vI i64,vI i65]++a9B 131,[(16,⟨true,[cQ x66,cI i67,cL x68,⟨(.sl TMatrix),.sh,x69⟩]⟩),(64,⟨false,[dQ x70]⟩),(80,⟨false,[dL x71]⟩),(88,⟨false,[dL x72]⟩),(92,⟨false,[dL x73]⟩),(96,⟨false,[dL x74]⟩)]⟩
theorem l11_eq:l11 (k+1) x14 i15 i16 i17 x18 i19 x20 x21 x22 x23 x24 i25 x26 x27 x28 x29=if (decide (i17<(x29.length:Int)))=true then if 0≤i17∧i17<(x29.length:Int)then(Aa3.F (x29.getD i17.toNat ([]:LI),())).bind fun r30=>if 0≤(za.wrap (i16-i15))∧r30.1.1.length+(za.wrap (i16-i15)).toNat≤bigA then if x28.length+[r30.1.1++zb (za.wrap (i16-i15)).toNat (0:Int)].length≤bigA then l11 k x14 i15 i16 (za.wrap (i17+1)) x18 i19 x20 x21 x22 x23 x24 i25 x26 x27 (x28++[r30.1.1++zb (za.wrap (i16-i15)).toNat (0:Int)]) x29 else none else none else none else(Ad9.F ((x24,(i25,(x26,x27))),())).bind fun r31=>l16 k x14 i15 i16 (0:Int) x18 i19 x20 x21 x22 x23 x28 r31.1.1:=by kernel_rfl
theorem l16_eq:l16 (k+1) x32 i33 i34 i35 x36 i37 x38 x39 x40 x41 x42 x43=if (decide (i35<(x43.length:Int)))=true then if 0≤i33∧i33≤(bigN:Int)then if 0≤i35∧i35<(x43.length:Int)then if (zb i33.toNat (0:Int)).length+(x43.getD i35.toNat ([]:LI)).length≤bigA then if x42.length+[(zb i33.toNat (0:Int))++(x43.getD i35.toNat ([]:LI))].length≤bigA then l16 k x32 i33 i34 (za.wrap (i35+1)) x36 i37 x38 x39 x40 x41 (x42++[(zb i33.toNat (0:Int))++(x43.getD i35.toNat ([]:LI))]) x43 else none else none else none else none else if 0≤(x42.length:Int)∧(x42.length:Int)≤(bigN:Int)then(Ac5.F (x40,x41,())).bind fun r44=>(Af6.F ((x36,(i37,(x38,x39))),r44.1.1,())).bind fun r45=>(Af6.F ((x36,(i37,(x38,x39))),x40,())).bind fun r46=>(Af6.F ((x36,(i37,(x38,x39))),x41,())).bind fun r47=>l25 k x32 i33 i34 (0:Int) x36 i37 x38 x39 x42 (zb (x42.length:Int).toNat (0:Int)) r45.1.1 r46.1.1 r47.1.1 else none:=by kernel_rfl
theorem l25_eq:l25 (k+1) x48 i49 i50 i51 x52 i53 x54 x55 x56 x57 x58 x59 x60=if (decide (i51<(x58.length:Int)))=true then l28 k x48 i49 i50 i51 (0:Int) x52 i53 x54 x55 x56 x57 x58 x59 x60 else if x57.length+x48.length≤bigA then(Al5.F (i53,i50,x56,())).bind fun r79=>(Ah5.F (r79.1.1,x57++x48,())).bind fun r80=>if (!r80.1.2.1)=true then some (([],([],((3:Int),()))),())else if 0≤(0:Int)∧(0:Int)≤i49∧i49≤(r80.1.1.length:Int)then(Aa3.F (cutL r80.1.1 (0:Int) i49,())).bind fun r81=>if 0≤i49∧i49≤(r80.1.1.length:Int)∧(r80.1.1.length:Int)≤(r80.1.1.length:Int)then(Aa3.F (cutL r80.1.1 i49 (r80.1.1.length:Int),())).bind fun r82=>some ((r81.1.1,(r82.1.1,((0:Int),()))),())else none else none else none:=by kernel_rfl
theorem l28_eq:l28 (k+1) x61 i62 i63 i64 i65 x66 i67 x68 x69 x70 x71 x72 x73 x74=if 0≤i64∧i64<(x72.length:Int)then if 0≤(x72.getD i64.toNat 0:Int)∧(x72.getD i64.toNat 0:Int)<(x68.length:Int)then if (decide (i65<(x68.getD (x72.getD i64.toNat 0:Int).toNat 0)))=true then if 0≤i63∧i63≤(bigN:Int)then if 0≤i64∧i64<(x72.length:Int)then(Ah7.F ((x66,(i67,(x68,x69))),x73,(x72.getD i64.toNat 0:Int),())).bind fun r75=>if 0≤(za.wrap (r75.1.1+i65))∧(za.wrap (r75.1.1+i65))<((zb i63.toNat (0:Int)).length:Int)then let y76:LI:=(zb i63.toNat (0:Int)).set (za.wrap (r75.1.1+i65)).toNat (1:Int);if 0≤i64∧i64<(x72.length:Int)then(Ah7.F ((x66,(i67,(x68,x69))),x74,(x72.getD i64.toNat 0:Int),())).bind fun r77=>if 0≤(za.wrap ((za.wrap (i62+r77.1.1))+i65))∧(za.wrap ((za.wrap (i62+r77.1.1))+i65))<(y76.length:Int)then let y78:LI:=y76.set (za.wrap ((za.wrap (i62+r77.1.1))+i65)).toNat (za.wrap (i67-1));if x70.length+[y78].length≤bigA then l28 k x61 i62 i63 i64 (za.wrap (i65+1)) x66 i67 x68 x69 (x70++[y78]) x71 x72 x73 x74 else none else none else none else none else none else none else l25 k x61 i62 i63 (za.wrap (i64+1)) x66 i67 x68 x69 x70 x71 x72 x73 x74 else none else none:=by kernel_rfl
variable (t_1:LL) (t_2:Int) (t_3:LI) (t_4:LM) (a_5 a_6:LL) (a_7:LI)
noncomputable def T:Option ((LI×LI×Int×Unit)×(Unit)):=(Am0.F ((t_1,(t_2,(t_3,t_4))),a_5,a_6,a_7,())).bind fun r8=>if (r8.1.1 !=0)=true then some (([],([],(r8.1.1,()))),())else(Ae8.F ((t_1,(t_2,(t_3,t_4))),a_5,())).bind fun r9=>(Ae8.F ((t_1,(t_2,(t_3,t_4))),a_6,())).bind fun r10=>(Ac4.F (r9.1.1,())).bind fun r11=>(Ac4.F (r10.1.1,())).bind fun r12=>(Ad9.F (r9.1.1,())).bind fun r13=>l11 k a_7 r11.1.1 (za.wrap (r11.1.1+r12.1.1)) (0:Int) t_1 t_2 t_3 t_4 a_5 a_6 r10.1.1.1 r10.1.1.2.1 r10.1.1.2.2.1 r10.1.1.2.2.2 ([]:LL) r13.1.1
theorem of {r} (h:Ev (fun k=>T k t_1 t_2 t_3 t_4 a_5 a_6 a_7) r):F ((t_1,(t_2,(t_3,t_4))),a_5,a_6,a_7,())=some r:=Ev.run (fun k=>by kernel_rfl) h
theorem S:a3P prog ⟨19,sig,F⟩:=sound_k (res:=[.tmp 8,.tmp 9,.tmp 10]) func19 (⟨nM,mixed_ok,tab_ok tab_good,cM ⟨Am0.S,cM ⟨Ae8.S,cM ⟨Ac4.S,cM ⟨Ad9.S,cM ⟨Aa3.S,cM ⟨Ac5.S,cM ⟨Af6.S,cM ⟨Ah7.S,cM ⟨Al5.S,cM ⟨Ah5.S,nM⟩⟩⟩⟩⟩⟩⟩⟩⟩⟩,nM,nM⟩)
end Ac1
namespace Ab2
noncomputable def sig:Sig:=⟨[pL],[oL]⟩
noncomputable def cfg:Cfg:=cf (cx [])
noncomputable def fin:=finK cfg.c sig [.tmp 2]
noncomputable def F (d:LI×Unit):OL:=anyK (a9u cfg fin (bd f57) (a6P sig.ps d 8))
variable (s_1:LI)
noncomputable def T:OL:=if 0<s_1.length then if ([]:LI).length+s_1.length≤bigA then some ((([]:LI)++s_1,()),())else none else both ( some (([],()),()) ) ( if ([]:LI).length+s_1.length≤bigA then some ((([]:LI)++s_1,()),())else none )
theorem eq:F (s_1,())=T s_1:=eq_any fun k=>by kernel_rfl
theorem S:a3P prog ⟨57,sig,F⟩:=sound_k (res:=[.tmp 2]) func57 (cok nM)
end Ab2
namespace Am3
noncomputable def sig:Sig:=⟨[pQ],[oQ]⟩
noncomputable def cfg:Cfg:=cl (cx [⟨57,Ab2.sig,Ab2.F⟩]) fun id=>match id with|3=>([3,6,7,8],[12])|_=>([],[])
noncomputable def fin:=finK cfg.c sig [.tmp 2]
noncomputable def F (d:LL×Unit):OQ:=anyK (a9u cfg fin (bd f151) (a6P sig.ps d 19))
variable (k:Nat) (x2:LL) (i3 i4:Int) (x5:LL)
noncomputable def l3:OQ:=Vm.runT cfg fin k [.inLoop (sub [1,1,0,1,0,0] (bd f151)),.inBlock 0,.code (sub [1,1,1] (bd f151))] ⟨[dD,dD,dD,.view 12 (.root 0) 1 false,dD,dD,vQ x2,vI i3,vI i4]++a9B 10,[(12,⟨false,[dQ x5]⟩)]⟩
theorem l3_eq:l3 (k+1) x2 i3 i4 x5=if (decide (i4<i3))=true then if 0≤i4∧i4<(x2.length:Int)then(Ab2.F (x2.getD i4.toNat ([]:LI),())).bind fun r6=>if x5.length+[r6.1.1].length≤bigA then l3 k x2 i3 (za.wrap (i4+1)) (x5++[r6.1.1])else none else none else some ((x5,()),()):=by kernel_rfl
variable (lists_1:LL)
noncomputable def T:OQ:=l3 k lists_1 (lists_1.length:Int) (0:Int) ([])
theorem of {r} (h:Ev (fun k=>T k lists_1) r):F (lists_1,())=some r:=Ev.run (fun k=>by kernel_rfl) h
theorem S:a3P prog ⟨151,sig,F⟩:=sound_k (res:=[.tmp 2]) func151 (cok (cM ⟨Ab2.S,nM⟩))
end Am3
namespace Ar4
noncomputable def sig:Sig:=sortS
noncomputable def F (d:LL×((LI×LI×Unit)→Option (Int×Unit))×Unit):Option ((Unit)×(LL×Unit)):=sortF ordS d
def ren:Go.Shelf.Ren:=⟨fun|6=>152|14=>190|15=>191|20=>209|21=>210|22=>211|23=>212|24=>213|25=>214|26=>215|27=>216|28=>217|29=>218|46=>230|47=>231|48=>232|49=>233|50=>234|57=>239|n=>n,fun|0=>0|3=>3|4=>4|5=>5|9=>9|22=>22|24=>25|25=>103|39=>142|45=>197|46=>198|50=>101|53=>204|55=>206|66=>212|70=>216|76=>220|77=>221|n=>n,fun n=>n⟩
theorem lays:Go.Proofs.SlLaysF.n6 prog ren where
  mixed:=by kernel_rfl
  f6 := ⟨"slices.SortFunc[[][]int64,[]int64]", by decide, func152.trans (congrArg some (by kernel_rfl))⟩
  f14 := ⟨"slices.pdqsortCmpFunc[[]int64]", by decide, func190.trans (congrArg some (by kernel_rfl))⟩
  f15:=func191.trans (congrArg some (by kernel_rfl))
  f20 := ⟨"slices.insertionSortCmpFunc[[]int64]", by decide, func209.trans (congrArg some (by kernel_rfl))⟩
  f21 := ⟨"slices.heapSortCmpFunc[[]int64]", by decide, func210.trans (congrArg some (by kernel_rfl))⟩
  f22 := ⟨"slices.breakPatternsCmpFunc[[]int64]", by decide, func211.trans (congrArg some (by kernel_rfl))⟩
  f23 := ⟨"slices.choosePivotCmpFunc[[]int64]", by decide, func212.trans (congrArg some (by kernel_rfl))⟩
  f24 := ⟨"slices.reverseRangeCmpFunc[[]int64]", by decide, func213.trans (congrArg some (by kernel_rfl))⟩
  f25 := ⟨"slices.partialInsertionSortCmpFunc[[]int64]", by decide, func214.trans (congrArg some (by kernel_rfl))⟩
  f26 := ⟨"slices.partitionEqualCmpFunc[[]int64]", by decide, func215.trans (congrArg some (by kernel_rfl))⟩
  f27 := ⟨"slices.partitionCmpFunc[[]int64]", by decide, func216.trans (congrArg some (by kernel_rfl))⟩
  f28:=func217.trans (congrArg some (by kernel_rfl))
  f29:=func218.trans (congrArg some (by kernel_rfl))
  f46 := ⟨"slices.siftDownCmpFunc[[]int64]", by decide, func230.trans (congrArg some (by kernel_rfl))⟩
  f47:=func231.trans (congrArg some (by kernel_rfl))
  f48:=func232.trans (congrArg some (by kernel_rfl))
  f49 := ⟨"slices.medianAdjacentCmpFunc[[]int64]", by decide, func233.trans (congrArg some (by kernel_rfl))⟩
  f50 := ⟨"slices.medianCmpFunc[[]int64]", by decide, func234.trans (congrArg some (by kernel_rfl))⟩
  f57 := ⟨"slices.order2CmpFunc[[]int64]", by decide, func239.trans (congrArg some (by kernel_rfl))⟩
  t0:=underlying0
  a0:=isAgg0
  z0:=sizeOf0
  v0:=zeroValue0
  t3:=underlying3
  a3:=isAgg3
  z3:=sizeOf3
  v3:=zeroValue3
  t4:=underlying4
  a4:=isAgg4
  z4:=sizeOf4
  v4:=zeroValue4
  t5:=underlying5
  a5:=isAgg5
  z5:=sizeOf5
  v5:=zeroValue5
  t9:=underlying9
  a9:=isAgg9
  z9:=sizeOf9
  v9:=zeroValue9
  t22:=underlying22
  a22:=isAgg22
  z22:=sizeOf22
  v22:=zeroValue22
  a24:=isAgg25
  z24:=sizeOf25
  t25:=underlying103
  a25:=isAgg103
  z25:=sizeOf103
  v25:=zeroValue103
  t39:=underlying142
  a39:=isAgg142
  z39:=sizeOf142
  v39:=zeroValue142
  t45:=underlying197
  a45:=isAgg197
  z45:=sizeOf197
  v45:=zeroValue197
  t46:=underlying198
  a46:=isAgg198
  z46:=sizeOf198
  v46:=zeroValue198
  t50:=underlying101
  a50:=isAgg101
  z50:=sizeOf101
  v50:=zeroValue101
  t53:=underlying204
  a53:=isAgg204
  z53:=sizeOf204
  v53:=zeroValue204
  t55:=underlying206
  a55:=isAgg206
  z55:=sizeOf206
  v55:=zeroValue206
  t66:=underlying212
  a66:=isAgg212
  z66:=sizeOf212
  v66:=zeroValue212
  t70:=underlying216
  a70:=isAgg216
  z70:=sizeOf216
  v70:=zeroValue216
  t76:=underlying220
  a76:=isAgg220
  z76:=sizeOf220
  v76:=zeroValue220
  t77:=underlying221
  a77:=isAgg221
  z77:=sizeOf221
  v77:=zeroValue221
theorem S:a3P prog ⟨152,sig,F⟩:=sort_sound lays ordS_swo ordS_tot
end Ar4
namespace Ar2
noncomputable def sig:Sig:=compS
noncomputable def F (d:LL×((LI×LI×Unit)→Option (Bool×Unit))×Unit):OQ:=compF d
theorem emp (p:Option Addr) (cap:Nat) (fv:Value) (w:World):Calls prog 153 #[.slice p 0 cap,fv] w fun e w'=>e = .returned (.slice p 0 cap)∧w'=w:=by
  go_enter func153,ntmps153
  go_wp2
  go_ret
  exact⟨rfl,rfl⟩
open Go.Proofs Go.Shelf Go.RowKit Go.Lib Go.Sort in
set_option maxHeartbeats 16000000 in
set_option maxRecDepth 1000000 in
theorem walk {α : Type} [Inhabited α] (enc:α→Value) (hO:OneCell enc) (eq:α→α→Bool) (zr:α) (hz:enc zr = .slice none 0 0) (g:Nat) (cb:Array Value) (eg:∀ args w,(callFunc g args).run prog w = .ok (.enter g args) w)
    (blk off cap:Nat) (d:Array α) (w:World) (hcmp:b0J prog g cb enc eq blk off d.size w) (hH:Holds enc w blk off d) (hblk:blk<w.heap.size) (hsz:d.size<4611686018427387904) (hcap:d.size≤cap) (kp:Nat→Bool) (hkp0:kp 0=true) (hkp:∀ j,0<j→kp j=!(eq d[j]! d[j-1]!)) :
    Calls prog 153 #[.slice (some ⟨blk,off,none⟩) d.size cap,.func (.func g) #[] cb] w fun e w'=>e = .returned (.slice (some ⟨blk,off,none⟩) (keptUpTo kp d d.size).length cap)∧SW enc w blk off (keptUpTo kp d d.size++zb (d.size-(keptUpTo kp d d.size).length) zr).toArray w':=by
  have mixed:prog.follows .mixedOrders=true:=mixed_ok
  have hcl0:=hO.cells
  simp only[Value.cells]at hcl0
  have hst:=hO.store prog
  have R:Row1 enc w blk off d:=⟨hO,hH,hblk⟩
  have HC:Aside (b0J prog g cb enc eq blk off d.size w):=hcmp
  have S0:Aside (SW enc w blk off d w):=SW.start hH
  have same:∀ W,SW enc w blk off d W→(∀ j,j<d.size→kp j=true)→(keptUpTo kp d d.size).length=d.size∧SW enc w blk off (keptUpTo kp d d.size++zb (d.size-(keptUpTo kp d d.size).length) zr).toArray W:=by
    intro W hW hall
    have e:keptUpTo kp d d.size=d.toList:=by rw[keptUpTo_all kp d _ hall,range_map_get]
    rw[e]
    refine⟨by simp,?_⟩
    simpa using hW
  have HS:Aside _:=same
  have K0:Aside (kp 0=true):=hkp0
  have K1:Aside (∀ j,0<j→kp j=!(eq d[j]! d[j-1]!)):=hkp
  clear hcmp same hkp0 hkp hH
  by_cases h2:d.size<2
  · go_enter func153,ntmps153
    go_wp2
    go_ret
    obtain⟨e1,e2⟩:=HS.out _ S0.out (fun j hj=>by
      have:j=0:=by omega
      rw[this];exact K0.out)
    exact⟨by rw[e1];rfl,e2⟩
  · go_enter func153,ntmps153
    go_wp2
    go_loopg [5] d.size (fun g1 s5 wr=>∃ k:Nat,s5 = .int .i64 k∧1≤k∧k≤d.size∧d.size-k≤g1∧Aside (SW enc w blk off d wr)∧Hid (∀ j,j<k→kp j=true))
    case atStart=>exact⟨1,rfl,zc _,by omega,by omega,S0,fun j hj=>by
      have:j=0:=by omega
      rw[this];exact K0.out⟩
    case round =>
      clear S0
      obtain⟨k,rfl,hk1,hk,hg1,S1,HA⟩:=hrel
      by_cases hlt:k<d.size
      · have hltz:(k:Int)<(d.size:Int):=by omega
        obtain⟨kq,hkq⟩:∃ q,q+1=k:=⟨k-1,by omega⟩
        have zk:(k:Int)=(kq:Int)+1:=by omega
        obtain⟨iN,hiN⟩:∃ q,q=k:=⟨_,rfl⟩
        obtain⟨jN,hjN⟩:∃ q,q=k-1:=⟨_,rfl⟩
        have ea:((kq:Int)+1).toNat=iN:=by omega
        have pa:(0:Int)≤(kq:Int)+1:=by omega
        have ba:(kq:Int)+1<(d.size:Int):=by omega
        have ra:za.wrap ((kq:Int)+1)=(kq:Int)+1:=by rw[IntKind.wrap_i64];omega
        have ec:((kq:Int)).toNat=jN:=by omega
        have pc:(0:Int)≤(kq:Int):=by omega
        have bc:(kq:Int)<(d.size:Int):=by omega
        have rc:za.wrap ((kq:Int))=(kq:Int):=by rw[IntKind.wrap_i64];omega
        obtain⟨x,hx⟩:∃ x,x=d[k]! := ⟨_,rfl⟩
        obtain⟨y,hy⟩:∃ x,x=d[k-1]! := ⟨_,rfl⟩
        have la:=S1.out.cl R rfl k (by omega)
        have lb:=S1.out.cl R rfl (k-1) (by omega)
        rw[←hx,←hiN]at la
        rw[←hy,←hjN]at lb
        have hc:=sw_eql S1.out HC.out rfl x y
        have KK:Aside (kp k=!(eq x y)):=by rw[hx,hy];exact K1.out k (by omega)
        clear hx hy hiN hjN
        cases hv:eq x y with
        | true =>
          rw[hv]at hc KK
          go_wp2_with fail
          go_quiet_grown (first|(go_at_fn g;refine Calls.grown_of (hc _ _)))
          have S2:Aside (SW enc w blk off d (grow (wr.drewN nq) osq)):=S1.out.grown nq osq
          clear la lb hc S1
          generalize grow (wr.drewN nq) osq=w2 at S2 ⊢
          clear nq osq
          clear ea ec pa ba ra pc bc rc
          have hzk:(kq:Int)+1=(k:Int):=by omega
          clear zk hkq
          simp only[hzk]
          clear hzk
          go_wp2
          go_loopg [5,7] d.size (fun g2 s5 s7 wr2=>∃ (kk k2:Nat) (dk:Array α),s5 = .int .i64 kk∧s7 = .int .i64 k2∧1≤k2∧k+k2≤d.size∧d.size-(k+k2)≤g2∧Aside (SW enc w blk off dk wr2)∧Aside (KeptInv kp d (k+k2) kk dk))
          case atStart=>exact⟨k,1,d,rfl,rfl,zc _,by omega,by omega,S2,KeptInv.start HA.out (by rw[KK.out];rfl)⟩
          case round =>
            clear S2 KK HA
            obtain⟨kk,k2,dk,rfl,rfl,h1,hle,hg2,S3,I2⟩:=hrel
            have hkk:=I2.out.lt
            have hds:=I2.out.size
            by_cases hlt2:k+k2<d.size
            · obtain⟨kq,hkq⟩:∃ q,q+1=k2:=⟨k2-1,by omega⟩
              have zk:(k2:Int)=(kq:Int)+1:=by omega
              obtain⟨iN,hiN⟩:∃ q,q=k2:=⟨_,rfl⟩
              obtain⟨jN,hjN⟩:∃ q,q=k2-1:=⟨_,rfl⟩
              have ea:((kq:Int)+1).toNat=iN:=by omega
              have pa:(0:Int)≤(kq:Int)+1:=by omega
              have ba:(kq:Int)+1<((d.size-k:Nat):Int):=by omega
              have ra:za.wrap ((kq:Int)+1)=(kq:Int)+1:=by rw[IntKind.wrap_i64];omega
              have ec:((kq:Int)).toNat=jN:=by omega
              have pc:(0:Int)≤(kq:Int):=by omega
              have bc:(kq:Int)<((d.size-k:Nat):Int):=by omega
              have rc:za.wrap ((kq:Int))=(kq:Int):=by rw[IntKind.wrap_i64];omega
              obtain⟨x,hx⟩:∃ x,x=d[k+k2]! := ⟨_,rfl⟩
              obtain⟨y,hy⟩:∃ x,x=d[k+k2-1]! := ⟨_,rfl⟩
              have la:=S3.out.cl R hds (k+k2) (by omega)
              have lb:=S3.out.cl R hds (k+k2-1) (by omega)
              rw[I2.out.high (k+k2) (by omega),←hx,show off+(k+k2)=off+k+iN by omega]at la
              rw[I2.out.high (k+k2-1) (by omega),←hy,show off+(k+k2-1)=off+k+jN by omega]at lb
              have hc:=sw_eql S3.out HC.out hds x y
              have KK:Aside (kp (k+k2)=!(eq x y)):=by rw[hx,hy];exact K1.out (k+k2) (by omega)
              have XX:Aside (x=d[k+k2]!):=hx
              clear hx hy hiN hjN
              cases hv:eq x y with
              | true =>
                rw[hv]at hc KK
                go_wp2_with fail
                go_quiet_grown (first|(go_at_fn g;refine Calls.grown_of (hc _ _)))
                have S2:Aside (SW enc w blk off dk (grow (wr.drewN nq) osq)):=S3.out.grown nq osq
                clear la lb hc S3
                generalize grow (wr.drewN nq) osq=w2 at S2 ⊢
                clear nq osq
                clear ea ec
                go_wp2
                go_roundg (d.size-(k+(k2+1)))
                case measure=>omega
                case rel=>exact⟨kk,k2+1,dk,rfl,by go_num,by omega,by omega,zc _,S2,I2.out.skip (by rw[KK.out];rfl)⟩
              | false =>
                rw[hv]at hc KK
                go_wp2_with fail
                go_quiet_grown (first|(go_at_fn g;refine Calls.grown_of (hc _ _)))
                have S2:Aside (SW enc w blk off dk (grow (wr.drewN nq) osq)):=S3.out.grown nq osq
                clear la lb hc S3
                generalize grow (wr.drewN nq) osq=w2 at S2 ⊢
                clear nq osq
                clear ea ec pa ba ra pc bc rc
                have hzk:(kq:Int)+1=(k2:Int):=by omega
                clear zk hkq
                simp only[hzk]
                clear hzk
                have cm:=S2.out.c1 R hds (k+k2) (by omega)
                have ck:=S2.out.c1 R hds kk (by omega)
                have fk:=S2.out.f1 R hds kk (by omega)
                rw[I2.out.high (k+k2) (by omega),←XX.out,show off+(k+k2)=off+k+k2 by omega]at cm
                generalize dk[kk]! = old at ck
                have hlz:(k2:Int)<((d.size-k:Nat):Int):=by omega
                go_wp2
                go_roundg (d.size-(k+(k2+1)))
                case measure=>omega
                case rel=>exact⟨kk+1,k2+1,dk.setIfInBounds kk x,by go_num,by go_num,by omega,by omega,zc _,sw_set S2.out hblk kk x (by omega),(by have:=I2.out.keep hlt2 (by rw[KK.out];rfl);rwa [←XX.out]at this)⟩
            · have hend:k+k2=d.size:=by omega
              have hcl:∀ ty,(Builtin.clear_ #[22] ty #[.slice (some ⟨blk,off+kk,none⟩) (d.size-kk) (cap-kk)]).run prog wr = .ok (.tuple #[]) (wr.setCells blk (off+kk) (zb (d.size-kk) (enc zr))) :=
                fun ty=>Lib.run_clear_slice wr _ _ ty _ underlying22 (fun w=>by rw[hz];exact zeroValue25 w) (hO.cells zr) (hO zr) blk (off+kk) _ _ (by omega) (fun j hj=>by rw[show off+kk+j=off+(kk+j)by omega,S3.out.c1 R hds (kk+j) (by omega)];rfl) (fun j hj=>by rw[show off+kk+j=off+(kk+j)by omega];exact S3.out.f1 R hds (kk+j) (by omega))
              go_wp2
              go_ret
              have hI:=I2.out
              rw[hend]at hI
              refine⟨by rw[hI.len];rfl,?_⟩
              rw[hI.len,←hI.done zr]
              have:=sw_lay hblk (zb (d.size-kk) zr) dk _ kk S3.out (by simp;omega)
              rw[List.map_replicate,hz]at this
              exact this
        | false =>
          rw[hv]at hc KK
          go_wp2_with fail
          go_quiet_grown (first|(go_at_fn g;refine Calls.grown_of (hc _ _)))
          have S2:Aside (SW enc w blk off d (grow (wr.drewN nq) osq)):=S1.out.grown nq osq
          clear la lb hc S1
          generalize grow (wr.drewN nq) osq=w2 at S2 ⊢
          clear nq osq
          clear ea ec
          go_wp2
          go_roundg (d.size-(k+1))
          case measure=>omega
          case rel =>
            refine⟨k+1,by go_num,by omega,by omega,zc _,S2,fun j hj=>?_⟩
            by_cases e:j=k
            · subst e;exact KK.out
            · exact HA.out j (by omega)
      · have:k=d.size:=by omega
        subst this
        go_wp2
        go_ret
        obtain⟨e1,e2⟩:=HS.out _ S1.out HA.out
        exact⟨by rw[e1];rfl,e2⟩
theorem S:a3P prog ⟨153,sig,F⟩:=comp_sound ⟨⟨_,func153,by kernel_rfl,by kernel_rfl⟩,emp,walk⟩
end Ar2
namespace Aj5
noncomputable def sig:Sig:=⟨[pL],[oI]⟩
noncomputable def cfg:Cfg:=cl (cx []) fun id=>match id with|3=>([3,6,7,8],[])|_=>([],[])
noncomputable def fin:=finK cfg.c sig [.tmp 2]
noncomputable def F (d:LI×Unit):OI:=anyK (a9u cfg fin (bd f115) (a6P sig.ps d 18))
variable (k:Nat) (i2:Int) (x3:LI) (i4 i5:Int)
noncomputable def l3:OI:=Vm.runT cfg fin k [.inLoop (sub [1,1,0,1,0,0] (bd f115)),.inBlock 0,.code (sub [1,1,1] (bd f115))] ⟨[dD,dD,dD,vI i2,dD,dD,vL x3,vI i4,vI i5]++a9B 9,[]⟩
theorem l3_eq:l3 (k+1) i2 x3 i4 i5=if (decide (i5<i4))=true then if 0≤i5∧i5<(x3.length:Int)then if ((x3.getD i5.toNat 0:Int)!=i2)=true then some (((x3.getD i5.toNat 0:Int),()),())else l3 k i2 x3 i4 (za.wrap (i5+1))else none else some ((i2,()),()):=by kernel_rfl
variable (vals_1:LI)
noncomputable def T:OI:=l3 k (0:Int) vals_1 (vals_1.length:Int) (0:Int)
theorem of {r} (h:Ev (fun k=>T k vals_1) r):F (vals_1,())=some r:=Ev.run (fun k=>by kernel_rfl) h
theorem S:a3P prog ⟨115,sig,F⟩:=sound_k (res:=[.tmp 2]) func115 (cok nM)
end Aj5
namespace Ao3
noncomputable def sig:Sig:=⟨[pI],[oB]⟩
noncomputable def cfg:Cfg:=cf (cx [])
noncomputable def fin:=finK cfg.c sig [.tmp 2]
noncomputable def F (d:Int×Unit):OB:=anyK (a9u cfg fin (bd f165) (a6P sig.ps d 6))
variable (x_1:Int)
noncomputable def T:OB:=some ((x_1 !=x_1,()),())
theorem eq:F (x_1,())=T x_1:=eq_any fun k=>by kernel_rfl
theorem S:a3P prog ⟨165,sig,F⟩:=sound_k (res:=[.tmp 2]) func165 (cok nM)
end Ao3
namespace Ao1
noncomputable def sig:Sig:=⟨[pI,pI],[oI]⟩
noncomputable def cfg:Cfg:=cf (cx [⟨165,Ao3.sig,Ao3.F⟩])
noncomputable def fin:=finK cfg.c sig [.tmp 4]
noncomputable def F (d:Int×Int×Unit):OI:=anyK (a9u cfg fin (bd f116) (a6P sig.ps d 20))
variable (x_1 y_2:Int)
noncomputable def T:OI:=(Ao3.F (x_1,())).bind fun r3=>(Ao3.F (y_2,())).bind fun r4=>if r3.1.1=true then if r4.1.1=true then some ((0,()),())else some (((-1:Int),()),())else if r4.1.1=true then some ((1,()),())else if (decide (x_1<y_2))=true then some (((-1:Int),()),())else if (decide (x_1>y_2))=true then some ((1,()),())else some ((0,()),())
theorem eq:F (x_1,y_2,())=T x_1 y_2:=eq_any fun k=>by kernel_rfl
theorem S:a3P prog ⟨116,sig,F⟩:=sound_k (res:=[.tmp 4]) func116 (cok (cM ⟨Ao3.S,nM⟩))
end Ao1
namespace Ao4
noncomputable def sig:Sig:=⟨[pI],[oB]⟩
noncomputable def cfg:Cfg:=cf (cx [])
noncomputable def fin:=finK cfg.c sig [.tmp 2]
noncomputable def F (d:Int×Unit):OB:=anyK (a9u cfg fin (bd f196) (a6P sig.ps d 6))
variable (x_1:Int)
noncomputable def T:OB:=some ((x_1 !=x_1,()),())
theorem eq:F (x_1,())=T x_1:=eq_any fun k=>by kernel_rfl
theorem S:a3P prog ⟨196,sig,F⟩:=sound_k (res:=[.tmp 2]) func196 (cok nM)
end Ao4
namespace Ao2
noncomputable def sig:Sig:=⟨[pI,pI],[oI]⟩
noncomputable def cfg:Cfg:=cf (cx [⟨196,Ao4.sig,Ao4.F⟩])
noncomputable def fin:=finK cfg.c sig [.tmp 4]
noncomputable def F (d:Int×Int×Unit):OI:=anyK (a9u cfg fin (bd f166) (a6P sig.ps d 20))
variable (x_1 y_2:Int)
noncomputable def T:OI:=(Ao4.F (x_1,())).bind fun r3=>(Ao4.F (y_2,())).bind fun r4=>if r3.1.1=true then if r4.1.1=true then some ((0,()),())else some (((-1:Int),()),())else if r4.1.1=true then some ((1,()),())else if (decide (x_1<y_2))=true then some (((-1:Int),()),())else if (decide (x_1>y_2))=true then some ((1,()),())else some ((0,()),())
theorem eq:F (x_1,y_2,())=T x_1 y_2:=eq_any fun k=>by kernel_rfl
theorem S:a3P prog ⟨166,sig,F⟩:=sound_k (res:=[.tmp 4]) func166 (cok (cM ⟨Ao4.S,nM⟩))
end Ao2
namespace Al0
noncomputable def sig:Sig:=⟨[pL,pL],[oI]⟩
noncomputable def cfg:Cfg:=cl (cx [⟨166,Ao2.sig,Ao2.F⟩]) fun id=>match id with|2=>([0,1,9,10,11],[])|_=>([],[])
noncomputable def fin:=finK cfg.c sig [.tmp 4]
noncomputable def F (d:LI×LI×Unit):OI:=anyK (a9u cfg fin (bd f117) (a6P sig.ps d 36))
variable (k:Nat) (x3 x4 x5:LI) (i6 i7:Int)
noncomputable def l2:OI:=Vm.runT cfg fin k [.inLoop (sub [1,0,1,0,0] (bd f117)),.inBlock 0,.code (sub [1,1] (bd f117))] ⟨[vL x3,vL x4,dD,dD,dD,dD,dD,dD,dD,vL x5,vI i6,vI i7]++a9B 24,[]⟩
theorem l2_eq:l2 (k+1) x3 x4 x5 i6 i7=if (decide (i7<i6))=true then if 0≤i7∧i7<(x5.length:Int)then if (decide (i7≥(x4.length:Int)))=true then some ((1,()),())else if 0≤i7∧i7<(x4.length:Int)then(Ao2.F ((x5.getD i7.toNat 0:Int),(x4.getD i7.toNat 0:Int),())).bind fun r8=>if (r8.1.1 !=0)=true then some ((r8.1.1,()),())else l2 k x3 x4 x5 i6 (za.wrap (i7+1))else none else none else if (decide ((x3.length:Int)<(x4.length:Int)))=true then some (((-1:Int),()),())else some ((0,()),()):=by kernel_rfl
variable (s1_1 s2_2:LI)
noncomputable def T:OI:=l2 k s1_1 s2_2 s1_1 (s1_1.length:Int) (0:Int)
theorem of {r} (h:Ev (fun k=>T k s1_1 s2_2) r):F (s1_1,s2_2,())=some r:=Ev.run (fun k=>by kernel_rfl) h
theorem S:a3P prog ⟨117,sig,F⟩:=sound_k (res:=[.tmp 4]) func117 (cok (cM ⟨Ao2.S,nM⟩))
end Al0
namespace Ad3
noncomputable def sig:Sig:=⟨[pL,pL],[oI]⟩
noncomputable def cfg:Cfg:=cf (cx [⟨115,Aj5.sig,Aj5.F⟩,⟨116,Ao1.sig,Ao1.F⟩,⟨117,Al0.sig,Al0.F⟩])
noncomputable def fin:=finK cfg.c sig [.tmp 4]
noncomputable def F (d:LI×LI×Unit):OI:=anyK (a9u cfg fin (bd f73) (a6P sig.ps d 15))
variable (a_1 b_2:LI)
noncomputable def T:OI:=(Ao1.F ((a_1.length:Int),(b_2.length:Int),())).bind fun r3=>(Al0.F (a_1,b_2,())).bind fun r4=>(Aj5.F ([r3.1.1,r4.1.1],())).bind fun r5=>some ((r5.1.1,()),())
theorem eq:F (a_1,b_2,())=T a_1 b_2:=eq_any fun k=>by kernel_rfl
theorem S:a3P prog ⟨73,sig,F⟩:=sound_k (res:=[.tmp 4]) func73 (cok (cM ⟨Aj5.S,cM ⟨Ao1.S,cM ⟨Al0.S,nM⟩⟩⟩))
noncomputable def cloG (y:Unit) (d:LI×LI×Unit):Option (Int×Unit):=(F (b0b [] [(false,tL),(false,tL)] d y)).map (·.1)
noncomputable def clo:Clo:=⟨73,⟨[(false,tL),(false,tL)],[(.val false,tI,.deep)]⟩,[],cloG⟩
theorem cloS:a2t prog clo:=sound_clo (s:=⟨[(false,tL),(false,tL)],[(.val false,tI,.deep)]⟩) (caps:=[]) rfl S
end Ad3
namespace Ac7
noncomputable def sig:Sig:=⟨[pL,pL],[oB]⟩
noncomputable def cfg:Cfg:=cl (cx []) fun id=>match id with|4=>([0,1,12,13],[])|_=>([],[])
noncomputable def fin:=finK cfg.c sig [.tmp 4]
noncomputable def F (d:LI×LI×Unit):OB:=anyK (a9u cfg fin (bd f154) (a6P sig.ps d 26))
variable (k:Nat) (x3 x4:LI) (i5 i6:Int)
noncomputable def l4:OB:=Vm.runT cfg fin k [.inLoop (sub [1,1,0,1,0,0] (bd f154)),.inBlock 0,.code (sub [1,1,1] (bd f154))] ⟨[vL x3,vL x4,dD,dD,dD,dD,dD,dD,dD,dD,dD,dD,vI i5,vI i6]++a9B 12,[]⟩
theorem l4_eq:l4 (k+1) x3 x4 i5 i6=if (decide (i6<i5))=true then if 0≤i6∧i6<(x3.length:Int)then if 0≤i6∧i6<(x4.length:Int)then if ((x3.getD i6.toNat 0:Int)!=(x4.getD i6.toNat 0:Int))=true then some ((false,()),())else l4 k x3 x4 i5 (za.wrap (i6+1))else none else none else some ((true,()),()):=by kernel_rfl
variable (s1_1 s2_2:LI)
noncomputable def T:OB:=if ((s1_1.length:Int)!=(s2_2.length:Int))=true then some ((false,()),())else l4 k s1_1 s2_2 (s1_1.length:Int) (0:Int)
theorem of {r} (h:Ev (fun k=>T k s1_1 s2_2) r):F (s1_1,s2_2,())=some r:=Ev.run (fun k=>by kernel_rfl) h
theorem S:a3P prog ⟨154,sig,F⟩:=sound_k (res:=[.tmp 4]) func154 (cok nM)
noncomputable def cloG (y:Unit) (d:LI×LI×Unit):Option (Bool×Unit):=(F (b0b [] [(false,tL),(false,tL)] d y)).map (·.1)
noncomputable def clo:Clo:=⟨154,⟨[(false,tL),(false,tL)],[(.val false,.bool,.deep)]⟩,[],cloG⟩
theorem cloS:a2t prog clo:=sound_clo (s:=⟨[(false,tL),(false,tL)],[(.val false,.bool,.deep)]⟩) (caps:=[]) rfl S
end Ac7
namespace Ae1
noncomputable def sig:Sig:=⟨[pQ],[oC]⟩
noncomputable def cfg:Cfg:=cf ⟨a2n tabl,[⟨151,Am3.sig,Am3.F⟩,⟨152,Ar4.sig,Ar4.F⟩,⟨153,Ar2.sig,Ar2.F⟩],[Ad3.clo,Ac7.clo],[],[],[]⟩
noncomputable def fin:=finK cfg.c sig [.cell 2 33]
noncomputable def F (d:LL×Unit):OQ:=anyK (a9u cfg fin (bd f110) (a6P sig.ps d 11))
variable (list_1:LL)
noncomputable def T:OQ:=(Am3.F (list_1,())).bind fun r2=>(Ar4.F (r2.1.1,Ad3.cloG (()),())).bind fun r3=>(Ar2.F (r3.2.1,Ac7.cloG (()),())).bind fun r4=>some ((r4.1.1,()),())
theorem eq:F (list_1,())=T list_1:=eq_any fun k=>by kernel_rfl
theorem S:a3P prog ⟨110,sig,F⟩:=sound_k (res:=[.cell 2 33]) func110 (⟨nM,mixed_ok,tab_ok tab_good,cM ⟨Am3.S,cM ⟨Ar4.S,cM ⟨Ar2.S,nM⟩⟩⟩,cM ⟨Ad3.cloS,cM ⟨Ac7.cloS,nM⟩⟩,nM⟩)
end Ae1
namespace Am2
noncomputable def sig:Sig:=⟨[pC,.fnx ⟨[(false,tL)],[oB]⟩],[oC]⟩
noncomputable def cfg:Cfg:=⟨cx [⟨110,Ae1.sig,Ae1.F⟩],[],[],fun id=>match id with|3=>([1,4,5,9,10,11],[16,20])|_=>([],[]),fun id=>match id with|3=>[20]|_=>[]⟩
noncomputable def fin:=finK cfg.c sig [.cell 4 33]
noncomputable def F (d:LL×((LI×Unit)→Option (Bool×Unit))×Unit):OQ:=anyK (a9u cfg fin (bd f69) (a6P sig.ps d 25))
variable (k:Nat) (f3:(LI×Unit)→Option (Bool×Unit)) (x4:LL) (i5 i6:Int) (x7 x8:LL)
noncomputable def l3:OQ:=Vm.runT cfg fin k [.inLoop (sub [1,1,0,1,0,0] (bd f69)),.inBlock 0,.code (sub [1,1,1] (bd f69))] ⟨[dD,.fnx ⟨[(false,tL)],[(.val false,.bool,.deep)]⟩ f3,dD,dD,.ref 16 (.root 0),.view 20 (.root 0) 1 false,dD,dD,dD,vQ x4,vI i5,vI i6]++a9B 13,[(16,⟨true,[dQ x7]⟩),(20,⟨false,[⟨tQ,.shal,x8⟩]⟩)]⟩
theorem l3_eq:l3 (k+1) f3 x4 i5 i6 x7 x8=if (decide (i6<i5))=true then if 0≤i6∧i6<(x4.length:Int)then(f3 (x4.getD i6.toNat ([]:LI),())).bind fun r9=>if r9.1=true then if x8.length+[x4.getD i6.toNat ([]:LI)].length≤bigA then l3 k f3 x4 i5 (za.wrap (i6+1)) x7 (x8++[x4.getD i6.toNat ([]:LI)])else none else l3 k f3 x4 i5 (za.wrap (i6+1)) x7 x8 else none else(Ae1.F (x8,())).bind fun r10=>some ((r10.1.1,()),()):=by kernel_rfl
variable (c_1:LL) (f_2:(LI×Unit)→Option (Bool×Unit))
noncomputable def T:OQ:=l3 k f_2 c_1 (c_1.length:Int) (0:Int) ([]:LL) ([])
theorem of {r} (h:Ev (fun k=>T k c_1 f_2) r):F (c_1,f_2,())=some r:=Ev.run (fun k=>by kernel_rfl) h
theorem S:a3P prog ⟨69,sig,F⟩:=sound_k (res:=[.cell 4 33]) func69 (cok (cM ⟨Ae1.S,nM⟩))
end Am2
namespace Aq6
noncomputable def sig:Sig:=⟨[pQ,pL,.fnx ⟨[(false,tL),(false,tL)],[oI]⟩],[oI,oB]⟩
noncomputable def cfg:Cfg:=cl (cx []) fun id=>match id with|3=>([0,1,2,8,9,10],[])|_=>([],[])
noncomputable def fin:=finK cfg.c sig [.tmp 6,.tmp 7]
noncomputable def F (d:LL×LI×((LI×LI×Unit)→Option (Int×Unit))×Unit):Option ((Int×Bool×Unit)×(Unit)):=anyK (a9u cfg fin (bd f72) (a6P sig.ps d 49))
variable (k:Nat) (x4:LL) (x5:LI) (f6:(LI×LI×Unit)→Option (Int×Unit)) (i7 i8 i9:Int)
noncomputable def l3:Option ((Int×Bool×Unit)×(Unit)):=Vm.runT cfg fin k [.inLoop (sub [1,1,1,0,0,0] (bd f72)),.inBlock 0,.code (sub [1,1,1,1] (bd f72))] ⟨[vQ x4,vL x5,.fnx ⟨[(false,tL),(false,tL)],[(.val false,tI,.deep)]⟩ f6,dD,dD,dD,dD,dD,vI i7,vI i8,vI i9]++a9B 38,[]⟩
theorem l3_eq:l3 (k+1) x4 x5 f6 i7 i8 i9=if (decide (i8<i9))=true then if (1:Int)<0 then none else if 0≤(za.wrap ((IntKind.u64.wrap (za.wrap (i8+i9))).fdiv (2 ^ (min (1:Int).toNat IntKind.u64.bits))))∧(za.wrap ((IntKind.u64.wrap (za.wrap (i8+i9))).fdiv (2 ^ (min (1:Int).toNat IntKind.u64.bits))))<(x4.length:Int)then(f6 (x4.getD (za.wrap ((IntKind.u64.wrap (za.wrap (i8+i9))).fdiv (2 ^ (min (1:Int).toNat IntKind.u64.bits)))).toNat ([]:LI),x5,())).bind fun r10=>if (decide (r10.1<0))=true then l3 k x4 x5 f6 i7 (za.wrap ((za.wrap ((IntKind.u64.wrap (za.wrap (i8+i9))).fdiv (2 ^ (min (1:Int).toNat IntKind.u64.bits))))+1)) i9 else l3 k x4 x5 f6 i7 i8 (za.wrap ((IntKind.u64.wrap (za.wrap (i8+i9))).fdiv (2 ^ (min (1:Int).toNat IntKind.u64.bits))))else none else if (decide (i8<i7))=true then if 0≤i8∧i8<(x4.length:Int)then(f6 (x4.getD i8.toNat ([]:LI),x5,())).bind fun r11=>some ((i8,(r11.1==(0:Int),())),())else none else some ((i8,(false,())),()):=by kernel_rfl
variable (x_1:LL) (target_2:LI) (f_3:(LI×LI×Unit)→Option (Int×Unit))
noncomputable def T:Option ((Int×Bool×Unit)×(Unit)):=l3 k x_1 target_2 f_3 (x_1.length:Int) (0:Int) (x_1.length:Int)
theorem of {r} (h:Ev (fun k=>T k x_1 target_2 f_3) r):F (x_1,target_2,f_3,())=some r:=Ev.run (fun k=>by kernel_rfl) h
theorem S:a3P prog ⟨72,sig,F⟩:=sound_k (res:=[.tmp 6,.tmp 7]) func72 (cok nM)
end Aq6
namespace Ab3
noncomputable def sig:Sig:=⟨[pC,pL],[oI]⟩
noncomputable def cfg:Cfg:=cf ⟨a2n tabl,[⟨72,Aq6.sig,Aq6.F⟩],[Ad3.clo],[],[],[]⟩
noncomputable def fin:=finK cfg.c sig [.tmp 4]
noncomputable def F (d:LL×LI×Unit):OI:=anyK (a9u cfg fin (bd f32) (a6P sig.ps d 17))
variable (c_1:LL) (s_2:LI)
noncomputable def T:OI:=(Aq6.F (c_1,s_2,Ad3.cloG (()),())).bind fun r3=>if (!r3.1.2.1)=true then some (((-1:Int),()),())else some ((r3.1.1,()),())
theorem eq:F (c_1,s_2,())=T c_1 s_2:=eq_any fun k=>by kernel_rfl
theorem S:a3P prog ⟨32,sig,F⟩:=sound_k (res:=[.tmp 4]) func32 (⟨nM,mixed_ok,tab_ok tab_good,cM ⟨Aq6.S,nM⟩,cM ⟨Ad3.cloS,nM⟩,nM⟩)
end Ab3
namespace As8
noncomputable def sig:Sig:=⟨[pL,qC],[oB]⟩
noncomputable def cfg:Cfg:=cf (cx [⟨32,Ab3.sig,Ab3.F⟩])
noncomputable def fin:=finK cfg.c sig [.tmp 3]
noncomputable def F (d:LI×LL×Unit):OB:=anyK (a9u cfg fin (bd f70) (a6P sig.ps d 8))
variable (s_1:LI) (a_2:LL)
noncomputable def T:OB:=(Ab3.F (a_2,s_1,())).bind fun r3=>some ((decide (r3.1.1≥0),()),())
theorem eq:F (s_1,a_2,())=T s_1 a_2:=eq_any fun k=>by kernel_rfl
theorem S:a3P prog ⟨70,sig,F⟩:=sound_k (res:=[.tmp 3]) func70 (cok (cM ⟨Ab3.S,nM⟩))
noncomputable def cloG (y:LL×Unit) (d:LI×Unit):Option (Bool×Unit):=(F (b0b [.rptr tQ] [(false,tL)] d y)).map (·.1)
noncomputable def clo:Clo:=⟨70,⟨[(false,tL)],[(.val false,.bool,.deep)]⟩,[.rptr tQ],cloG⟩
theorem cloS:a2t prog clo:=sound_clo (s:=⟨[(false,tL)],[(.val false,.bool,.deep)]⟩) (caps:=[.rptr tQ]) rfl S
end As8
namespace Ai7
noncomputable def sig:Sig:=⟨[pC,pC],[oC]⟩
noncomputable def cfg:Cfg:=cf ⟨a2n tabl,[⟨69,Am2.sig,Am2.F⟩],[As8.clo],[],[],[]⟩
noncomputable def fin:=finK cfg.c sig [.cell 4 33]
noncomputable def F (d:LL×LL×Unit):OQ:=anyK (a9u cfg fin (bd f29) (a6P sig.ps d 8))
variable (a_1 b_2:LL)
noncomputable def T:OQ:=(Am2.F (a_1,As8.cloG (b_2,()),())).bind fun r3=>some ((r3.1.1,()),())
theorem eq:F (a_1,b_2,())=T a_1 b_2:=eq_any fun k=>by kernel_rfl
theorem S:a3P prog ⟨29,sig,F⟩:=sound_k (res:=[.cell 4 33]) func29 (⟨nM,mixed_ok,tab_ok tab_good,cM ⟨Am2.S,nM⟩,cM ⟨As8.cloS,nM⟩,nM⟩)
end Ai7
namespace Ag8
noncomputable def sig:Sig:=⟨[pC],[oL]⟩
noncomputable def cfg:Cfg:=cl (cx []) fun id=>match id with|3=>([3,7,8,9],[12])|_=>([],[])
noncomputable def fin:=finK cfg.c sig [.tmp 2]
noncomputable def F (d:LL×Unit):OL:=anyK (a9u cfg fin (bd f31) (a6P sig.ps d 24))
variable (k:Nat) (x2:LL) (i3 i4:Int) (x5:LI)
noncomputable def l3:OL:=Vm.runT cfg fin k [.inLoop (sub [1,1,0,1,0,0] (bd f31)),.inBlock 0,.code (sub [1,1,1] (bd f31))] ⟨[dD,dD,dD,.view 12 (.root 0) 1 false,dD,dD,dD,vQ x2,vI i3,vI i4]++a9B 14,[(12,⟨false,[dL x5]⟩)]⟩
theorem l3_eq:l3 (k+1) x2 i3 i4 x5=if (decide (i4<i3))=true then if 0≤i4∧i4<(x2.length:Int)then if (((x2.getD i4.toNat ([]:LI)).length:Int)==1)=true then if 0≤(0:Int)∧(0:Int)<((x2.getD i4.toNat ([]:LI)).length:Int)then if x5.length+[(x2.getD i4.toNat ([]:LI)).getD (0:Int).toNat 0].length≤bigA then l3 k x2 i3 (za.wrap (i4+1)) (x5++[(x2.getD i4.toNat ([]:LI)).getD (0:Int).toNat 0])else none else none else l3 k x2 i3 (za.wrap (i4+1)) x5 else none else some ((x5,()),()):=by kernel_rfl
variable (c_1:LL)
noncomputable def T:OL:=l3 k c_1 (c_1.length:Int) (0:Int) ([])
theorem of {r} (h:Ev (fun k=>T k c_1) r):F (c_1,())=some r:=Ev.run (fun k=>by kernel_rfl) h
theorem S:a3P prog ⟨31,sig,F⟩:=sound_k (res:=[.tmp 2]) func31 (cok nM)
end Ag8
namespace Af4
noncomputable def sig:Sig:=⟨[pL,pI],[oI]⟩
noncomputable def cfg:Cfg:=cl (cx []) fun id=>match id with|2=>([0,1,7,8],[])|_=>([],[])
noncomputable def fin:=finK cfg.c sig [.tmp 4]
noncomputable def F (d:LI×Int×Unit):OI:=anyK (a9u cfg fin (bd f155) (a6P sig.ps d 19))
variable (k:Nat) (x3:LI) (i4 i5 i6:Int)
noncomputable def l2:OI:=Vm.runT cfg fin k [.inLoop (sub [1,0,1,0,0] (bd f155)),.inBlock 0,.code (sub [1,1] (bd f155))] ⟨[vL x3,vI i4,dD,dD,dD,dD,dD,vI i5,vI i6]++a9B 10,[]⟩
theorem l2_eq:l2 (k+1) x3 i4 i5 i6=if (decide (i6<i5))=true then if 0≤i6∧i6<(x3.length:Int)then if (i4==(x3.getD i6.toNat 0:Int))=true then some ((i6,()),())else l2 k x3 i4 i5 (za.wrap (i6+1))else none else some (((-1:Int),()),()):=by kernel_rfl
variable (s_1:LI) (v_2:Int)
noncomputable def T:OI:=l2 k s_1 v_2 (s_1.length:Int) (0:Int)
theorem of {r} (h:Ev (fun k=>T k s_1 v_2) r):F (s_1,v_2,())=some r:=Ev.run (fun k=>by kernel_rfl) h
theorem S:a3P prog ⟨155,sig,F⟩:=sound_k (res:=[.tmp 4]) func155 (cok nM)
end Af4
namespace Ar5
noncomputable def sig:Sig:=sortIS
noncomputable def F (d:LI×Unit):Option ((Unit)×(LI×Unit)):=b5N d
def ren:Go.Shelf.Ren:=⟨fun|53=>156|59=>225|63=>192|64=>191|68=>196|70=>219|71=>220|72=>221|73=>222|74=>223|75=>224|76=>226|77=>227|78=>217|79=>218|88=>235|89=>231|90=>232|91=>236|92=>237|96=>240|n=>n,fun|0=>0|3=>3|4=>4|5=>5|9=>9|22=>25|23=>2|44=>101|51=>142|60=>197|61=>198|67=>204|69=>206|75=>212|79=>216|83=>220|84=>221|n=>n,fun n=>n⟩
theorem lays:Go.Proofs.SlLaysN.n53 prog ren where
  mixed:=by kernel_rfl
  f53 := ⟨"slices.Sort[[]int64,int64]", by decide, func156.trans (congrArg some (by kernel_rfl))⟩
  f59 := ⟨"cmp.Less[int64]", by decide, func225.trans (congrArg some (by kernel_rfl))⟩
  f63 := ⟨"slices.pdqsortOrdered[int64]", by decide, func192.trans (congrArg some (by kernel_rfl))⟩
  f64:=func191.trans (congrArg some (by kernel_rfl))
  f68 := ⟨"cmp.isNaN[int64]", by decide, func196.trans (congrArg some (by kernel_rfl))⟩
  f70 := ⟨"slices.insertionSortOrdered[int64]", by decide, func219.trans (congrArg some (by kernel_rfl))⟩
  f71 := ⟨"slices.heapSortOrdered[int64]", by decide, func220.trans (congrArg some (by kernel_rfl))⟩
  f72 := ⟨"slices.breakPatternsOrdered[int64]", by decide, func221.trans (congrArg some (by kernel_rfl))⟩
  f73 := ⟨"slices.choosePivotOrdered[int64]", by decide, func222.trans (congrArg some (by kernel_rfl))⟩
  f74 := ⟨"slices.reverseRangeOrdered[int64]", by decide, func223.trans (congrArg some (by kernel_rfl))⟩
  f75 := ⟨"slices.partialInsertionSortOrdered[int64]", by decide, func224.trans (congrArg some (by kernel_rfl))⟩
  f76 := ⟨"slices.partitionEqualOrdered[int64]", by decide, func226.trans (congrArg some (by kernel_rfl))⟩
  f77 := ⟨"slices.partitionOrdered[int64]", by decide, func227.trans (congrArg some (by kernel_rfl))⟩
  f78:=func217.trans (congrArg some (by kernel_rfl))
  f79:=func218.trans (congrArg some (by kernel_rfl))
  f88 := ⟨"slices.siftDownOrdered[int64]", by decide, func235.trans (congrArg some (by kernel_rfl))⟩
  f89:=func231.trans (congrArg some (by kernel_rfl))
  f90:=func232.trans (congrArg some (by kernel_rfl))
  f91 := ⟨"slices.medianAdjacentOrdered[int64]", by decide, func236.trans (congrArg some (by kernel_rfl))⟩
  f92 := ⟨"slices.medianOrdered[int64]", by decide, func237.trans (congrArg some (by kernel_rfl))⟩
  f96 := ⟨"slices.order2Ordered[int64]", by decide, func240.trans (congrArg some (by kernel_rfl))⟩
  t0:=underlying0
  a0:=isAgg0
  z0:=sizeOf0
  v0:=zeroValue0
  t3:=underlying3
  a3:=isAgg3
  z3:=sizeOf3
  v3:=zeroValue3
  t4:=underlying4
  a4:=isAgg4
  z4:=sizeOf4
  v4:=zeroValue4
  t5:=underlying5
  a5:=isAgg5
  z5:=sizeOf5
  v5:=zeroValue5
  t9:=underlying9
  a9:=isAgg9
  z9:=sizeOf9
  v9:=zeroValue9
  t22:=underlying25
  a22:=isAgg25
  z22:=sizeOf25
  v22:=zeroValue25
  t23:=underlying2
  a23:=isAgg2
  z23:=sizeOf2
  v23:=zeroValue2
  t44:=underlying101
  a44:=isAgg101
  z44:=sizeOf101
  v44:=zeroValue101
  t51:=underlying142
  a51:=isAgg142
  z51:=sizeOf142
  v51:=zeroValue142
  t60:=underlying197
  a60:=isAgg197
  z60:=sizeOf197
  v60:=zeroValue197
  t61:=underlying198
  a61:=isAgg198
  z61:=sizeOf198
  v61:=zeroValue198
  t67:=underlying204
  a67:=isAgg204
  z67:=sizeOf204
  v67:=zeroValue204
  t69:=underlying206
  a69:=isAgg206
  z69:=sizeOf206
  v69:=zeroValue206
  t75:=underlying212
  a75:=isAgg212
  z75:=sizeOf212
  v75:=zeroValue212
  t79:=underlying216
  a79:=isAgg216
  z79:=sizeOf216
  v79:=zeroValue216
  t83:=underlying220
  a83:=isAgg220
  z83:=sizeOf220
  v83:=zeroValue220
  t84:=underlying221
  a84:=isAgg221
  z84:=sizeOf221
  v84:=zeroValue221
set_option maxRecDepth 100000 in
theorem S:a3P prog ⟨156,sig,F⟩:=sortI_sound lays
end Ar5
namespace Ar3
noncomputable def sig:Sig:=compIS
noncomputable def F (d:LI×Unit):OL:=b5B d
def ren:Go.Shelf.Ren:=⟨fun|43=>157|n=>n,fun|0=>0|3=>3|4=>4|22=>25|23=>2|n=>n,fun n=>n⟩
theorem lays:Go.Proofs.SlLaysN.n43 prog ren where
  mixed:=by kernel_rfl
  f43 := ⟨"slices.Compact[[]int64,int64]", by decide, func157.trans (congrArg some (by kernel_rfl))⟩
  t0:=underlying0
  a0:=isAgg0
  z0:=sizeOf0
  v0:=zeroValue0
  t3:=underlying3
  a3:=isAgg3
  z3:=sizeOf3
  v3:=zeroValue3
  t4:=underlying4
  a4:=isAgg4
  z4:=sizeOf4
  v4:=zeroValue4
  t22:=underlying25
  a22:=isAgg25
  z22:=sizeOf25
  v22:=zeroValue25
  t23:=underlying2
  a23:=isAgg2
  z23:=sizeOf2
  v23:=zeroValue2
  i23:=by kernel_rfl
set_option maxRecDepth 100000 in
theorem S:a3P prog ⟨157,sig,F⟩:=compI_sound lays
end Ar3
namespace Ak5
noncomputable def sig:Sig:=⟨[pC,pL,pL],[oL]⟩
noncomputable def cfg:Cfg:=cl (cx [⟨31,Ag8.sig,Ag8.F⟩,⟨155,Af4.sig,Af4.F⟩,⟨156,Ar5.sig,Ar5.F⟩,⟨157,Ar3.sig,Ar3.F⟩]) fun id=>match id with|4=>([1,7,8,13,14,15],[28,32])|_=>([],[])
noncomputable def fin:=finK cfg.c sig [.tmp 6]
noncomputable def F (d:LL×LI×LI×Unit):OL:=anyK (a9u cfg fin (bd f111) (a6P sig.ps d 33))
variable (k:Nat) (x5 x6:LI) (i7 i8:Int) (x9 x10:LI)
noncomputable def l4:OL:=Vm.runT cfg fin k [.inLoop (sub [1,1,1,0,1,0,0] (bd f111)),.inBlock 0,.code (sub [1,1,1,1] (bd f111))] ⟨[dD,vL x5,dD,dD,dD,dD,dD,.view 28 (.root 0) 1 false,.view 32 (.root 0) 1 false,dD,dD,dD,dD,vL x6,vI i7,vI i8]++a9B 17,[(28,⟨false,[dL x9]⟩),(32,⟨false,[dL x10]⟩)]⟩
theorem l4_eq:l4 (k+1) x5 x6 i7 i8 x9 x10=if (decide (i8<i7))=true then if 0≤i8∧i8<(x6.length:Int)then(Af4.F (x9,(x6.getD i8.toNat 0:Int),())).bind fun r11=>if 0≤r11.1.1∧r11.1.1<(x5.length:Int)then if x10.length+[x5.getD r11.1.1.toNat 0].length≤bigA then l4 k x5 x6 i7 (za.wrap (i8+1)) x9 (x10++[x5.getD r11.1.1.toNat 0])else none else none else none else(Ar5.F (x10,())).bind fun r12=>(Ar3.F (r12.2.1,())).bind fun r13=>some ((r13.1.1,()),()):=by kernel_rfl
variable (a_1:LL) (images_2 s_3:LI)
noncomputable def T:OL:=(Ag8.F (a_1,())).bind fun r4=>l4 k images_2 s_3 (s_3.length:Int) (0:Int) r4.1.1 ([])
theorem of {r} (h:Ev (fun k=>T k a_1 images_2 s_3) r):F (a_1,images_2,s_3,())=some r:=Ev.run (fun k=>by kernel_rfl) h
theorem S:a3P prog ⟨111,sig,F⟩:=sound_k (res:=[.tmp 6]) func111 (cok (cM ⟨Ag8.S,cM ⟨Af4.S,cM ⟨Ar5.S,cM ⟨Ar3.S,nM⟩⟩⟩⟩))
end Ak5
namespace Aa8
noncomputable def sig:Sig:=⟨[pQ],[oL]⟩
noncomputable def cfg:Cfg:=cl (⟨a2n tabl,[],[],[],[(94,tI)],[]⟩) fun id=>match id with|3=>([0,3,9,10,11],[])|11=>([6,25,26,27],[24])|_=>([],[])
noncomputable def fin:=finK cfg.c sig [.tmp 2]
noncomputable def F (d:LL×Unit):OL:=anyK (a9u cfg fin (bd f53) (a6P sig.ps d 36))
variable (k:Nat) (x2:LL) (i3:Int) (x4:LL) (i5 i6:Int)
noncomputable def l3:OL:=Vm.runT cfg fin k [.inLoop (sub [1,1,0,1,0,0] (bd f53)),.inBlock 0,.code (sub [1,1,1] (bd f53))] ⟨[vQ x2,dD,dD,vI i3,dD,dD,dD,dD,dD,vQ x4,vI i5,vI i6]++a9B 24,[]⟩
variable (x7:LL) (i8 i9:Int) (x10:LI)
noncomputable def l11:OL:=Vm.runT cfg fin k [.inLoop (sub [1,1,1,1,0,1,0,0] (bd f53)),.inBlock 2,.code (sub [1,1,1,1,1] (bd f53))] ⟨[dD,dD,dD,dD,dD,dD,.view 24 (.root 0) 1 false,dD,dD,dD,dD,dD,dD,dD,dD,dD,dD,dD,dD,dD,dD,dD,dD,dD,dD,vQ x7,vI i8,vI i9]++a9B 8,[(24,⟨false,[dL x10]⟩)]⟩
theorem l3_eq:l3 (k+1) x2 i3 x4 i5 i6=if (decide (i6<i5))=true then if 0≤i6∧i6<(x4.length:Int)then if (decide ((za.wrap (i3+((x4.getD i6.toNat ([]:LI)).length:Int)))<0))=true then none else l3 k x2 (za.wrap (i3+((x4.getD i6.toNat ([]:LI)).length:Int))) x4 i5 (za.wrap (i6+1))else none else if 0≤i3∧i3≤(bigN:Int)then l11 k x2 (x2.length:Int) (0:Int) ([]:LI)else none:=by kernel_rfl
theorem l11_eq:l11 (k+1) x7 i8 i9 x10=if (decide (i9<i8))=true then if 0≤i9∧i9<(x7.length:Int)then if x10.length+(x7.getD i9.toNat ([]:LI)).length≤bigA then l11 k x7 i8 (za.wrap (i9+1)) (x10++(x7.getD i9.toNat ([]:LI)))else none else none else some ((x10,()),()):=by kernel_rfl
variable (slices_1:LL)
noncomputable def T:OL:=l3 k slices_1 (0:Int) slices_1 (slices_1.length:Int) (0:Int)
theorem of {r} (h:Ev (fun k=>T k slices_1) r):F (slices_1,())=some r:=Ev.run (fun k=>by kernel_rfl) h
theorem S:a3P prog ⟨53,sig,F⟩:=sound_k (res:=[.tmp 2]) func53 (⟨nM,mixed_ok,tab_ok tab_good,nM,nM,cM ⟨slices_Grow_Lint64_int64.growOK,nM⟩⟩)
end Aa8
namespace Ae4
noncomputable def sig:Sig:=⟨[pL],[oQ]⟩
noncomputable def cfg:Cfg:=cl (cx [⟨53,Aa8.sig,Aa8.F⟩]) fun id=>match id with|3=>([0,3,6,7],[12])|_=>([],[])
noncomputable def fin:=finK cfg.c sig [.tmp 2]
noncomputable def F (d:LI×Unit):OQ:=anyK (a9u cfg fin (bd f120) (a6P sig.ps d 27))
variable (k:Nat) (x2:LI) (i3 i4:Int) (x5:LL)
noncomputable def l3:OQ:=Vm.runT cfg fin k [.inLoop (sub [1,1,0,1,0,0] (bd f120)),.inBlock 0,.code (sub [1,1,1] (bd f120))] ⟨[vL x2,dD,dD,.view 12 (.root 0) 1 false,dD,dD,vI i3,vI i4]++a9B 19,[(12,⟨false,[dQ x5]⟩)]⟩
theorem l3_eq:l3 (k+1) x2 i3 i4 x5=if (decide (i4<i3))=true then if (decide ((x2.length:Int)>1))=true then if 0≤(0:Int)∧(0:Int)≤i4∧i4≤(x2.length:Int)then if 0≤(za.wrap (i4+1))∧(za.wrap (i4+1))≤(x2.length:Int)∧(x2.length:Int)≤(x2.length:Int)then(Aa8.F ([cutL x2 (0:Int) i4,cutL x2 (za.wrap (i4+1)) (x2.length:Int)],())).bind fun r6=>if x5.length+[r6.1.1].length≤bigA then l3 k x2 i3 (za.wrap (i4+1)) (x5++[r6.1.1])else none else none else none else l3 k x2 i3 (za.wrap (i4+1)) x5 else some ((x5,()),()):=by kernel_rfl
variable (s_1:LI)
noncomputable def T:OQ:=l3 k s_1 (s_1.length:Int) (0:Int) ([])
theorem of {r} (h:Ev (fun k=>T k s_1) r):F (s_1,())=some r:=Ev.run (fun k=>by kernel_rfl) h
theorem S:a3P prog ⟨120,sig,F⟩:=sound_k (res:=[.tmp 2]) func120 (cok (cM ⟨Aa8.S,nM⟩))
end Ae4
namespace Ab7
noncomputable def sig:Sig:=⟨[pC,pI],[oL]⟩
noncomputable def cfg:Cfg:=cl (cx [⟨32,Ab3.sig,Ab3.F⟩,⟨120,Ae4.sig,Ae4.F⟩]) fun id=>match id with|3=>([2,5,13,14,15],[8,20,52])|_=>([],[])
noncomputable def fin:=finK cfg.c sig [.tmp 4]
noncomputable def F (d:LL×Int×Unit):OL:=anyK (a9u cfg fin (bd f77) (a6P sig.ps d 27))
variable (k:Nat) (i4 i5:Int) (x6:LL) (x7:LI) (x8:LL)
noncomputable def l3:OL:=Vm.runT cfg fin k [.inLoop (sub [1,1,0,1,0,0] (bd f77)),.inBlock 0,.code (sub [1,1,1] (bd f77))] ⟨[dD,dD,.ref 8 (.root 0),dD,dD,.view 20 (.root 0) 1 false,dD,dD,dD,dD,dD,dD,dD,.view 52 (.root 0) 1 false,vI i4,vI i5]++a9B 11,[(8,⟨true,[cQ x6]⟩),(20,⟨false,[dL x7]⟩),(52,⟨false,[dQ x8]⟩)]⟩
theorem l3_eq:l3 (k+1) i4 i5 x6 x7 x8=if (decide (i5<i4))=true then if 0≤i5∧i5<(x8.length:Int)then(Ab3.F (x6,x8.getD i5.toNat ([]:LI),())).bind fun r9=>if x7.length+[r9.1.1].length≤bigA then l3 k i4 (za.wrap (i5+1)) x6 (x7++[r9.1.1]) x8 else none else none else some ((x7,()),()):=by kernel_rfl
variable (c_1:LL) (k_2:Int)
noncomputable def T:OL:=if 0≤k_2∧k_2<(c_1.length:Int)then(Ae4.F (c_1.getD k_2.toNat ([]:LI),())).bind fun r3=>l3 k (r3.1.1.length:Int) (0:Int) c_1 ([]) r3.1.1 else none
theorem of {r} (h:Ev (fun k=>T k c_1 k_2) r):F (c_1,k_2,())=some r:=Ev.run (fun k=>by kernel_rfl) h
theorem S:a3P prog ⟨77,sig,F⟩:=sound_k (res:=[.tmp 4]) func77 (cok (cM ⟨Ab3.S,cM ⟨Ae4.S,nM⟩⟩))
end Ab7
namespace Ak7
noncomputable def sig:Sig:=⟨[pQ],[oI]⟩
noncomputable def cfg:Cfg:=cf (cx [])
noncomputable def fin:=finK cfg.c sig [.tmp 2]
noncomputable def F (d:LL×Unit):OI:=anyK (a9u cfg fin (bd f96) (a6P sig.ps d 5))
variable (list_1:LL)
noncomputable def T:OI:=some (((list_1.length:Int),()),())
theorem eq:F (list_1,())=T list_1:=eq_any fun k=>by kernel_rfl
theorem S:a3P prog ⟨96,sig,F⟩:=sound_k (res:=[.tmp 2]) func96 (cok nM)
end Ak7
namespace Ae3
noncomputable def sig:Sig:=⟨[pC],[(.val false,(.sl TEdge),.deep)]⟩
noncomputable def cfg:Cfg:=cl (cx [⟨77,Ab7.sig,Ab7.F⟩,⟨96,Ak7.sig,Ak7.F⟩]) fun id=>match id with|3=>([1,3,9,10],[4,12])|6=>([1,3,4,9,10,15,16,17],[4,12,60])|_=>([],[])
noncomputable def fin:=finK cfg.c sig [.tmp 2]
noncomputable def F (d:LL×Unit):Option ((List (Int×Int×Int)×Unit)×(Unit)):=anyK (a9u cfg fin (bd f158) (a6P sig.ps d 32))
variable (k:Nat) (i3 i4:Int) (x5:LL) (x6:List (Int×Int×Int))
noncomputable def l3:Option ((List (Int×Int×Int)×Unit)×(Unit)):=Vm.runT cfg fin k [.inLoop (sub [1,1,0,1,0,0] (bd f158)),.inBlock 0,.code (sub [1,1,1] (bd f158))] ⟨[dD,.ref 4 (.root 0),dD,.view 12 (.root 0) 1 false,dD,dD,dD,dD,dD,vI i3,vI i4]++a9B 21,[(4,⟨true,[cQ x5]⟩),(12,⟨false,[⟨(.sl TEdge),.deep,x6⟩]⟩)]⟩
variable (i8 i9 i10 i11 i12:Int) (x13:LL) (x14:List (Int×Int×Int)) (x15:LI)
noncomputable def l6:Option ((List (Int×Int×Int)×Unit)×(Unit)):=Vm.runT cfg fin k [.inLoop (sub [1,1,0,1,0,0,1,1,0,0,1,1,0,0] (bd f158)),.inBlock 2,.inBlock 1,.code (sub [1,1,0,1,0,0,1,1,1] (bd f158)),.inLoop (sub [1,1,0,1,0,0] (bd f158)),.inBlock 0,.code (sub [1,1,1] (bd f158))] ⟨[dD,.ref 4 (.root 0),dD,.view 12 (.root 0) 1 false,vI i8,dD,dD,dD,dD,vI i9,vI i10,dD,dD,dD,dD,.view 60 (.root 0) 1 false,vI i11,vI i12]++a9B 14,[(4,⟨true,[cQ x13]⟩),(12,⟨false,[⟨(.sl TEdge),.deep,x14⟩]⟩),(60,⟨false,[dL x15]⟩)]⟩
theorem l3_eq:l3 (k+1) i3 i4 x5 x6=if (decide (i4<i3))=true then(Ab7.F (x5,i4,())).bind fun r7=>l6 k i4 i3 i4 (r7.1.1.length:Int) (0:Int) x5 x6 r7.1.1 else some ((x6,()),()):=by kernel_rfl
theorem l6_eq:l6 (k+1) i8 i9 i10 i11 i12 x13 x14 x15=if (decide (i12<i11))=true then if 0≤i12∧i12<(x15.length:Int)then if x14.length+([(i8,(i12,(x15.getD i12.toNat 0:Int)))]:List (Int×Int×Int)).length≤bigA then l6 k i8 i9 i10 i11 (za.wrap (i12+1)) x13 (x14++[(i8,(i12,(x15.getD i12.toNat 0:Int)))]) x15 else none else none else l3 k i9 (za.wrap (i10+1)) x13 x14:=by kernel_rfl
variable (c_1:LL)
noncomputable def T:Option ((List (Int×Int×Int)×Unit)×(Unit)):=(Ak7.F (c_1,())).bind fun r2=>l3 k r2.1.1 (0:Int) c_1 ([])
theorem of {r} (h:Ev (fun k=>T k c_1) r):F (c_1,())=some r:=Ev.run (fun k=>by kernel_rfl) h
theorem S:a3P prog ⟨158,sig,F⟩:=sound_k (res:=[.tmp 2]) func158 (cok (cM ⟨Ab7.S,cM ⟨Ak7.S,nM⟩⟩))
end Ae3
namespace Am4
noncomputable def sig:Sig:=⟨[pM],[oM]⟩
noncomputable def cfg:Cfg:=cf (cx [⟨57,Ab2.sig,Ab2.F⟩])
noncomputable def fin:=finK cfg.c sig [.cell 2 65]
noncomputable def F (d:MX×Unit):OM:=anyK (a9u cfg fin (bd f159) (a6P sig.ps d 8))
variable (m_1 m_2 m_3:Int) (m_4:LI)
noncomputable def T:OM:=(Ab2.F (m_4,())).bind fun r5=>some (((m_1,(m_2,(m_3,r5.1.1))),()),())
theorem eq:F ((m_1,(m_2,(m_3,m_4))),())=T m_1 m_2 m_3 m_4:=eq_any fun k=>by kernel_rfl
theorem S:a3P prog ⟨159,sig,F⟩:=sound_k (res:=[.cell 2 65]) func159 (cok (cM ⟨Ab2.S,nM⟩))
end Am4
namespace Aj9
noncomputable def sig:Sig:=⟨[pC,pI,pL,.fnx ⟨[(true,TEdge)],[oM]⟩],[oS]⟩
noncomputable def cfg:Cfg:=cl (cx [⟨57,Ab2.sig,Ab2.F⟩,⟨110,Ae1.sig,Ae1.F⟩,⟨158,Ae3.sig,Ae3.F⟩,⟨159,Am4.sig,Am4.F⟩]) fun id=>match id with|3=>([3,8,9,20,21,22],[32,36,80])|_=>([],[])
noncomputable def fin:=finK cfg.c sig [.cell 8 36]
noncomputable def F (d:LL×Int×LI×(((Int×Int×Int)×Unit)→Option (MX×Unit))×Unit):OS:=anyK (a9u cfg fin (bd f112) (a6P sig.ps d 37))
variable (k:Nat) (f8:((Int×Int×Int)×Unit)→Option (MX×Unit)) (i9 i10:Int) (x11:LL) (i12:Int) (x13:LI) (x14:LM) (x15:LL) (i16:Int) (x17:LI) (x18:LM) (x19:List (Int×Int×Int))
noncomputable def l3:OS:=Vm.runT cfg fin k [.inLoop (sub [1,1,0,1,0,0] (bd f112)),.inBlock 0,.code (sub [1,1,1] (bd f112))] ⟨[dD,dD,dD,.fnx ⟨[(true,TEdge)],[(.val true,TMatrix,.deep)]⟩ f8,dD,dD,dD,dD,.ref 32 (.root 0),.ref 36 (.root 0),dD,dD,dD,dD,dD,dD,dD,dD,dD,dD,.view 80 (.root 0) 1 false,vI i9,vI i10]++a9B 14,[(32,⟨true,[dQ x11,cI i12,dL x13,⟨(.sl TMatrix),.deep,x14⟩]⟩),(36,⟨true,[dQ x15,cI i16,dL x17,⟨(.sl TMatrix),.deep,x18⟩]⟩),(80,⟨false,[⟨(.sl TEdge),.deep,x19⟩]⟩)]⟩
theorem l3_eq:l3 (k+1) f8 i9 i10 x11 i12 x13 x14 x15 i16 x17 x18 x19=if (decide (i10<i9))=true then if 0≤i10∧i10<(x19.length:Int)then(f8 (x19.getD i10.toNat (0,0,0),())).bind fun r20=>(Am4.F (r20.1,())).bind fun r21=>if x18.length+[r21.1.1].length≤bigA then l3 k f8 i9 (za.wrap (i10+1)) x11 i12 x13 x14 x15 i16 x17 (x18++[r21.1.1]) x19 else none else none else some (((x15,(i16,(x17,x18))),()),()):=by kernel_rfl
variable (c_1:LL) (p_2:Int) (stalks_3:LI) (f_4:((Int×Int×Int)×Unit)→Option (MX×Unit))
noncomputable def T:OS:=(Ae1.F (c_1,())).bind fun r5=>(Ab2.F (stalks_3,())).bind fun r6=>(Ae3.F (c_1,())).bind fun r7=>l3 k f_4 (r7.1.1.length:Int) (0:Int) ([]) 0 ([]) ([]) r5.1.1 p_2 r6.1.1 ([]) r7.1.1
theorem of {r} (h:Ev (fun k=>T k c_1 p_2 stalks_3 f_4) r):F (c_1,p_2,stalks_3,f_4,())=some r:=Ev.run (fun k=>by kernel_rfl) h
theorem S:a3P prog ⟨112,sig,F⟩:=sound_k (res:=[.cell 8 36]) func112 (cok (cM ⟨Ab2.S,cM ⟨Ae1.S,cM ⟨Ae3.S,cM ⟨Am4.S,nM⟩⟩⟩⟩))
end Aj9
namespace Ab8
noncomputable def sig:Sig:=⟨[pL],[oI]⟩
noncomputable def cfg:Cfg:=cf (cx [])
noncomputable def fin:=finK cfg.c sig [.tmp 2]
noncomputable def F (d:LI×Unit):OI:=anyK (a9u cfg fin (bd f81) (a6P sig.ps d 5))
variable (list_1:LI)
noncomputable def T:OI:=some (((list_1.length:Int),()),())
theorem eq:F (list_1,())=T list_1:=eq_any fun k=>by kernel_rfl
theorem S:a3P prog ⟨81,sig,F⟩:=sound_k (res:=[.tmp 2]) func81 (cok nM)
end Ab8
namespace Ai5
noncomputable def sig:Sig:=⟨[pS,pI],[oI]⟩
noncomputable def cfg:Cfg:=cl (cx [⟨81,Ab8.sig,Ab8.F⟩]) fun id=>match id with|3=>([5,12,13,14],[])|_=>([],[])
noncomputable def fin:=finK cfg.c sig [.tmp 4]
noncomputable def F (d:SF×Int×Unit):OI:=anyK (a9u cfg fin (bd f121) (a6P sig.ps d 27))
variable (k:Nat) (i6:Int) (x7:LL) (i8 i9:Int)
noncomputable def l3:OI:=Vm.runT cfg fin k [.inLoop (sub [1,1,0,1,0,0] (bd f121)),.inBlock 0,.code (sub [1,1,1] (bd f121))] ⟨[dD,dD,dD,dD,dD,vI i6,dD,dD,dD,dD,dD,dD,vQ x7,vI i8,vI i9]++a9B 12,[]⟩
theorem l3_eq:l3 (k+1) i6 x7 i8 i9=if (decide (i9<i8))=true then if 0≤i9∧i9<(x7.length:Int)then if (decide (((x7.getD i9.toNat ([]:LI)).length:Int)>1))=true then(Ab8.F (x7.getD i9.toNat ([]:LI),())).bind fun r10=>l3 k (za.wrap (i6+r10.1.1)) x7 i8 (za.wrap (i9+1))else l3 k i6 x7 i8 (za.wrap (i9+1))else none else some ((i6,()),()):=by kernel_rfl
noncomputable def T (k:Nat) (s_1:LL) (s_2:Int) (s_3:LI) (s_4:LM) (simplex_5:Int):OI:=if 0≤(0:Int)∧(0:Int)≤simplex_5∧simplex_5≤(s_1.length:Int)then l3 k (0:Int) (cutL s_1 (0:Int) simplex_5) ((cutL s_1 (0:Int) simplex_5).length:Int) (0:Int)else none
theorem of (s_1:LL) (s_2:Int) (s_3:LI) (s_4:LM) (simplex_5:Int) {r} (h:Ev (fun k=>T k s_1 s_2 s_3 s_4 simplex_5) r):F ((s_1,(s_2,(s_3,s_4))),simplex_5,())=some r:=Ev.run (fun k=>by kernel_rfl) h
theorem S:a3P prog ⟨121,sig,F⟩:=sound_k (res:=[.tmp 4]) func121 (cok (cM ⟨Ab8.S,nM⟩))
end Ai5
namespace Ac2
noncomputable def sig:Sig:=⟨[pS,pI,pI],[(.val true,TMatrix,.sh)]⟩
noncomputable def cfg:Cfg:=cf (cx [⟨121,Ai5.sig,Ai5.F⟩])
noncomputable def fin:=finK cfg.c sig [.cell 6 65]
noncomputable def F (d:SF×Int×Int×Unit):OM:=anyK (a9u cfg fin (bd f78) (a6P sig.ps d 16))
variable (s_1:LL) (s_2:Int) (s_3:LI) (s_4:LM) (simplex_5 place_6:Int)
noncomputable def T:OM:=(Ai5.F ((s_1,(s_2,(s_3,s_4))),simplex_5,())).bind fun r7=>if 0≤(za.wrap (r7.1.1+place_6))∧(za.wrap (r7.1.1+place_6))<(s_4.length:Int)then let y8:Int:=(s_4.getD (za.wrap (r7.1.1+place_6)).toNat (0,0,0,([]:LI))).1;let y9:Int:=((s_4.getD (za.wrap (r7.1.1+place_6)).toNat (0,0,0,([]:LI))).2).1;let y10:Int:=(((s_4.getD (za.wrap (r7.1.1+place_6)).toNat (0,0,0,([]:LI))).2).2).1;let y11:LI:=(((s_4.getD (za.wrap (r7.1.1+place_6)).toNat (0,0,0,([]:LI))).2).2).2;some (((y8,(y9,(y10,y11))),()),())else none
theorem eq:F ((s_1,(s_2,(s_3,s_4))),simplex_5,place_6,())=T s_1 s_2 s_3 s_4 simplex_5 place_6:=eq_any fun k=>by kernel_rfl
theorem S:a3P prog ⟨78,sig,F⟩:=sound_k (res:=[.cell 6 65]) func78 (cok (cM ⟨Ai5.S,nM⟩))
end Ac2
namespace Ac3
noncomputable def sig:Sig:=⟨[pI,pI,pI,.fnx ⟨[(false,tI),(false,tI)],[oI]⟩],[oM]⟩
noncomputable def cfg:Cfg:=cl (cx []) fun id=>match id with|3=>([2,3,8,9,16,17],[32,36])|6=>([2,3,8,9,10,16,17,20,21],[32,36])|_=>([],[])
noncomputable def fin:=finK cfg.c sig [.cell 8 65]
noncomputable def F (d:Int×Int×Int×((Int×Int×Unit)→Option (Int×Unit))×Unit):OM:=anyK (a9u cfg fin (bd f118) (a6P sig.ps d 36))
variable (k:Nat) (i5:Int) (f6:(Int×Int×Unit)→Option (Int×Unit)) (i7 i8 i9 i10 i11:Int) (x12:LI) (i13 i14 i15:Int) (x16:LI)
noncomputable def l3:OM:=Vm.runT cfg fin k [.inLoop (sub [1,1,0,1,0,0] (bd f118)),.inBlock 0,.code (sub [1,1,1] (bd f118))] ⟨[dD,dD,vI i5,.fnx ⟨[(false,tI),(false,tI)],[(.val false,tI,.deep)]⟩ f6,dD,dD,dD,dD,.ref 32 (.root 0),.ref 36 (.root 0),dD,dD,dD,dD,dD,dD,vI i7,vI i8]++a9B 18,[(32,⟨true,[cI i9,cI i10,cI i11,dL x12]⟩),(36,⟨true,[cI i13,cI i14,cI i15,dL x16]⟩)]⟩
variable (i17:Int) (f18:(Int×Int×Unit)→Option (Int×Unit)) (i19 i20 i21 i22 i23 i24 i25 i26:Int) (x27:LI) (i28 i29 i30:Int) (x31:LI)
noncomputable def l6:OM:=Vm.runT cfg fin k [.inLoop (sub [1,1,0,1,0,0,1,1,0,0,1,1,0,0] (bd f118)),.inBlock 2,.inBlock 1,.code (sub [1,1,0,1,0,0,1,1,1] (bd f118)),.inLoop (sub [1,1,0,1,0,0] (bd f118)),.inBlock 0,.code (sub [1,1,1] (bd f118))] ⟨[dD,dD,vI i17,.fnx ⟨[(false,tI),(false,tI)],[(.val false,tI,.deep)]⟩ f18,dD,dD,dD,dD,.ref 32 (.root 0),.ref 36 (.root 0),vI i19,dD,dD,dD,dD,dD,vI i20,vI i21,dD,dD,vI i22,vI i23]++a9B 14,[(32,⟨true,[cI i24,cI i25,cI i26,dL x27]⟩),(36,⟨true,[cI i28,cI i29,cI i30,dL x31]⟩)]⟩
theorem l3_eq:l3 (k+1) i5 f6 i7 i8 i9 i10 i11 x12 i13 i14 i15 x16=if (decide (i8<i7))=true then l6 k i5 f6 i8 i7 i8 i5 (0:Int) i9 i10 i11 x12 i13 i14 i15 x16 else some (((i13,(i14,(i15,x16))),()),()):=by kernel_rfl
theorem l6_eq:l6 (k+1) i17 f18 i19 i20 i21 i22 i23 i24 i25 i26 x27 i28 i29 i30 x31=if (decide (i23<i22))=true then(f18 (i19,i23,())).bind fun r32=>if x31.length+[r32.1].length≤bigA then l6 k i17 f18 i19 i20 i21 i22 (za.wrap (i23+1)) i24 i25 i26 x27 i28 i29 i30 (x31++[r32.1])else none else l3 k i17 f18 i20 (za.wrap (i21+1)) i24 i25 i26 x27 i28 i29 i30 x31:=by kernel_rfl
variable (p_1 rows_2 columns_3:Int) (f_4:(Int×Int×Unit)→Option (Int×Unit))
noncomputable def T:OM:=l3 k columns_3 f_4 rows_2 (0:Int) 0 0 0 ([]) p_1 rows_2 columns_3 ([])
theorem of {r} (h:Ev (fun k=>T k p_1 rows_2 columns_3 f_4) r):F (p_1,rows_2,columns_3,f_4,())=some r:=Ev.run (fun k=>by kernel_rfl) h
theorem S:a3P prog ⟨118,sig,F⟩:=sound_k (res:=[.cell 8 65]) func118 (cok nM)
end Ac3
namespace At2
noncomputable def sig:Sig:=⟨[pI,pI],[oI]⟩
noncomputable def cfg:Cfg:=cf (cx [])
noncomputable def fin:=finK cfg.c sig [.tmp 4]
noncomputable def F (d:Int×Int×Unit):OI:=anyK (a9u cfg fin (bd f193) (a6P sig.ps d 8))
variable (i_1 j_2:Int)
noncomputable def T:OI:=if (i_1==j_2)=true then some ((1,()),())else some ((0,()),())
theorem eq:F (i_1,j_2,())=T i_1 j_2:=eq_any fun k=>by kernel_rfl
theorem S:a3P prog ⟨193,sig,F⟩:=sound_k (res:=[.tmp 4]) func193 (cok nM)
noncomputable def cloG (y:Unit) (d:Int×Int×Unit):Option (Int×Unit):=(F (b0b [] [(false,tI),(false,tI)] d y)).map (·.1)
noncomputable def clo:Clo:=⟨193,⟨[(false,tI),(false,tI)],[(.val false,tI,.deep)]⟩,[],cloG⟩
theorem cloS:a2t prog clo:=sound_clo (s:=⟨[(false,tI),(false,tI)],[(.val false,tI,.deep)]⟩) (caps:=[]) rfl S
end At2
namespace Ap9
noncomputable def sig:Sig:=⟨[pI,pI],[oM]⟩
noncomputable def cfg:Cfg:=cf ⟨a2n tabl,[⟨118,Ac3.sig,Ac3.F⟩],[At2.clo],[],[],[]⟩
noncomputable def fin:=finK cfg.c sig [.cell 4 65]
noncomputable def F (d:Int×Int×Unit):OM:=anyK (a9u cfg fin (bd f160) (a6P sig.ps d 9))
variable (p_1 n_2:Int)
noncomputable def T:OM:=(Ac3.F (p_1,n_2,n_2,At2.cloG (()),())).bind fun r3=>some ((r3.1.1,()),())
theorem eq:F (p_1,n_2,())=T p_1 n_2:=eq_any fun k=>by kernel_rfl
theorem S:a3P prog ⟨160,sig,F⟩:=sound_k (res:=[.cell 4 65]) func160 (⟨nM,mixed_ok,tab_ok tab_good,cM ⟨Ac3.S,nM⟩,cM ⟨At2.cloS,nM⟩,nM⟩)
end Ap9
namespace Ah3
noncomputable def sig:Sig:=⟨[pL,.fnx ⟨[(false,tI)],[oB]⟩],[oI]⟩
noncomputable def cfg:Cfg:=cl (cx []) fun id=>match id with|2=>([0,1,7,8],[])|_=>([],[])
noncomputable def fin:=finK cfg.c sig [.tmp 4]
noncomputable def F (d:LI×((Int×Unit)→Option (Bool×Unit))×Unit):OI:=anyK (a9u cfg fin (bd f161) (a6P sig.ps d 19))
variable (k:Nat) (x3:LI) (f4:(Int×Unit)→Option (Bool×Unit)) (i5 i6:Int)
noncomputable def l2:OI:=Vm.runT cfg fin k [.inLoop (sub [1,0,1,0,0] (bd f161)),.inBlock 0,.code (sub [1,1] (bd f161))] ⟨[vL x3,.fnx ⟨[(false,tI)],[(.val false,.bool,.deep)]⟩ f4,dD,dD,dD,dD,dD,vI i5,vI i6]++a9B 10,[]⟩
theorem l2_eq:l2 (k+1) x3 f4 i5 i6=if (decide (i6<i5))=true then if 0≤i6∧i6<(x3.length:Int)then(f4 ((x3.getD i6.toNat 0:Int),())).bind fun r7=>if r7.1=true then some ((i6,()),())else l2 k x3 f4 i5 (za.wrap (i6+1))else none else some (((-1:Int),()),()):=by kernel_rfl
variable (s_1:LI) (f_2:(Int×Unit)→Option (Bool×Unit))
noncomputable def T:OI:=l2 k s_1 f_2 (s_1.length:Int) (0:Int)
theorem of {r} (h:Ev (fun k=>T k s_1 f_2) r):F (s_1,f_2,())=some r:=Ev.run (fun k=>by kernel_rfl) h
theorem S:a3P prog ⟨161,sig,F⟩:=sound_k (res:=[.tmp 4]) func161 (cok nM)
end Ah3
namespace Af1
noncomputable def sig:Sig:=⟨[pM,pI],[(.val false,tL,.sh)]⟩
noncomputable def cfg:Cfg:=cf (cx [])
noncomputable def fin:=finK cfg.c sig [.tmp 4]
noncomputable def F (d:MX×Int×Unit):OL:=anyK (a9u cfg fin (bd f75) (a6P sig.ps d 17))
noncomputable def T (m_1 m_2 m_3:Int) (m_4:LI) (i_5:Int):OL:=if 0≤(za.wrap (i_5*m_3))∧(za.wrap (i_5*m_3))≤(za.wrap ((za.wrap (i_5+1))*m_3))∧(za.wrap ((za.wrap (i_5+1))*m_3))≤(m_4.length:Int)then some ((cutL m_4 (za.wrap (i_5*m_3)) (za.wrap ((za.wrap (i_5+1))*m_3)),()),())else none
theorem eq (m_1 m_2 m_3:Int) (m_4:LI) (i_5:Int):F ((m_1,(m_2,(m_3,m_4))),i_5,())=T m_1 m_2 m_3 m_4 i_5:=eq_any fun k=>by kernel_rfl
theorem S:a3P prog ⟨75,sig,F⟩:=sound_k (res:=[.tmp 4]) func75 (cok nM)
end Af1
namespace Ad8
noncomputable def sig:Sig:=⟨[pM],[oQ]⟩
noncomputable def cfg:Cfg:=cl (cx [⟨57,Ab2.sig,Ab2.F⟩,⟨75,Af1.sig,Af1.F⟩]) fun id=>match id with|3=>([1,3,6,7],[4,12])|_=>([],[])
noncomputable def fin:=finK cfg.c sig [.tmp 2]
noncomputable def F (d:MX×Unit):OQ:=anyK (a9u cfg fin (bd f93) (a6P sig.ps d 19))
variable (k:Nat) (i5 i6 i7 i8 i9:Int) (x10:LI) (x11:LL)
noncomputable def l3:OQ:=Vm.runT cfg fin k [.inLoop (sub [1,1,0,1,0,0] (bd f93)),.inBlock 0,.code (sub [1,1,1] (bd f93))] ⟨[dD,.ref 4 (.root 0),dD,.view 12 (.root 0) 1 false,dD,dD,vI i5,vI i6]++a9B 11,[(4,⟨true,[cI i7,cI i8,cI i9,cL x10]⟩),(12,⟨false,[dQ x11]⟩)]⟩
theorem l3_eq:l3 (k+1) i5 i6 i7 i8 i9 x10 x11=if (decide (i6<i5))=true then(Af1.F ((i7,(i8,(i9,x10))),i6,())).bind fun r12=>(Ab2.F (r12.1.1,())).bind fun r13=>if x11.length+[r13.1.1].length≤bigA then l3 k i5 (za.wrap (i6+1)) i7 i8 i9 x10 (x11++[r13.1.1])else none else some ((x11,()),()):=by kernel_rfl
variable (m_1 m_2 m_3:Int) (m_4:LI)
noncomputable def T:OQ:=l3 k m_2 (0:Int) m_1 m_2 m_3 m_4 ([])
theorem of {r} (h:Ev (fun k=>T k m_1 m_2 m_3 m_4) r):F ((m_1,(m_2,(m_3,m_4))),())=some r:=Ev.run (fun k=>by kernel_rfl) h
theorem S:a3P prog ⟨93,sig,F⟩:=sound_k (res:=[.tmp 2]) func93 (cok (cM ⟨Ab2.S,cM ⟨Af1.S,nM⟩⟩))
end Ad8
namespace Aj6
noncomputable def sig:Sig:=⟨[pM,pI,pI],[oI]⟩
noncomputable def cfg:Cfg:=cf (cx [])
noncomputable def fin:=finK cfg.c sig [.tmp 6]
noncomputable def F (d:MX×Int×Int×Unit):OI:=anyK (a9u cfg fin (bd f79) (a6P sig.ps d 17))
noncomputable def T (m_1 m_2 m_3:Int) (m_4:LI) (i_5 j_6:Int):OI:=if 0≤(za.wrap ((za.wrap (i_5*m_3))+j_6))∧(za.wrap ((za.wrap (i_5*m_3))+j_6))<(m_4.length:Int)then some (((m_4.getD (za.wrap ((za.wrap (i_5*m_3))+j_6)).toNat 0:Int),()),())else none
theorem eq (m_1 m_2 m_3:Int) (m_4:LI) (i_5 j_6:Int):F ((m_1,(m_2,(m_3,m_4))),i_5,j_6,())=T m_1 m_2 m_3 m_4 i_5 j_6:=eq_any fun k=>by kernel_rfl
theorem S:a3P prog ⟨79,sig,F⟩:=sound_k (res:=[.tmp 6]) func79 (cok nM)
end Aj6
namespace At1
noncomputable def sig:Sig:=⟨[pI,pI,qM],[oI]⟩
noncomputable def cfg:Cfg:=cf (cx [⟨79,Aj6.sig,Aj6.F⟩])
noncomputable def fin:=finK cfg.c sig [.tmp 5]
noncomputable def F (d:Int×Int×MX×Unit):OI:=anyK (a9u cfg fin (bd f238) (a6P sig.ps d 10))
variable (i_1 j_2 a_3 a_4 a_5:Int) (a_6:LI)
noncomputable def T:OI:=(Aj6.F ((a_3,(a_4,(a_5,a_6))),j_2,i_1,())).bind fun r7=>some ((r7.1.1,()),())
theorem eq:F (i_1,j_2,(a_3,(a_4,(a_5,a_6))),())=T i_1 j_2 a_3 a_4 a_5 a_6:=eq_any fun k=>by kernel_rfl
theorem S:a3P prog ⟨238,sig,F⟩:=sound_k (res:=[.tmp 5]) func238 (cok (cM ⟨Aj6.S,nM⟩))
noncomputable def cloG (y:MX×Unit) (d:Int×Int×Unit):Option (Int×Unit):=(F (b0b [.rptr TMatrix] [(false,tI),(false,tI)] d y)).map (·.1)
noncomputable def clo:Clo:=⟨238,⟨[(false,tI),(false,tI)],[(.val false,tI,.deep)]⟩,[.rptr TMatrix],cloG⟩
theorem cloS:a2t prog clo:=sound_clo (s:=⟨[(false,tI),(false,tI)],[(.val false,tI,.deep)]⟩) (caps:=[.rptr TMatrix]) rfl S
end At1
namespace Ap7
noncomputable def sig:Sig:=⟨[pM],[oM]⟩
noncomputable def cfg:Cfg:=cf ⟨a2n tabl,[⟨118,Ac3.sig,Ac3.F⟩],[At1.clo],[],[],[]⟩
noncomputable def fin:=finK cfg.c sig [.cell 2 65]
noncomputable def F (d:MX×Unit):OM:=anyK (a9u cfg fin (bd f228) (a6P sig.ps d 11))
variable (m_1 m_2 m_3:Int) (m_4:LI)
noncomputable def T:OM:=(Ac3.F (m_1,m_3,m_2,At1.cloG ((m_1,(m_2,(m_3,m_4))),()),())).bind fun r5=>some ((r5.1.1,()),())
theorem eq:F ((m_1,(m_2,(m_3,m_4))),())=T m_1 m_2 m_3 m_4:=eq_any fun k=>by kernel_rfl
theorem S:a3P prog ⟨228,sig,F⟩:=sound_k (res:=[.cell 2 65]) func228 (⟨nM,mixed_ok,tab_ok tab_good,cM ⟨Ac3.S,nM⟩,cM ⟨At1.cloS,nM⟩,nM⟩)
end Ap7
namespace Ap2
noncomputable def sig:Sig:=⟨[pM],[oQ]⟩
noncomputable def cfg:Cfg:=cf (cx [⟨93,Ad8.sig,Ad8.F⟩,⟨228,Ap7.sig,Ap7.F⟩])
noncomputable def fin:=finK cfg.c sig [.tmp 2]
noncomputable def F (d:MX×Unit):OQ:=anyK (a9u cfg fin (bd f194) (a6P sig.ps d 6))
variable (m_1 m_2 m_3:Int) (m_4:LI)
noncomputable def T:OQ:=(Ap7.F ((m_1,(m_2,(m_3,m_4))),())).bind fun r5=>(Ad8.F (r5.1.1,())).bind fun r6=>some ((r6.1.1,()),())
theorem eq:F ((m_1,(m_2,(m_3,m_4))),())=T m_1 m_2 m_3 m_4:=eq_any fun k=>by kernel_rfl
theorem S:a3P prog ⟨194,sig,F⟩:=sound_k (res:=[.tmp 2]) func194 (cok (cM ⟨Ad8.S,cM ⟨Ap7.S,nM⟩⟩))
end Ap2
namespace Ag5
noncomputable def sig:Sig:=⟨[pL,pL,pI],[oI]⟩
noncomputable def cfg:Cfg:=cl (cx []) fun id=>match id with|3=>([0,1,2,7,10,11],[])|_=>([],[])
noncomputable def fin:=finK cfg.c sig [.tmp 6]
noncomputable def F (d:LI×LI×Int×Unit):OI:=anyK (a9u cfg fin (bd f74) (a6P sig.ps d 29))
variable (k:Nat) (x4 x5:LI) (i6 i7 i8 i9:Int)
noncomputable def l3:OI:=Vm.runT cfg fin k [.inLoop (sub [1,1,0,1,0,0] (bd f74)),.inBlock 0,.code (sub [1,1,1] (bd f74))] ⟨[vL x4,vL x5,vI i6,dD,dD,dD,dD,vI i7,dD,dD,vI i8,vI i9]++a9B 17,[]⟩
theorem l3_eq:l3 (k+1) x4 x5 i6 i7 i8 i9=if (decide (i9<i8))=true then if 0≤i9∧i9<(x4.length:Int)then if 0≤i9∧i9<(x5.length:Int)then if i6=0 then none else l3 k x4 x5 i6 ((za.wrap (i7+(za.wrap ((x4.getD i9.toNat 0:Int)*(x5.getD i9.toNat 0:Int))))).tmod i6) i8 (za.wrap (i9+1))else none else none else some ((i7,()),()):=by kernel_rfl
variable (a_1 b_2:LI) (p_3:Int)
noncomputable def T:OI:=l3 k a_1 b_2 p_3 (0:Int) (a_1.length:Int) (0:Int)
theorem of {r} (h:Ev (fun k=>T k a_1 b_2 p_3) r):F (a_1,b_2,p_3,())=some r:=Ev.run (fun k=>by kernel_rfl) h
theorem S:a3P prog ⟨74,sig,F⟩:=sound_k (res:=[.tmp 6]) func74 (cok nM)
end Ag5
namespace As9
noncomputable def sig:Sig:=⟨[pI,pI,qM,qC],[oI]⟩
noncomputable def cfg:Cfg:=cf (cx [⟨74,Ag5.sig,Ag5.F⟩,⟨75,Af1.sig,Af1.F⟩])
noncomputable def fin:=finK cfg.c sig [.tmp 6]
noncomputable def F (d:Int×Int×MX×LL×Unit):OI:=anyK (a9u cfg fin (bd f195) (a6P sig.ps d 17))
variable (i_1 j_2 a_3 a_4 a_5:Int) (a_6:LI) (a_7:LL)
noncomputable def T:OI:=(Af1.F ((a_3,(a_4,(a_5,a_6))),i_1,())).bind fun r8=>if 0≤j_2∧j_2<(a_7.length:Int)then(Ag5.F (r8.1.1,a_7.getD j_2.toNat ([]:LI),a_3,())).bind fun r9=>some ((r9.1.1,()),())else none
theorem eq:F (i_1,j_2,(a_3,(a_4,(a_5,a_6))),a_7,())=T i_1 j_2 a_3 a_4 a_5 a_6 a_7:=eq_any fun k=>by kernel_rfl
theorem S:a3P prog ⟨195,sig,F⟩:=sound_k (res:=[.tmp 6]) func195 (cok (cM ⟨Ag5.S,cM ⟨Af1.S,nM⟩⟩))
noncomputable def cloG (y:MX×LL×Unit) (d:Int×Int×Unit):Option (Int×Unit):=(F (b0b [.rptr TMatrix,.rptr tQ] [(false,tI),(false,tI)] d y)).map (·.1)
noncomputable def clo:Clo:=⟨195,⟨[(false,tI),(false,tI)],[(.val false,tI,.deep)]⟩,[.rptr TMatrix,.rptr tQ],cloG⟩
theorem cloS:a2t prog clo:=sound_clo (s:=⟨[(false,tI),(false,tI)],[(.val false,tI,.deep)]⟩) (caps:=[.rptr TMatrix,.rptr tQ]) rfl S
end As9
namespace Ag6
noncomputable def sig:Sig:=⟨[pM,pM],[oM]⟩
noncomputable def cfg:Cfg:=cf ⟨a2n tabl,[⟨118,Ac3.sig,Ac3.F⟩,⟨194,Ap2.sig,Ap2.F⟩],[As9.clo],[],[],[]⟩
noncomputable def fin:=finK cfg.c sig [.cell 4 65]
noncomputable def F (d:MX×MX×Unit):OM:=anyK (a9u cfg fin (bd f164) (a6P sig.ps d 16))
variable (a_1 a_2 a_3:Int) (a_4:LI) (b_5 b_6 b_7:Int) (b_8:LI)
noncomputable def T:OM:=(Ap2.F ((b_5,(b_6,(b_7,b_8))),())).bind fun r9=>(Ac3.F (a_1,a_2,b_7,As9.cloG ((a_1,(a_2,(a_3,a_4))),r9.1.1,()),())).bind fun r10=>some ((r10.1.1,()),())
theorem eq:F ((a_1,(a_2,(a_3,a_4))),(b_5,(b_6,(b_7,b_8))),())=T a_1 a_2 a_3 a_4 b_5 b_6 b_7 b_8:=eq_any fun k=>by kernel_rfl
theorem S:a3P prog ⟨164,sig,F⟩:=sound_k (res:=[.cell 4 65]) func164 (⟨nM,mixed_ok,tab_ok tab_good,cM ⟨Ac3.S,cM ⟨Ap2.S,nM⟩⟩,cM ⟨As9.cloS,nM⟩,nM⟩)
end Ag6
namespace Aq7
noncomputable def sig:Sig:=⟨[pL,pI],[oB]⟩
noncomputable def cfg:Cfg:=cf (cx [⟨155,Af4.sig,Af4.F⟩])
noncomputable def fin:=finK cfg.c sig [.tmp 4]
noncomputable def F (d:LI×Int×Unit):OB:=anyK (a9u cfg fin (bd f163) (a6P sig.ps d 9))
variable (s_1:LI) (v_2:Int)
noncomputable def T:OB:=(Af4.F (s_1,v_2,())).bind fun r3=>some ((decide (r3.1.1≥0),()),())
theorem eq:F (s_1,v_2,())=T s_1 v_2:=eq_any fun k=>by kernel_rfl
theorem S:a3P prog ⟨163,sig,F⟩:=sound_k (res:=[.tmp 4]) func163 (cok (cM ⟨Af4.S,nM⟩))
end Aq7
namespace As2
noncomputable def sig:Sig:=⟨[pI,.rptr tL],[oB]⟩
noncomputable def cfg:Cfg:=cf (cx [⟨163,Aq7.sig,Aq7.F⟩])
noncomputable def fin:=finK cfg.c sig [.tmp 3]
noncomputable def F (d:Int×LI×Unit):OB:=anyK (a9u cfg fin (bd f162) (a6P sig.ps d 8))
variable (v_1:Int) (a_2:LI)
noncomputable def T:OB:=(Aq7.F (a_2,v_1,())).bind fun r3=>some ((!r3.1.1,()),())
theorem eq:F (v_1,a_2,())=T v_1 a_2:=eq_any fun k=>by kernel_rfl
theorem S:a3P prog ⟨162,sig,F⟩:=sound_k (res:=[.tmp 3]) func162 (cok (cM ⟨Aq7.S,nM⟩))
noncomputable def cloG (y:LI×Unit) (d:Int×Unit):Option (Bool×Unit):=(F (b0b [.rptr tL] [(false,tI)] d y)).map (·.1)
noncomputable def clo:Clo:=⟨162,⟨[(false,tI)],[(.val false,.bool,.deep)]⟩,[.rptr tL],cloG⟩
theorem cloS:a2t prog clo:=sound_clo (s:=⟨[(false,tI)],[(.val false,.bool,.deep)]⟩) (caps:=[.rptr tL]) rfl S
end As2
namespace Ad5
noncomputable def sig:Sig:=⟨[pS,pI,pI],[oM]⟩
noncomputable def ctx (self:(SF×Int×Int×Unit)→OM):Ctx:=⟨a2n tabl,[⟨77,Ab7.sig,Ab7.F⟩,⟨78,Ac2.sig,Ac2.F⟩,⟨160,Ap9.sig,Ap9.F⟩,⟨161,Ah3.sig,Ah3.F⟩,⟨164,Ag6.sig,Ag6.F⟩,⟨114,sig,self⟩],[As2.clo],[],[],[]⟩
noncomputable def cfg (self:(SF×Int×Int×Unit)→OM):Cfg:=⟨(ctx self),[],[],fun _=>([],[]),fun _=>[]⟩
noncomputable def code:Code:=(f114).body.getD .skip
noncomputable def fin (self:(SF×Int×Int×Unit)→OM):=finK (ctx self) sig [.cell 6 65]
noncomputable def step (self:(SF×Int×Int×Unit)→OM) (d:SF×Int×Int×Unit):OM:=anyK (a9u (cfg self) (fin self) code (a6P sig.ps d 51))
variable (self:(SF×Int×Int×Unit)→OM) (s_1:LL) (s_2:Int) (s_3:LI) (s_4:LM) (face_5 simplex_6:Int)
noncomputable def T:OM:=if (face_5==simplex_6)=true then if 0≤face_5∧face_5<(s_3.length:Int)then(Ap9.F (s_2,(s_3.getD face_5.toNat 0:Int),())).bind fun r7=>some ((r7.1.1,()),())else none else if 0≤face_5∧face_5<(s_1.length:Int)then if 0≤simplex_6∧simplex_6<(s_1.length:Int)then(Ah3.F (s_1.getD simplex_6.toNat ([]:LI),As2.cloG (s_1.getD face_5.toNat ([]:LI),()),())).bind fun r8=>(Ab7.F (s_1,simplex_6,())).bind fun r9=>if 0≤r8.1.1∧r8.1.1<(r9.1.1.length:Int)then(Ac2.F ((s_1,(s_2,(s_3,s_4))),simplex_6,r8.1.1,())).bind fun r10=>(self ((s_1,(s_2,(s_3,s_4))),face_5,r9.1.1.getD r8.1.1.toNat 0,())).bind fun r11=>(Ag6.F (r10.1.1,r11.1.1,())).bind fun r12=>some ((r12.1.1,()),())else none else none else none
theorem run (self:(SF×Int×Int×Unit)→OM) (k:Nat) (s_1:LL) (s_2:Int) (s_3:LI) (s_4:LM) (face_5 simplex_6:Int):a9u (cfg self) (fin self) code (a6P sig.ps ((s_1,(s_2,(s_3,s_4))),face_5,simplex_6,()) 51) k=T self s_1 s_2 s_3 s_4 face_5 simplex_6:=by kernel_rfl
theorem eq:step self ((s_1,(s_2,(s_3,s_4))),face_5,simplex_6,())=T self s_1 s_2 s_3 s_4 face_5 simplex_6:=(congrArg anyK (funext fun k=>run self k s_1 s_2 s_3 s_4 face_5 simplex_6)).trans (b1n _)
theorem ok (self:(SF×Int×Int×Unit)→OM) (hs:a3P prog ⟨114,sig,self⟩):CtxOK prog (ctx self):=⟨nilM,mixed_ok,tab_ok tab_good,consM ⟨Ab7.S,consM ⟨Ac2.S,consM ⟨Ap9.S,consM ⟨Ah3.S,consM ⟨Ag6.S,consM ⟨hs,nilM⟩⟩⟩⟩⟩⟩,consM ⟨As2.cloS,nilM⟩,nilM⟩
theorem stepS (self:(SF×Int×Int×Unit)→OM) (hs:a3P prog ⟨114,sig,self⟩):a3P prog ⟨114,sig,step self⟩:=b3f (fn:=f114) (code:=code) (g:=cfg self) (res:=[.cell 6 65]) func114 (by kernel_rfl) (by kernel_rfl) (ok self hs) (by kernel_rfl) (by kernel_rfl) (zd (by kernel_rfl)) (by kernel_rfl)
noncomputable def R:Nat→(SF×Int×Int×Unit)→OM:=recF step
noncomputable def F (d:SF×Int×Int×Unit):OM:=anyE fun q=>R q d
theorem ofR {d:SF×Int×Int×Unit} {r:(MX×Unit)×(Unit)} (h:Ev (fun q=>R q d) r):F d=some r:=anyE_of h
theorem S:a3P prog ⟨114,sig,F⟩:=sound_rec ⟨_,func114,by kernel_rfl,by kernel_rfl⟩ fun self h=>stepS self h
end Ad5
namespace Aj8
noncomputable def sig:Sig:=⟨[.val true TEdge,qS,.rptr tL],[oM]⟩
noncomputable def cfg:Cfg:=cf (cx [⟨114,Ad5.sig,Ad5.F⟩])
noncomputable def fin:=finK cfg.c sig [.cell 4 65]
noncomputable def F (d:(Int×Int×Int)×SF×LI×Unit):OM:=anyK (a9u cfg fin (bd f113) (a6P sig.ps d 17))
noncomputable def T (a_1 a_2 a_3:Int) (a_4:LL) (a_5:Int) (a_6:LI) (a_7:LM) (a_8:LI):OM:=if 0≤a_3∧a_3<(a_8.length:Int)then if 0≤a_1∧a_1<(a_8.length:Int)then(Ad5.F ((a_4,(a_5,(a_6,a_7))),(a_8.getD a_3.toNat 0:Int),(a_8.getD a_1.toNat 0:Int),())).bind fun r9=>some ((r9.1.1,()),())else none else none
theorem eq (a_1 a_2 a_3:Int) (a_4:LL) (a_5:Int) (a_6:LI) (a_7:LM) (a_8:LI):F ((a_1,(a_2,a_3)),(a_4,(a_5,(a_6,a_7))),a_8,())=T a_1 a_2 a_3 a_4 a_5 a_6 a_7 a_8:=eq_any fun k=>by kernel_rfl
theorem S:a3P prog ⟨113,sig,F⟩:=sound_k (res:=[.cell 4 65]) func113 (cok (cM ⟨Ad5.S,nM⟩))
noncomputable def cloG (y:SF×LI×Unit) (d:(Int×Int×Int)×Unit):Option (MX×Unit):=(F (b0b [.rptr TSheaf,.rptr tL] [(true,TEdge)] d y)).map (·.1)
noncomputable def clo:Clo:=⟨113,⟨[(true,TEdge)],[(.val true,TMatrix,.deep)]⟩,[.rptr TSheaf,.rptr tL],cloG⟩
theorem cloS:a2t prog clo:=sound_clo (s:=⟨[(true,TEdge)],[(.val true,TMatrix,.deep)]⟩) (caps:=[.rptr TSheaf,.rptr tL]) rfl S
end Aj8
namespace Ak6
noncomputable def sig:Sig:=⟨[pS,pC,pL],[oS]⟩
noncomputable def cfg:Cfg:=cl (⟨a2n tabl,[⟨32,Ab3.sig,Ab3.F⟩,⟨111,Ak5.sig,Ak5.F⟩,⟨112,Aj9.sig,Aj9.F⟩],[Aj8.clo],[],[],[]⟩) fun id=>match id with|3=>([2,3,4,6,7,8,13,14,15],[12,16,24,28,32])|_=>([],[])
noncomputable def fin:=finK cfg.c sig [.cell 6 36]
noncomputable def F (d:SF×LL×LI×Unit):OS:=anyK (a9u cfg fin (bd f71) (a6P sig.ps d 45))
variable (k:Nat) (x7:LI) (x8:LL) (i9 i10:Int) (x11:LL) (i12:Int) (x13:LI) (x14:LM) (x15 x16:LL) (i17:Int) (x18:LI) (x19:LM) (x20 x21:LI)
noncomputable def l3:OS:=Vm.runT cfg fin k [.inLoop (sub [1,1,0,1,0,0] (bd f71)),.inBlock 0,.code (sub [1,1,1] (bd f71))] ⟨[dD,dD,vL x7,.ref 12 (.root 0),.ref 16 (.root 0),dD,.ref 24 (.root 0),.ref 28 (.root 0),.view 32 (.root 0) 1 false,dD,dD,dD,dD,vQ x8,vI i9,vI i10]++a9B 29,[(12,⟨true,[cQ x11,cI i12,cL x13,⟨(.sl TMatrix),.sh,x14⟩]⟩),(16,⟨true,[cQ x15]⟩),(24,⟨true,[dQ x16,cI i17,dL x18,⟨(.sl TMatrix),.deep,x19⟩]⟩),(28,⟨true,[dL x20]⟩),(32,⟨false,[dL x21]⟩)]⟩
theorem l3_eq:l3 (k+1) x7 x8 i9 i10 x11 i12 x13 x14 x15 x16 i17 x18 x19 x20 x21=if (decide (i10<i9))=true then if 0≤i10∧i10<(x8.length:Int)then(Ak5.F (x15,x7,x8.getD i10.toNat ([]:LI),())).bind fun r22=>(Ab3.F (x11,r22.1.1,())).bind fun r23=>if x20.length+[r23.1.1].length≤bigA then if 0≤r23.1.1∧r23.1.1<(x13.length:Int)then if x21.length+[x13.getD r23.1.1.toNat 0].length≤bigA then l3 k x7 x8 i9 (za.wrap (i10+1)) x11 i12 x13 x14 x15 x16 i17 x18 x19 (x20++[r23.1.1]) (x21++[x13.getD r23.1.1.toNat 0])else none else none else none else none else(Aj9.F (x15,i12,x21,Aj8.cloG ((x11,(i12,(x13,x14))),x20,()),())).bind fun r24=>some ((r24.1.1,()),()):=by kernel_rfl
variable (s_1:LL) (s_2:Int) (s_3:LI) (s_4:LM) (c_5:LL) (images_6:LI)
noncomputable def T:OS:=l3 k images_6 c_5 (c_5.length:Int) (0:Int) s_1 s_2 s_3 s_4 c_5 ([]) 0 ([]) ([]) ([]:LI) ([])
theorem of {r} (h:Ev (fun k=>T k s_1 s_2 s_3 s_4 c_5 images_6) r):F ((s_1,(s_2,(s_3,s_4))),c_5,images_6,())=some r:=Ev.run (fun k=>by kernel_rfl) h
theorem S:a3P prog ⟨71,sig,F⟩:=sound_k (res:=[.cell 6 36]) func71 (⟨nM,mixed_ok,tab_ok tab_good,cM ⟨Ab3.S,cM ⟨Ak5.S,cM ⟨Aj9.S,nM⟩⟩⟩,cM ⟨Aj8.cloS,nM⟩,nM⟩)
end Ak6
namespace Ag1
noncomputable def sig:Sig:=⟨[pS,pC],[oS]⟩
noncomputable def cfg:Cfg:=cf (cx [⟨31,Ag8.sig,Ag8.F⟩,⟨71,Ak6.sig,Ak6.F⟩])
noncomputable def fin:=finK cfg.c sig [.cell 4 36]
noncomputable def F (d:SF×LL×Unit):OS:=anyK (a9u cfg fin (bd f30) (a6P sig.ps d 10))
variable (s_1:LL) (s_2:Int) (s_3:LI) (s_4:LM) (part_5:LL)
noncomputable def T:OS:=(Ag8.F (part_5,())).bind fun r6=>(Ak6.F ((s_1,(s_2,(s_3,s_4))),part_5,r6.1.1,())).bind fun r7=>some ((r7.1.1,()),())
theorem eq:F ((s_1,(s_2,(s_3,s_4))),part_5,())=T s_1 s_2 s_3 s_4 part_5:=eq_any fun k=>by kernel_rfl
theorem S:a3P prog ⟨30,sig,F⟩:=sound_k (res:=[.cell 4 36]) func30 (cok (cM ⟨Ag8.S,cM ⟨Ak6.S,nM⟩⟩))
end Ag1
namespace Ad6
noncomputable def sig:Sig:=⟨[pL,.fnx ⟨[(false,tI)],[oB]⟩],[oB]⟩
noncomputable def cfg:Cfg:=cf (cx [⟨161,Ah3.sig,Ah3.F⟩])
noncomputable def fin:=finK cfg.c sig [.tmp 4]
noncomputable def F (d:LI×((Int×Unit)→Option (Bool×Unit))×Unit):OB:=anyK (a9u cfg fin (bd f149) (a6P sig.ps d 9))
variable (s_1:LI) (f_2:(Int×Unit)→Option (Bool×Unit))
noncomputable def T:OB:=(Ah3.F (s_1,f_2,())).bind fun r3=>some ((decide (r3.1.1≥0),()),())
theorem eq:F (s_1,f_2,())=T s_1 f_2:=eq_any fun k=>by kernel_rfl
theorem S:a3P prog ⟨149,sig,F⟩:=sound_k (res:=[.tmp 4]) func149 (cok (cM ⟨Ah3.S,nM⟩))
end Ad6
namespace Ai6
noncomputable def sig:Sig:=⟨[pL],[oB]⟩
noncomputable def cfg:Cfg:=cl (cx []) fun id=>match id with|2=>([0,3],[])|_=>([],[])
noncomputable def fin:=finK cfg.c sig [.tmp 2]
noncomputable def F (d:LI×Unit):OB:=anyK (a9u cfg fin (bd f184) (a6P sig.ps d 20))
variable (k:Nat) (x2:LI) (i3:Int)
noncomputable def l2:OB:=Vm.runT cfg fin k [.inLoop (sub [1,0,1,0,0] (bd f184)),.inBlock 0,.code (sub [1,1] (bd f184))] ⟨[vL x2,dD,dD,vI i3]++a9B 16,[]⟩
theorem l2_eq:l2 (k+1) x2 i3=if (decide (i3<(x2.length:Int)))=true then if 0≤(za.wrap (i3-1))∧(za.wrap (i3-1))<(x2.length:Int)then if 0≤i3∧i3<(x2.length:Int)then if (decide ((x2.getD (za.wrap (i3-1)).toNat 0)≥(x2.getD i3.toNat 0:Int)))=true then some ((false,()),())else l2 k x2 (za.wrap (i3+1))else none else none else some ((true,()),()):=by kernel_rfl
variable (list_1:LI)
noncomputable def T:OB:=l2 k list_1 (1:Int)
theorem of {r} (h:Ev (fun k=>T k list_1) r):F (list_1,())=some r:=Ev.run (fun k=>by kernel_rfl) h
theorem S:a3P prog ⟨184,sig,F⟩:=sound_k (res:=[.tmp 2]) func184 (cok nM)
end Ai6
namespace Ab9
noncomputable def sig:Sig:=⟨[pI,pI,pI],[oB]⟩
noncomputable def cfg:Cfg:=cf (cx [])
noncomputable def fin:=finK cfg.c sig [.tmp 6]
noncomputable def F (d:Int×Int×Int×Unit):OB:=anyK (a9u cfg fin (bd f205) (a6P sig.ps d 15))
variable (n_1 low_2 high_3:Int)
noncomputable def T:OB:=if (decide (n_1≥low_2))=true then some ((decide (n_1≤high_3),()),())else some ((false,()),())
theorem eq:F (n_1,low_2,high_3,())=T n_1 low_2 high_3:=eq_any fun k=>by kernel_rfl
theorem S:a3P prog ⟨205,sig,F⟩:=sound_k (res:=[.tmp 6]) func205 (cok nM)
end Ab9
namespace As7
noncomputable def sig:Sig:=⟨[pI],[oB]⟩
noncomputable def cfg:Cfg:=cf (cx [⟨205,Ab9.sig,Ab9.F⟩])
noncomputable def fin:=finK cfg.c sig [.tmp 2]
noncomputable def F (d:Int×Unit):OB:=anyK (a9u cfg fin (bd f186) (a6P sig.ps d 5))
variable (v_1:Int)
noncomputable def T:OB:=(Ab9.F (v_1,(0:Int),(9:Int),())).bind fun r2=>some ((r2.1.1,()),())
theorem eq:F (v_1,())=T v_1:=eq_any fun k=>by kernel_rfl
theorem S:a3P prog ⟨186,sig,F⟩:=sound_k (res:=[.tmp 2]) func186 (cok (cM ⟨Ab9.S,nM⟩))
end As7
namespace Ar7
noncomputable def sig:Sig:=⟨[pI],[oB]⟩
noncomputable def cfg:Cfg:=cf (cx [⟨186,As7.sig,As7.F⟩])
noncomputable def fin:=finK cfg.c sig [.tmp 2]
noncomputable def F (d:Int×Unit):OB:=anyK (a9u cfg fin (bd f185) (a6P sig.ps d 6))
variable (v_1:Int)
noncomputable def T:OB:=(As7.F (v_1,())).bind fun r2=>some ((!r2.1.1,()),())
theorem eq:F (v_1,())=T v_1:=eq_any fun k=>by kernel_rfl
theorem S:a3P prog ⟨185,sig,F⟩:=sound_k (res:=[.tmp 2]) func185 (cok (cM ⟨As7.S,nM⟩))
noncomputable def cloG (y:Unit) (d:Int×Unit):Option (Bool×Unit):=(F (b0b [] [(false,tI)] d y)).map (·.1)
noncomputable def clo:Clo:=⟨185,⟨[(false,tI)],[(.val false,.bool,.deep)]⟩,[],cloG⟩
theorem cloS:a2t prog clo:=sound_clo (s:=⟨[(false,tI)],[(.val false,.bool,.deep)]⟩) (caps:=[]) rfl S
end Ar7
namespace Ao9
noncomputable def sig:Sig:=⟨[pL],[oB]⟩
noncomputable def cfg:Cfg:=cf ⟨a2n tabl,[⟨149,Ad6.sig,Ad6.F⟩,⟨184,Ai6.sig,Ai6.F⟩],[Ar7.clo],[],[],[]⟩
noncomputable def fin:=finK cfg.c sig [.tmp 2]
noncomputable def F (d:LI×Unit):OB:=anyK (a9u cfg fin (bd f143) (a6P sig.ps d 20))
variable (s_1:LI)
noncomputable def T:OB:=if (decide ((s_1.length:Int)≥1))=true then if (decide ((s_1.length:Int)≤4))=true then(Ai6.F (s_1,())).bind fun r2=>if r2.1.1=true then(Ad6.F (s_1,Ar7.cloG (()),())).bind fun r3=>some ((!r3.1.1,()),())else some ((false,()),())else some ((false,()),())else some ((false,()),())
theorem eq:F (s_1,())=T s_1:=eq_any fun k=>by kernel_rfl
theorem S:a3P prog ⟨143,sig,F⟩:=sound_k (res:=[.tmp 2]) func143 (⟨nM,mixed_ok,tab_ok tab_good,cM ⟨Ad6.S,cM ⟨Ai6.S,nM⟩⟩,cM ⟨Ar7.cloS,nM⟩,nM⟩)
end Ao9
namespace Ah2
noncomputable def sig:Sig:=⟨[pQ,.fnx ⟨[(false,tL)],[oB]⟩],[oI]⟩
noncomputable def cfg:Cfg:=cl (cx []) fun id=>match id with|2=>([0,1,7,8],[])|_=>([],[])
noncomputable def fin:=finK cfg.c sig [.tmp 4]
noncomputable def F (d:LL×((LI×Unit)→Option (Bool×Unit))×Unit):OI:=anyK (a9u cfg fin (bd f130) (a6P sig.ps d 19))
variable (k:Nat) (x3:LL) (f4:(LI×Unit)→Option (Bool×Unit)) (i5 i6:Int)
noncomputable def l2:OI:=Vm.runT cfg fin k [.inLoop (sub [1,0,1,0,0] (bd f130)),.inBlock 0,.code (sub [1,1] (bd f130))] ⟨[vQ x3,.fnx ⟨[(false,tL)],[(.val false,.bool,.deep)]⟩ f4,dD,dD,dD,dD,dD,vI i5,vI i6]++a9B 10,[]⟩
theorem l2_eq:l2 (k+1) x3 f4 i5 i6=if (decide (i6<i5))=true then if 0≤i6∧i6<(x3.length:Int)then(f4 (x3.getD i6.toNat ([]:LI),())).bind fun r7=>if r7.1=true then some ((i6,()),())else l2 k x3 f4 i5 (za.wrap (i6+1))else none else some (((-1:Int),()),()):=by kernel_rfl
variable (s_1:LL) (f_2:(LI×Unit)→Option (Bool×Unit))
noncomputable def T:OI:=l2 k s_1 f_2 (s_1.length:Int) (0:Int)
theorem of {r} (h:Ev (fun k=>T k s_1 f_2) r):F (s_1,f_2,())=some r:=Ev.run (fun k=>by kernel_rfl) h
theorem S:a3P prog ⟨130,sig,F⟩:=sound_k (res:=[.tmp 4]) func130 (cok nM)
end Ah2
namespace Ao0
noncomputable def sig:Sig:=⟨[pQ,.fnx ⟨[(false,tL)],[oB]⟩],[oB]⟩
noncomputable def cfg:Cfg:=cf (cx [⟨130,Ah2.sig,Ah2.F⟩])
noncomputable def fin:=finK cfg.c sig [.tmp 4]
noncomputable def F (d:LL×((LI×Unit)→Option (Bool×Unit))×Unit):OB:=anyK (a9u cfg fin (bd f144) (a6P sig.ps d 9))
variable (s_1:LL) (f_2:(LI×Unit)→Option (Bool×Unit))
noncomputable def T:OB:=(Ah2.F (s_1,f_2,())).bind fun r3=>some ((decide (r3.1.1≥0),()),())
theorem eq:F (s_1,f_2,())=T s_1 f_2:=eq_any fun k=>by kernel_rfl
theorem S:a3P prog ⟨144,sig,F⟩:=sound_k (res:=[.tmp 4]) func144 (cok (cM ⟨Ah2.S,nM⟩))
end Ao0
namespace Ao7
noncomputable def sig:Sig:=⟨[pL,qC,.rptr tI],[oB]⟩
noncomputable def cfg:Cfg:=cf (cx [⟨32,Ab3.sig,Ab3.F⟩])
noncomputable def fin:=finK cfg.c sig [.tmp 4]
noncomputable def F (d:LI×LL×Int×Unit):OB:=anyK (a9u cfg fin (bd f145) (a6P sig.ps d 13))
variable (f_1:LI) (a_2:LL) (a_3:Int)
noncomputable def T:OB:=if 0≤(0:Int)∧(0:Int)≤a_3∧a_3≤(a_2.length:Int)then(Ab3.F (cutL a_2 (0:Int) a_3,f_1,())).bind fun r4=>some ((decide (r4.1.1<0),()),())else none
theorem eq:F (f_1,a_2,a_3,())=T f_1 a_2 a_3:=eq_any fun k=>by kernel_rfl
theorem S:a3P prog ⟨145,sig,F⟩:=sound_k (res:=[.tmp 4]) func145 (cok (cM ⟨Ab3.S,nM⟩))
noncomputable def cloG (y:LL×Int×Unit) (d:LI×Unit):Option (Bool×Unit):=(F (b0b [.rptr tQ,.rptr tI] [(false,tL)] d y)).map (·.1)
noncomputable def clo:Clo:=⟨145,⟨[(false,tL)],[(.val false,.bool,.deep)]⟩,[.rptr tQ,.rptr tI],cloG⟩
theorem cloS:a2t prog clo:=sound_clo (s:=⟨[(false,tL)],[(.val false,.bool,.deep)]⟩) (caps:=[.rptr tQ,.rptr tI]) rfl S
end Ao7
namespace Ab6
noncomputable def sig:Sig:=⟨[pC],[oB]⟩
noncomputable def cfg:Cfg:=cl (⟨a2n tabl,[⟨73,Ad3.sig,Ad3.F⟩,⟨120,Ae4.sig,Ae4.F⟩,⟨143,Ao9.sig,Ao9.F⟩,⟨144,Ao0.sig,Ao0.F⟩],[Ao7.clo],[],[],[]⟩) fun id=>match id with|2=>([1,6,7,8],[4])|_=>([],[])
noncomputable def fin:=finK cfg.c sig [.tmp 2]
noncomputable def F (d:LL×Unit):OB:=anyK (a9u cfg fin (bd f106) (a6P sig.ps d 40))
variable (k:Nat) (x2:LL) (i3 i4:Int) (x5:LL)
noncomputable def l2:OB:=Vm.runT cfg fin k [.inLoop (sub [1,0,1,0,0] (bd f106)),.inBlock 0,.code (sub [1,1] (bd f106))] ⟨[dD,.ref 4 (.root 0),dD,dD,dD,dD,vQ x2,vI i3,vI i4]++a9B 31,[(4,⟨true,[cQ x5]⟩)]⟩
theorem l2_eq:l2 (k+1) x2 i3 i4 x5=if (decide (i4<i3))=true then if 0≤i4∧i4<(x2.length:Int)then(Ao9.F (x2.getD i4.toNat ([]:LI),())).bind fun r6=>if (!r6.1.1)=true then some ((false,()),())else if (decide (i4>0))=true then if 0≤(za.wrap (i4-1))∧(za.wrap (i4-1))<(x5.length:Int)then(Ad3.F (x5.getD (za.wrap (i4-1)).toNat ([]:LI),x2.getD i4.toNat ([]:LI),())).bind fun r7=>if (decide (r7.1.1≥0))=true then some ((false,()),())else(Ae4.F (x2.getD i4.toNat ([]:LI),())).bind fun r8=>(Ao0.F (r8.1.1,Ao7.cloG (x5,i4,()),())).bind fun r9=>if r9.1.1=true then some ((false,()),())else l2 k x2 i3 (za.wrap (i4+1)) x5 else none else(Ae4.F (x2.getD i4.toNat ([]:LI),())).bind fun r10=>(Ao0.F (r10.1.1,Ao7.cloG (x5,i4,()),())).bind fun r11=>if r11.1.1=true then some ((false,()),())else l2 k x2 i3 (za.wrap (i4+1)) x5 else none else some ((decide ((x5.length:Int)≤48),()),()):=by kernel_rfl
variable (c_1:LL)
noncomputable def T:OB:=l2 k c_1 (c_1.length:Int) (0:Int) c_1
theorem of {r} (h:Ev (fun k=>T k c_1) r):F (c_1,())=some r:=Ev.run (fun k=>by kernel_rfl) h
theorem S:a3P prog ⟨106,sig,F⟩:=sound_k (res:=[.tmp 2]) func106 (⟨nM,mixed_ok,tab_ok tab_good,cM ⟨Ad3.S,cM ⟨Ae4.S,cM ⟨Ao9.S,cM ⟨Ao0.S,nM⟩⟩⟩⟩,cM ⟨Ao7.cloS,nM⟩,nM⟩)
end Ab6
namespace Af7
noncomputable def sig:Sig:=⟨[pI],[oB]⟩
noncomputable def cfg:Cfg:=cl (cx [⟨205,Ab9.sig,Ab9.F⟩]) fun id=>match id with|4=>([0,3],[])|_=>([],[])
noncomputable def fin:=finK cfg.c sig [.tmp 2]
noncomputable def F (d:Int×Unit):OB:=anyK (a9u cfg fin (bd f180) (a6P sig.ps d 18))
variable (k:Nat) (i3 i4:Int)
noncomputable def l4:OB:=Vm.runT cfg fin k [.inLoop (sub [1,1,0,1,0,0] (bd f180)),.inBlock 0,.code (sub [1,1,1] (bd f180))] ⟨[vI i3,dD,dD,vI i4]++a9B 14,[]⟩
theorem l4_eq:l4 (k+1) i3 i4=if (decide ((za.wrap (i4*i4))≤i3))=true then if i4=0 then none else if ((i3.tmod i4)==0)=true then some ((false,()),())else l4 k i3 (za.wrap (i4+1))else some ((true,()),()):=by kernel_rfl
variable (p_1:Int)
noncomputable def T:OB:=(Ab9.F (p_1,(2:Int),(251:Int),())).bind fun r2=>if (!r2.1.1)=true then some ((false,()),())else l4 k p_1 (2:Int)
theorem of {r} (h:Ev (fun k=>T k p_1) r):F (p_1,())=some r:=Ev.run (fun k=>by kernel_rfl) h
theorem S:a3P prog ⟨180,sig,F⟩:=sound_k (res:=[.tmp 2]) func180 (cok (cM ⟨Ab9.S,nM⟩))
end Af7
namespace Ae5
noncomputable def sig:Sig:=⟨[pC,pI],[oL]⟩
noncomputable def cfg:Cfg:=cl (cx [⟨81,Ab8.sig,Ab8.F⟩]) fun id=>match id with|3=>([1,5,9,10,11],[20])|_=>([],[])
noncomputable def fin:=finK cfg.c sig [.tmp 4]
noncomputable def F (d:LL×Int×Unit):OL:=anyK (a9u cfg fin (bd f36) (a6P sig.ps d 27))
variable (k:Nat) (i3:Int) (x4:LL) (i5 i6:Int) (x7:LI)
noncomputable def l3:OL:=Vm.runT cfg fin k [.inLoop (sub [1,1,0,1,0,0] (bd f36)),.inBlock 0,.code (sub [1,1,1] (bd f36))] ⟨[dD,vI i3,dD,dD,dD,.view 20 (.root 0) 1 false,dD,dD,dD,vQ x4,vI i5,vI i6]++a9B 15,[(20,⟨false,[dL x7]⟩)]⟩
theorem l3_eq:l3 (k+1) i3 x4 i5 i6 x7=if (decide (i6<i5))=true then if 0≤i6∧i6<(x4.length:Int)then(Ab8.F (x4.getD i6.toNat ([]:LI),())).bind fun r8=>if (r8.1.1==(za.wrap (i3+1)))=true then if x7.length+[i6].length≤bigA then l3 k i3 x4 i5 (za.wrap (i6+1)) (x7++[i6])else none else l3 k i3 x4 i5 (za.wrap (i6+1)) x7 else none else some ((x7,()),()):=by kernel_rfl
variable (c_1:LL) (dimension_2:Int)
noncomputable def T:OL:=l3 k dimension_2 c_1 (c_1.length:Int) (0:Int) ([])
theorem of {r} (h:Ev (fun k=>T k c_1 dimension_2) r):F (c_1,dimension_2,())=some r:=Ev.run (fun k=>by kernel_rfl) h
theorem S:a3P prog ⟨36,sig,F⟩:=sound_k (res:=[.tmp 4]) func36 (cok (cM ⟨Ab8.S,nM⟩))
end Ae5
namespace Aa4
noncomputable def sig:Sig:=⟨[pS,pI],[oI]⟩
noncomputable def cfg:Cfg:=cl (cx [⟨36,Ae5.sig,Ae5.F⟩]) fun id=>match id with|3=>([2,5,11,12,13],[8,44])|_=>([],[])
noncomputable def fin:=finK cfg.c sig [.tmp 4]
noncomputable def F (d:SF×Int×Unit):OI:=anyK (a9u cfg fin (bd f50) (a6P sig.ps d 26))
variable (k:Nat) (i7 i8 i9:Int) (x10:LL) (i11:Int) (x12:LI) (x13:LM) (x14:LI)
noncomputable def l3:OI:=Vm.runT cfg fin k [.inLoop (sub [1,1,0,1,0,0] (bd f50)),.inBlock 0,.code (sub [1,1,1] (bd f50))] ⟨[dD,dD,.ref 8 (.root 0),dD,dD,vI i7,dD,dD,dD,dD,dD,.view 44 (.root 0) 1 false,vI i8,vI i9]++a9B 12,[(8,⟨true,[cQ x10,cI i11,cL x12,⟨(.sl TMatrix),.sh,x13⟩]⟩),(44,⟨false,[dL x14]⟩)]⟩
theorem l3_eq:l3 (k+1) i7 i8 i9 x10 i11 x12 x13 x14=if (decide (i9<i8))=true then if 0≤i9∧i9<(x14.length:Int)then if 0≤(x14.getD i9.toNat 0:Int)∧(x14.getD i9.toNat 0:Int)<(x12.length:Int)then l3 k (za.wrap (i7+(x12.getD (x14.getD i9.toNat 0:Int).toNat 0))) i8 (za.wrap (i9+1)) x10 i11 x12 x13 x14 else none else none else some ((i7,()),()):=by kernel_rfl
variable (s_1:LL) (s_2:Int) (s_3:LI) (s_4:LM) (k_5:Int)
noncomputable def T:OI:=(Ae5.F (s_1,k_5,())).bind fun r6=>l3 k (0:Int) (r6.1.1.length:Int) (0:Int) s_1 s_2 s_3 s_4 r6.1.1
theorem of {r} (h:Ev (fun k=>T k s_1 s_2 s_3 s_4 k_5) r):F ((s_1,(s_2,(s_3,s_4))),k_5,())=some r:=Ev.run (fun k=>by kernel_rfl) h
theorem S:a3P prog ⟨50,sig,F⟩:=sound_k (res:=[.tmp 4]) func50 (cok (cM ⟨Ae5.S,nM⟩))
end Aa4
end Go.Proofs.YtpdlhcgmejadnaaGreat
