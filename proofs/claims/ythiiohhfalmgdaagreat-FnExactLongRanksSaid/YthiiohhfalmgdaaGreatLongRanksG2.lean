/- The functions, as the machine runs them. -/
import Derived.Test.YthiiohhfalmgdaaGreatLongRanksG1
import Derived.Test.YthiiohhfalmgdaaGreatProg
import Derived.KernelRfl
import Derived.WalkKit
import Derived.Lib.Walk
import Derived.Lib.AppendZeros
import Derived.Sort.WalkA
import Derived.Sort.WalkB2
import Derived.Sort.WalkB12
import Derived.Deep.LoopGhost
import Derived.Shelf.RegionOpenPlain
import Derived.Lib.SliceRun
namespace Go.Proofs.YthiiohhfalmgdaaGreat
open Go Go.Vm
set_option linter.unusedVariables false
set_option linter.unusedSimpArgs false
open Go.Proofs.Tryz
namespace Ac0
noncomputable def sig:Sig:=⟨[.wr false tQ .shal,pI,pI],[oL,oI]⟩
noncomputable def cfg:Cfg:=⟨⟨a2i tabl,[⟨105,Ah5.sig,Ah5.F⟩,⟨166,Ah8.sig,Ah8.F⟩,⟨189,Ae9.sig,Ae9.F⟩,⟨190,Am1.sig,Am1.F⟩],[Ar4.clo],[],[],[24]⟩,[0],[],fun id=>match id with|4=>([0,1,2,8,9,16,17],[0,32])|17=>([0,1,2,8,9,10,11,16,17,79,80,81],[0,32,40])|_=>([],[]),fun _=>[]⟩
noncomputable def fin:=finK cfg.c sig [.tmp 6,.tmp 7]
noncomputable def F (d:LL×Int×Int×Unit):Option ((LI×Int×Unit)×(LL×Unit)):=anyK (a9n cfg fin (bd f165) (a6P sig.ps d 120))
variable (k:Nat) (i4 i5 i6 i7 i8:Int) (x9:LL) (x10:LI)
noncomputable def l4:Option ((LI×Int×Unit)×(LL×Unit)):=Vm.runT cfg fin k [.inLoop (sub [1,1,1,0,1,0,0] (bd f165)),.inBlock 0,.code (sub [1,1,1,1] (bd f165))] ⟨[.view 0 (.root 0) 1 false,vI i4,vI i5,dD,dD,dD,dD,dD,.view 32 (.root 0) 1 false,vI i6,dD,dD,dD,dD,dD,dD,vI i7,vI i8]++a9v 102,[(0,⟨false,[⟨tQ,.shal,x9⟩]⟩),(32,⟨false,[dL x10]⟩)]⟩
variable (i17 i18 i19 i20 i21 i22 i23 i24:Int) (x25:LL) (x26:LI) (i27:Int)
noncomputable def l17:Option ((LI×Int×Unit)×(LL×Unit)):=Vm.runT cfg fin k [.inLoop (sub [1,1,1,0,1,0,0,1,1,0,0,1,1,1,1,1,1,1,1,0,1,0,0] (bd f165)),.inBlock 2,.code (sub [1,1,1,0,1,0,0,1,1,0,0,1,1,1,1,1,1,1,1,1] (bd f165)),.inBlock 1,.code (sub [1,1,1,0,1,0,0,1,1,1] (bd f165)),.inLoop (sub [1,1,1,0,1,0,0] (bd f165)),.inBlock 0,.code (sub [1,1,1,1] (bd f165))] ⟨[.view 0 (.root 0) 1 false,vI i17,vI i18,dD,dD,dD,dD,dD,.view 32 (.root 0) 1 false,vI i19,.ref 40 (.root 0),vI i20,dD,dD,dD,dD,vI i21,vI i22,dD,dD,dD,dD,dD,dD,dD,dD,dD,dD,dD,dD,dD,dD,dD,dD,dD,dD,dD,dD,dD,dD,dD,dD,dD,dD,dD,dD,dD,dD,dD,dD,dD,dD,dD,dD,dD,dD,dD,dD,dD,dD,dD,dD,dD,dD,dD,dD,dD,dD,dD,dD,dD,dD,dD,dD,dD,dD,dD,dD,dD,.view 0 (.root 0) 1 false,vI i23,vI i24]++a9v 38,[(0,⟨false,[⟨tQ,.shal,x25⟩]⟩),(32,⟨false,[dL x26]⟩),(40,⟨true,[cI i27]⟩)]⟩
theorem l4_eq:l4 (k+1) i4 i5 i6 i7 i8 x9 x10=if (decide (i8<i7))=true then if 0≤(x10.length:Int)∧(x10.length:Int)≤(x9.length:Int)∧(x9.length:Int)≤(x9.length:Int)then(Ah5.F (cutL x9 (x10.length:Int) (x9.length:Int),Ar4.cloG (i8,()),())).bind fun r11=>if (decide (r11.1.1<0))=true then l4 k i4 i5 (0:Int) i7 (IntKind.i64.wrap (i8+1)) x9 x10 else if (decide (r11.1.1>0))=true then if 0≤(IntKind.i64.wrap ((x10.length:Int)+r11.1.1))∧(IntKind.i64.wrap ((x10.length:Int)+r11.1.1))<(x9.length:Int)then if 0≤(x10.length:Int)∧(x10.length:Int)<(x9.length:Int)then if 0≤(x10.length:Int)∧(x10.length:Int)<(x9.length:Int)then let y12:LL:=x9.set (x10.length:Int).toNat (x9.getD (IntKind.i64.wrap ((x10.length:Int)+r11.1.1)).toNat ([]:LI));if 0≤(IntKind.i64.wrap ((x10.length:Int)+r11.1.1))∧(IntKind.i64.wrap ((x10.length:Int)+r11.1.1))<(y12.length:Int)then let y13:LL:=y12.set (IntKind.i64.wrap ((x10.length:Int)+r11.1.1)).toNat (x9.getD (x10.length:Int).toNat ([]:LI));(Ah8.F (IntKind.i64.wrap (0-i6),i5,())).bind fun r14=>if 0≤(x10.length:Int)∧(x10.length:Int)<(y13.length:Int)then if 0≤i8∧i8<((y13.getD (x10.length:Int).toNat ([]:LI)).length:Int)then if i5=0 then none else if 0≤i4∧i4≤(bigN:Int)then if 0≤(x10.length:Int)∧(x10.length:Int)<(y13.length:Int)then(Am1.F ((y13.getD (x10.length:Int).toNat ([]:LI)).getD i8.toNat 0,i5,())).bind fun r15=>(Ae9.F (List.replicate i4.toNat (0:Int),y13.getD (x10.length:Int).toNat ([]:LI),r15.1.1,i5,())).bind fun r16=>if 0≤(x10.length:Int)∧(x10.length:Int)<(y13.length:Int)then l17 k i4 i5 ((IntKind.i64.wrap (r14.1.1*((y13.getD (x10.length:Int).toNat ([]:LI)).getD i8.toNat 0))).tmod i5) (x10.length:Int) i7 i8 ((y13.set (x10.length:Int).toNat r16.1.1).length:Int) (0:Int) (y13.set (x10.length:Int).toNat r16.1.1) x10 i8 else none else none else none else none else none else none else none else none else none else if 0≤(x10.length:Int)∧(x10.length:Int)<(x9.length:Int)then if 0≤i8∧i8<((x9.getD (x10.length:Int).toNat ([]:LI)).length:Int)then if i5=0 then none else if 0≤i4∧i4≤(bigN:Int)then if 0≤(x10.length:Int)∧(x10.length:Int)<(x9.length:Int)then(Am1.F ((x9.getD (x10.length:Int).toNat ([]:LI)).getD i8.toNat 0,i5,())).bind fun r29=>(Ae9.F (List.replicate i4.toNat (0:Int),x9.getD (x10.length:Int).toNat ([]:LI),r29.1.1,i5,())).bind fun r30=>if 0≤(x10.length:Int)∧(x10.length:Int)<(x9.length:Int)then l17 k i4 i5 ((IntKind.i64.wrap (i6*((x9.getD (x10.length:Int).toNat ([]:LI)).getD i8.toNat 0))).tmod i5) (x10.length:Int) i7 i8 ((x9.set (x10.length:Int).toNat r30.1.1).length:Int) (0:Int) (x9.set (x10.length:Int).toNat r30.1.1) x10 i8 else none else none else none else none else none else none else some ((x10,(i6,())),(x9,())):=by kernel_rfl
theorem l17_eq:l17 (k+1) i17 i18 i19 i20 i21 i22 i23 i24 x25 x26 i27=if (decide (i24<i23))=true then if 0≤i24∧i24<(x25.length:Int)then if (i24 !=i20)=true then if 0≤i27∧i27<((x25.getD i24.toNat ([]:LI)).length:Int)then if (((x25.getD i24.toNat ([]:LI)).getD i27.toNat 0)!=0)=true then if 0≤i20∧i20<(x25.length:Int)then if 0≤i27∧i27<((x25.getD i24.toNat ([]:LI)).length:Int)then(Ae9.F (x25.getD i24.toNat ([]:LI),x25.getD i20.toNat ([]:LI),IntKind.i64.wrap (i18-((x25.getD i24.toNat ([]:LI)).getD i27.toNat 0)),i18,())).bind fun r28=>if 0≤i24∧i24<(x25.length:Int)then l17 k i17 i18 i19 i20 i21 i22 i23 (IntKind.i64.wrap (i24+1)) (x25.set i24.toNat r28.1.1) x26 i27 else none else none else none else l17 k i17 i18 i19 i20 i21 i22 i23 (IntKind.i64.wrap (i24+1)) x25 x26 i27 else none else l17 k i17 i18 i19 i20 i21 i22 i23 (IntKind.i64.wrap (i24+1)) x25 x26 i27 else none else if x26.length+[i27].length≤bigA then l4 k i17 i18 i19 i21 (IntKind.i64.wrap (i22+1)) x25 (x26++[i27])else none:=by kernel_rfl
variable (toArray_1:LL) (a_2 a_3:Int)
noncomputable def T:Option ((LI×Int×Unit)×(LL×Unit)):=l4 k a_2 a_3 (1:Int) a_2 (0:Int) toArray_1 ([])
theorem of {r} (h:Ev (fun k=>T k toArray_1 a_2 a_3) r):F (toArray_1,a_2,a_3,())=some r:=Ev.run (fun k=>by kernel_rfl) h
theorem S:a3L prog ⟨165,sig,F⟩:=sound_k (res:=[.tmp 6,.tmp 7]) func165 (⟨nM,mixed_ok,tab_ok tab_good,cM ⟨Ah5.S,cM ⟨Ah8.S,cM ⟨Ae9.S,cM ⟨Am1.S,nM⟩⟩⟩⟩,cM ⟨Ar4.cloS,nM⟩,nM⟩)
end Ac0
namespace Aa6
noncomputable def sig:Sig:=⟨[pI,pI,pQ],[(.val true,TSpace,.deep)]⟩
noncomputable def cfg:Cfg:=cf (cx [⟨150,Ad3.sig,Ad3.F⟩,⟨165,Ac0.sig,Ac0.F⟩])
noncomputable def fin:=finK cfg.c sig [.cell 6 136]
noncomputable def F (d:Int×Int×LL×Unit):Option (((Int×Int×LL)×Unit)×(Unit)):=anyK (a9n cfg fin (bd f163) (a6P sig.ps d 27))
variable (p_1 length_2:Int) (vectors_3:LL)
noncomputable def T:Option (((Int×Int×LL)×Unit)×(Unit)):=(Ad3.F (vectors_3,())).bind fun r4=>(Ac0.F (r4.1.1,length_2,p_1,())).bind fun r5=>if 0≤(0:Int)∧(0:Int)≤(r5.1.1.length:Int)∧(r5.1.1.length:Int)≤(r5.2.1.length:Int)then(Ad3.F (cutL r5.2.1 (0:Int) (r5.1.1.length:Int),())).bind fun r6=>some (((p_1,(length_2,r6.1.1)),()),())else none
theorem eq:F (p_1,length_2,vectors_3,())=T p_1 length_2 vectors_3:=eq_any fun k=>by kernel_rfl
theorem S:a3L prog ⟨163,sig,F⟩:=sound_k (res:=[.cell 6 136]) func163 (cok (cM ⟨Ad3.S,cM ⟨Ac0.S,nM⟩⟩))
noncomputable def sigF:Sig:=⟨[.val false tI,.val false tI,.val false tQ],[(.fr true,TSpace,.deep)]⟩
theorem SF:a3L prog ⟨163,sigF,F⟩:=sound_fr S
end Aa6
namespace Ak5
noncomputable def sig:Sig:=⟨[.val true TSpace,pQ],[(.val false,tQ,.shal)]⟩
noncomputable def cfg:Cfg:=⟨cx [⟨150,Ad3.sig,Ad3.F⟩,⟨162,Ao7.sig,Ao7.F⟩,⟨163,Aa6.sigF,Aa6.F⟩],[],[],fun id=>match id with|3=>([2,5,8,9,10],[8,20])|_=>([],[]),fun id=>match id with|3=>[20]|_=>[]⟩
noncomputable def fin:=finK cfg.c sig [.tmp 4]
noncomputable def F (d:(Int×Int×LL)×LL×Unit):OQ:=anyK (a9n cfg fin (bd f115) (a6P sig.ps d 35))
variable (k:Nat) (x5:LL) (i6 i7 i8 i9:Int) (x10 x11:LL)
noncomputable def l3:OQ:=Vm.runT cfg fin k [.inLoop (sub [1,1,0,1,0,0] (bd f115)),.inBlock 0,.code (sub [1,1,1] (bd f115))] ⟨[dD,dD,.ref 8 (.root 0),dD,dD,.view 20 (.root 0) 1 false,dD,dD,vQ x5,vI i6,vI i7]++a9v 24,[(8,⟨true,[cI i8,cI i9,cQ x10]⟩),(20,⟨false,[⟨tQ,.shal,x11⟩]⟩)]⟩
theorem l3_eq:l3 (k+1) x5 i6 i7 i8 i9 x10 x11=if (decide (i7<i6))=true then if 0≤i7∧i7<(x5.length:Int)then(Ao7.F ((i8,(i9,x10)),x5.getD i7.toNat ([]:LI),())).bind fun r12=>if (!r12.1.1)=true then if x11.length+[x5.getD i7.toNat ([]:LI)].length≤bigA then(Ad3.F (x10,())).bind fun r13=>both ( if r13.1.1.length+[x5.getD i7.toNat ([]:LI)].length≤bigA then(Aa6.F (i8,i9,r13.1.1++[x5.getD i7.toNat ([]:LI)],())).bind fun r14=>l3 k x5 i6 (IntKind.i64.wrap (i7+1)) r14.1.1.1 r14.1.1.2.1 r14.1.1.2.2 (x11++[x5.getD i7.toNat ([]:LI)])else none ) ( both ( if r13.1.1.length+[x5.getD i7.toNat ([]:LI)].length≤bigA then(Aa6.F (i8,i9,r13.1.1++[x5.getD i7.toNat ([]:LI)],())).bind fun r15=>l3 k x5 i6 (IntKind.i64.wrap (i7+1)) r15.1.1.1 r15.1.1.2.1 r15.1.1.2.2 (x11++[x5.getD i7.toNat ([]:LI)])else none ) ( both ( if r13.1.1.length+[x5.getD i7.toNat ([]:LI)].length≤bigA then(Aa6.F (i8,i9,r13.1.1++[x5.getD i7.toNat ([]:LI)],())).bind fun r16=>l3 k x5 i6 (IntKind.i64.wrap (i7+1)) r16.1.1.1 r16.1.1.2.1 r16.1.1.2.2 (x11++[x5.getD i7.toNat ([]:LI)])else none ) ( both ( if r13.1.1.length+[x5.getD i7.toNat ([]:LI)].length≤bigA then(Aa6.F (i8,i9,r13.1.1++[x5.getD i7.toNat ([]:LI)],())).bind fun r17=>l3 k x5 i6 (IntKind.i64.wrap (i7+1)) r17.1.1.1 r17.1.1.2.1 r17.1.1.2.2 (x11++[x5.getD i7.toNat ([]:LI)])else none ) ( both ( if r13.1.1.length+[x5.getD i7.toNat ([]:LI)].length≤bigA then both ( (Aa6.F (i8,i9,r13.1.1++[x5.getD i7.toNat ([]:LI)],())).bind fun r18=>l3 k x5 i6 (IntKind.i64.wrap (i7+1)) r18.1.1.1 r18.1.1.2.1 r18.1.1.2.2 (x11++[x5.getD i7.toNat ([]:LI)]) ) ( (Aa6.F (i8,i9,r13.1.1++[x5.getD i7.toNat ([]:LI)],())).bind fun r19=>l3 k x5 i6 (IntKind.i64.wrap (i7+1)) r19.1.1.1 r19.1.1.2.1 r19.1.1.2.2 (x11++[x5.getD i7.toNat ([]:LI)]) )else none ) ( both ( if r13.1.1.length+[x5.getD i7.toNat ([]:LI)].length≤bigA then both ( (Aa6.F (i8,i9,r13.1.1++[x5.getD i7.toNat ([]:LI)],())).bind fun r20=>l3 k x5 i6 (IntKind.i64.wrap (i7+1)) r20.1.1.1 r20.1.1.2.1 r20.1.1.2.2 (x11++[x5.getD i7.toNat ([]:LI)]) ) ( both ( (Aa6.F (i8,i9,r13.1.1++[x5.getD i7.toNat ([]:LI)],())).bind fun r21=>l3 k x5 i6 (IntKind.i64.wrap (i7+1)) r21.1.1.1 r21.1.1.2.1 r21.1.1.2.2 (x11++[x5.getD i7.toNat ([]:LI)]) ) ( (Aa6.F (i8,i9,r13.1.1++[x5.getD i7.toNat ([]:LI)],())).bind fun r22=>l3 k x5 i6 (IntKind.i64.wrap (i7+1)) r22.1.1.1 r22.1.1.2.1 r22.1.1.2.2 (x11++[x5.getD i7.toNat ([]:LI)]) ) )else none ) ( both ( if r13.1.1.length+[x5.getD i7.toNat ([]:LI)].length≤bigA then(Aa6.F (i8,i9,r13.1.1++[x5.getD i7.toNat ([]:LI)],())).bind fun r23=>l3 k x5 i6 (IntKind.i64.wrap (i7+1)) r23.1.1.1 r23.1.1.2.1 r23.1.1.2.2 (x11++[x5.getD i7.toNat ([]:LI)])else none ) ( both ( if r13.1.1.length+[x5.getD i7.toNat ([]:LI)].length≤bigA then both ( both ( (Aa6.F (i8,i9,r13.1.1++[x5.getD i7.toNat ([]:LI)],())).bind fun r24=>l3 k x5 i6 (IntKind.i64.wrap (i7+1)) r24.1.1.1 r24.1.1.2.1 r24.1.1.2.2 (x11++[x5.getD i7.toNat ([]:LI)]) ) ( (Aa6.F (i8,i9,r13.1.1++[x5.getD i7.toNat ([]:LI)],())).bind fun r25=>l3 k x5 i6 (IntKind.i64.wrap (i7+1)) r25.1.1.1 r25.1.1.2.1 r25.1.1.2.2 (x11++[x5.getD i7.toNat ([]:LI)]) ) ) ( (Aa6.F (i8,i9,r13.1.1++[x5.getD i7.toNat ([]:LI)],())).bind fun r26=>l3 k x5 i6 (IntKind.i64.wrap (i7+1)) r26.1.1.1 r26.1.1.2.1 r26.1.1.2.2 (x11++[x5.getD i7.toNat ([]:LI)]) )else none ) ( if r13.1.1.length+[x5.getD i7.toNat ([]:LI)].length≤bigA then both ( both ( (Aa6.F (i8,i9,r13.1.1++[x5.getD i7.toNat ([]:LI)],())).bind fun r27=>l3 k x5 i6 (IntKind.i64.wrap (i7+1)) r27.1.1.1 r27.1.1.2.1 r27.1.1.2.2 (x11++[x5.getD i7.toNat ([]:LI)]) ) ( both ( (Aa6.F (i8,i9,r13.1.1++[x5.getD i7.toNat ([]:LI)],())).bind fun r28=>l3 k x5 i6 (IntKind.i64.wrap (i7+1)) r28.1.1.1 r28.1.1.2.1 r28.1.1.2.2 (x11++[x5.getD i7.toNat ([]:LI)]) ) ( (Aa6.F (i8,i9,r13.1.1++[x5.getD i7.toNat ([]:LI)],())).bind fun r29=>l3 k x5 i6 (IntKind.i64.wrap (i7+1)) r29.1.1.1 r29.1.1.2.1 r29.1.1.2.2 (x11++[x5.getD i7.toNat ([]:LI)]) ) ) ) ( both ( both ( (Aa6.F (i8,i9,r13.1.1++[x5.getD i7.toNat ([]:LI)],())).bind fun r30=>l3 k x5 i6 (IntKind.i64.wrap (i7+1)) r30.1.1.1 r30.1.1.2.1 r30.1.1.2.2 (x11++[x5.getD i7.toNat ([]:LI)]) ) ( (Aa6.F (i8,i9,r13.1.1++[x5.getD i7.toNat ([]:LI)],())).bind fun r31=>l3 k x5 i6 (IntKind.i64.wrap (i7+1)) r31.1.1.1 r31.1.1.2.1 r31.1.1.2.2 (x11++[x5.getD i7.toNat ([]:LI)]) ) ) ( (Aa6.F (i8,i9,r13.1.1++[x5.getD i7.toNat ([]:LI)],())).bind fun r32=>l3 k x5 i6 (IntKind.i64.wrap (i7+1)) r32.1.1.1 r32.1.1.2.1 r32.1.1.2.2 (x11++[x5.getD i7.toNat ([]:LI)]) ) )else none ) ) ) ) ) ) ) )else none else l3 k x5 i6 (IntKind.i64.wrap (i7+1)) i8 i9 x10 x11 else none else some ((x11,()),()):=by kernel_rfl
variable (v_1 v_2:Int) (v_3 list_4:LL)
noncomputable def T:OQ:=l3 k list_4 (list_4.length:Int) (0:Int) v_1 v_2 v_3 ([])
theorem of {r} (h:Ev (fun k=>T k v_1 v_2 v_3 list_4) r):F ((v_1,(v_2,v_3)),list_4,())=some r:=Ev.run (fun k=>by kernel_rfl) h
theorem S:a3L prog ⟨115,sig,F⟩:=sound_k (res:=[.tmp 4]) func115 (cok (cM ⟨Ad3.S,cM ⟨Ao7.S,cM ⟨Aa6.SF,nM⟩⟩⟩))
end Ak5
namespace As8
noncomputable def sig:Sig:=⟨[pI,pI],[oI]⟩
noncomputable def cfg:Cfg:=cf (cx [])
noncomputable def fin:=finK cfg.c sig [.tmp 4]
noncomputable def F (d:Int×Int×Unit):OI:=anyK (a9n cfg fin (bd f191) (a6P sig.ps d 5))
noncomputable def T (i_1 j_2:Int):OI:=some ((0,()),())
theorem eq (i_1 j_2:Int):F (i_1,j_2,())=T i_1 j_2:=eq_any fun k=>by kernel_rfl
theorem S:a3L prog ⟨191,sig,F⟩:=sound_k (res:=[.tmp 4]) func191 (cok nM)
noncomputable def cloG (y:Unit) (d:Int×Int×Unit):Option (Int×Unit):=(F (b0V [] [(false,tI),(false,tI)] d y)).map (·.1)
noncomputable def clo:Clo:=⟨191,⟨[(false,tI),(false,tI)],[(.val false,tI,.deep)]⟩,[],cloG⟩
theorem cloS:a2p prog clo:=sound_clo (s:=⟨[(false,tI),(false,tI)],[(.val false,tI,.deep)]⟩) (caps:=[]) rfl S
end As8
namespace Ap5
noncomputable def sig:Sig:=⟨[pI,pI,pI],[oM]⟩
noncomputable def cfg:Cfg:=cf ⟨a2i tabl,[⟨139,Ab4.sig,Ab4.F⟩],[As8.clo],[],[],[]⟩
noncomputable def fin:=finK cfg.c sig [.cell 6 70]
noncomputable def F (d:Int×Int×Int×Unit):OM:=anyK (a9n cfg fin (bd f167) (a6P sig.ps d 11))
variable (p_1 rows_2 columns_3:Int)
noncomputable def T:OM:=(Ab4.F (p_1,rows_2,columns_3,As8.cloG (()),())).bind fun r4=>some ((r4.1.1,()),())
theorem eq:F (p_1,rows_2,columns_3,())=T p_1 rows_2 columns_3:=eq_any fun k=>by kernel_rfl
theorem S:a3L prog ⟨167,sig,F⟩:=sound_k (res:=[.cell 6 70]) func167 (⟨nM,mixed_ok,tab_ok tab_good,cM ⟨Ab4.S,nM⟩,cM ⟨As8.cloS,nM⟩,nM⟩)
end Ap5
namespace Af2
noncomputable def sig:Sig:=⟨[pS,pI],[oI]⟩
noncomputable def cfg:Cfg:=cl (cx [⟨168,Ae1.sig,Ae1.F⟩,⟨179,Ac6.sig,Ac6.F⟩]) fun id=>match id with|3=>([1,2,5,18,19,20],[8,72])|_=>([],[])
noncomputable def fin:=finK cfg.c sig [.tmp 4]
noncomputable def F (d:SF×Int×Unit):OI:=anyK (a9n cfg fin (bd f169) (a6P sig.ps d 36))
variable (k:Nat) (i8 i9 i10 i11:Int) (x12:LL) (i13:Int) (x14:LI) (x15:LM) (x16:LI)
noncomputable def l3:OI:=Vm.runT cfg fin k [.inLoop (sub [1,1,0,1,0,0] (bd f169)),.inBlock 0,.code (sub [1,1,1] (bd f169))] ⟨[dD,vI i8,.ref 8 (.root 0),dD,dD,vI i9,dD,dD,dD,dD,dD,dD,dD,dD,dD,dD,dD,dD,.view 72 (.root 0) 1 false,vI i10,vI i11]++a9v 15,[(8,⟨true,[cQ x12,cI i13,cL x14,⟨(.sl TMatrix),.sh,x15⟩]⟩),(72,⟨false,[dL x16]⟩)]⟩
theorem l3_eq:l3 (k+1) i8 i9 i10 i11 x12 i13 x14 x15 x16=if (decide (i11<i10))=true then if 0≤i11∧i11<(x16.length:Int)then if ((x16.getD i11.toNat 0:Int)==i8)=true then some ((i9,()),())else if 0≤(x16.getD i11.toNat 0:Int)∧(x16.getD i11.toNat 0:Int)<(x14.length:Int)then l3 k i8 (IntKind.i64.wrap (i9+(x14.getD (x16.getD i11.toNat 0:Int).toNat 0))) i10 (IntKind.i64.wrap (i11+1)) x12 i13 x14 x15 x16 else none else none else some ((i9,()),()):=by kernel_rfl
variable (s_1:LL) (s_2:Int) (s_3:LI) (s_4:LM) (simplex_5:Int)
noncomputable def T:OI:=if 0≤simplex_5∧simplex_5<(s_1.length:Int)then(Ac6.F (s_1.getD simplex_5.toNat ([]:LI),())).bind fun r6=>(Ae1.F (s_1,IntKind.i64.wrap (r6.1.1-1),())).bind fun r7=>l3 k simplex_5 (0:Int) (r7.1.1.length:Int) (0:Int) s_1 s_2 s_3 s_4 r7.1.1 else none
theorem of {r} (h:Ev (fun k=>T k s_1 s_2 s_3 s_4 simplex_5) r):F ((s_1,(s_2,(s_3,s_4))),simplex_5,())=some r:=Ev.run (fun k=>by kernel_rfl) h
theorem S:a3L prog ⟨169,sig,F⟩:=sound_k (res:=[.tmp 4]) func169 (cok (cM ⟨Ae1.S,cM ⟨Ac6.S,nM⟩⟩))
end Af2
namespace Ao4
noncomputable def sig:Sig:=⟨[pI,pI],[oI]⟩
noncomputable def cfg:Cfg:=cf (cx [])
noncomputable def fin:=finK cfg.c sig [.tmp 4]
noncomputable def F (d:Int×Int×Unit):OI:=anyK (a9n cfg fin (bd f171) (a6P sig.ps d 10))
variable (k_1 p_2:Int)
noncomputable def T:OI:=if (2:Int)=0 then none else if ((k_1.tmod (2:Int))==0)=true then some ((1,()),())else some ((IntKind.i64.wrap (p_2-(1:Int)),()),())
theorem eq:F (k_1,p_2,())=T k_1 p_2:=eq_any fun k=>by kernel_rfl
theorem S:a3L prog ⟨171,sig,F⟩:=sound_k (res:=[.tmp 4]) func171 (cok nM)
end Ao4
namespace Aa5
noncomputable def sig:Sig:=⟨[pS,pI],[oM]⟩
noncomputable def cfg:Cfg:=cl (cx [⟨94,Ab0.sig,Ab0.F⟩,⟨96,Ab3.sig,Ab3.F⟩,⟨136,Ac4.sig,Ac4.F⟩,⟨167,Ap5.sig,Ap5.F⟩,⟨168,Ae1.sig,Ae1.F⟩,⟨169,Af2.sig,Af2.F⟩,⟨170,Aj5.sig,Aj5.F⟩,⟨171,Ao4.sig,Ao4.F⟩]) fun id=>match id with|3=>([1,2,4,5,29,30,31],[8,16,20,116])|7=>([1,2,4,5,7,29,30,31,40,41,42],[8,16,20,116,160])|12=>([1,2,4,5,7,8,10,11,12,29,30,31,40,41,42,58,59],[8,16,20,40,116,160])|15=>([1,2,4,5,7,8,10,11,12,13,29,30,31,40,41,42,58,59,63,64],[8,16,20,40,116,160])|_=>([],[])
noncomputable def fin:=finK cfg.c sig [.cell 4 70]
noncomputable def F (d:SF×Int×Unit):OM:=anyK (a9n cfg fin (bd f118) (a6P sig.ps d 97))
variable (k:Nat) (i10 i11 i12:Int) (x13:LL) (i14:Int) (x15:LI) (x16:LM) (i17 i18 i19:Int) (x20:LI) (i21 i22 i23:Int) (x24 x25:LI)
noncomputable def l3:OM:=Vm.runT cfg fin k [.inLoop (sub [1,1,0,1,0,0] (bd f118)),.inBlock 0,.code (sub [1,1,1] (bd f118))] ⟨[dD,vI i10,.ref 8 (.root 0),dD,.ref 16 (.root 0),.ref 20 (.root 0),dD,dD,dD,dD,dD,dD,dD,dD,dD,dD,dD,dD,dD,dD,dD,dD,dD,dD,dD,dD,dD,dD,dD,.view 116 (.root 0) 1 false,vI i11,vI i12]++a9v 65,[(8,⟨true,[cQ x13,cI i14,cL x15,⟨(.sl TMatrix),.sh,x16⟩]⟩),(16,⟨true,[cI i17,cI i18,cI i19,dL x20]⟩),(20,⟨true,[cI i21,cI i22,cI i23,dL x24]⟩),(116,⟨false,[dL x25]⟩)]⟩
variable (i27 i28 i29 i30 i31 i32:Int) (x33:LL) (i34:Int) (x35:LI) (x36:LM) (i37 i38 i39:Int) (x40:LI) (i41 i42 i43:Int) (x44 x45 x46:LI)
noncomputable def l7:OM:=Vm.runT cfg fin k [.inLoop (sub [1,1,0,1,0,0,1,1,0,0,1,1,1,0,0] (bd f118)),.inBlock 2,.inBlock 1,.code (sub [1,1,0,1,0,0,1,1,1] (bd f118)),.inLoop (sub [1,1,0,1,0,0] (bd f118)),.inBlock 0,.code (sub [1,1,1] (bd f118))] ⟨[dD,vI i27,.ref 8 (.root 0),dD,.ref 16 (.root 0),.ref 20 (.root 0),dD,vI i28,dD,dD,dD,dD,dD,dD,dD,dD,dD,dD,dD,dD,dD,dD,dD,dD,dD,dD,dD,dD,dD,.view 116 (.root 0) 1 false,vI i29,vI i30,dD,dD,dD,dD,dD,dD,dD,dD,.view 160 (.root 0) 1 false,vI i31,vI i32]++a9v 54,[(8,⟨true,[cQ x33,cI i34,cL x35,⟨(.sl TMatrix),.sh,x36⟩]⟩),(16,⟨true,[cI i37,cI i38,cI i39,dL x40]⟩),(20,⟨true,[cI i41,cI i42,cI i43,dL x44]⟩),(116,⟨false,[dL x45]⟩),(160,⟨false,[dL x46]⟩)]⟩
variable (i50 i51 i52 i53 i54 i55 i56 i57 i58 i59 i60:Int) (x61:LL) (i62:Int) (x63:LI) (x64:LM) (i65 i66 i67:Int) (x68:LI) (i69 i70 i71:Int) (x72:LI) (i73 i74 i75:Int) (x76 x77 x78:LI)
noncomputable def l12:OM:=Vm.runT cfg fin k [.inLoop (sub [1,1,0,1,0,0,1,1,0,0,1,1,1,0,0,1,1,0,0,1,1,1,1,0,0] (bd f118)),.inBlock 4,.inBlock 3,.code (sub [1,1,0,1,0,0,1,1,0,0,1,1,1,0,0,1,1,1] (bd f118)),.inLoop (sub [1,1,0,1,0,0,1,1,0,0,1,1,1,0,0] (bd f118)),.inBlock 2,.inBlock 1,.code (sub [1,1,0,1,0,0,1,1,1] (bd f118)),.inLoop (sub [1,1,0,1,0,0] (bd f118)),.inBlock 0,.code (sub [1,1,1] (bd f118))] ⟨[dD,vI i50,.ref 8 (.root 0),dD,.ref 16 (.root 0),.ref 20 (.root 0),dD,vI i51,vI i52,dD,.ref 40 (.root 0),vI i53,vI i54,dD,dD,dD,dD,dD,dD,dD,dD,dD,dD,dD,dD,dD,dD,dD,dD,.view 116 (.root 0) 1 false,vI i55,vI i56,dD,dD,dD,dD,dD,dD,dD,dD,.view 160 (.root 0) 1 false,vI i57,vI i58,dD,dD,dD,dD,dD,dD,dD,dD,dD,dD,dD,dD,dD,dD,dD,vI i59,vI i60]++a9v 37,[(8,⟨true,[cQ x61,cI i62,cL x63,⟨(.sl TMatrix),.sh,x64⟩]⟩),(16,⟨true,[cI i65,cI i66,cI i67,dL x68]⟩),(20,⟨true,[cI i69,cI i70,cI i71,dL x72]⟩),(40,⟨true,[cI i73,cI i74,cI i75,cL x76]⟩),(116,⟨false,[dL x77]⟩),(160,⟨false,[dL x78]⟩)]⟩
variable (i79 i80 i81 i82 i83 i84 i85 i86 i87 i88 i89 i90 i91 i92:Int) (x93:LL) (i94:Int) (x95:LI) (x96:LM) (i97 i98 i99:Int) (x100:LI) (i101 i102 i103:Int) (x104:LI) (i105 i106 i107:Int) (x108 x109 x110:LI)
noncomputable def l15:OM:=Vm.runT cfg fin k [.inLoop (sub [1,1,0,1,0,0,1,1,0,0,1,1,1,0,0,1,1,0,0,1,1,1,1,0,0,1,1,0,0,1,1,0,0] (bd f118)),.inBlock 6,.inBlock 5,.code (sub [1,1,0,1,0,0,1,1,0,0,1,1,1,0,0,1,1,0,0,1,1,1,1,0,0,1,1,1] (bd f118)),.inLoop (sub [1,1,0,1,0,0,1,1,0,0,1,1,1,0,0,1,1,0,0,1,1,1,1,0,0] (bd f118)),.inBlock 4,.inBlock 3,.code (sub [1,1,0,1,0,0,1,1,0,0,1,1,1,0,0,1,1,1] (bd f118)),.inLoop (sub [1,1,0,1,0,0,1,1,0,0,1,1,1,0,0] (bd f118)),.inBlock 2,.inBlock 1,.code (sub [1,1,0,1,0,0,1,1,1] (bd f118)),.inLoop (sub [1,1,0,1,0,0] (bd f118)),.inBlock 0,.code (sub [1,1,1] (bd f118))] ⟨[dD,vI i79,.ref 8 (.root 0),dD,.ref 16 (.root 0),.ref 20 (.root 0),dD,vI i80,vI i81,dD,.ref 40 (.root 0),vI i82,vI i83,vI i84,dD,dD,dD,dD,dD,dD,dD,dD,dD,dD,dD,dD,dD,dD,dD,.view 116 (.root 0) 1 false,vI i85,vI i86,dD,dD,dD,dD,dD,dD,dD,dD,.view 160 (.root 0) 1 false,vI i87,vI i88,dD,dD,dD,dD,dD,dD,dD,dD,dD,dD,dD,dD,dD,dD,dD,vI i89,vI i90,dD,dD,dD,vI i91,vI i92]++a9v 32,[(8,⟨true,[cQ x93,cI i94,cL x95,⟨(.sl TMatrix),.sh,x96⟩]⟩),(16,⟨true,[cI i97,cI i98,cI i99,dL x100]⟩),(20,⟨true,[cI i101,cI i102,cI i103,dL x104]⟩),(40,⟨true,[cI i105,cI i106,cI i107,cL x108]⟩),(116,⟨false,[dL x109]⟩),(160,⟨false,[dL x110]⟩)]⟩
theorem l3_eq:l3 (k+1) i10 i11 i12 x13 i14 x15 x16 i17 i18 i19 x20 i21 i22 i23 x24 x25=if (decide (i12<i11))=true then if 0≤i12∧i12<(x25.length:Int)then if (decide (i10<0))=true then some (((i21,(i22,(i23,x24))),()),())else(Ab0.F (x13,(x25.getD i12.toNat 0:Int),())).bind fun r26=>l7 k i10 (x25.getD i12.toNat 0:Int) i11 i12 (r26.1.1.length:Int) (0:Int) x13 i14 x15 x16 i17 i18 i19 x20 i21 i22 i23 x24 x25 r26.1.1 else none else some (((i21,(i22,(i23,x24))),()),()):=by kernel_rfl
theorem l7_eq:l7 (k+1) i27 i28 i29 i30 i31 i32 x33 i34 x35 x36 i37 i38 i39 x40 i41 i42 i43 x44 x45 x46=if (decide (i32<i31))=true then if 0≤i32∧i32<(x46.length:Int)then(Ab3.F ((x33,(i34,(x35,x36))),i28,i32,())).bind fun r47=>(Af2.F ((x33,(i34,(x35,x36))),i28,())).bind fun r48=>(Af2.F ((x33,(i34,(x35,x36))),(x46.getD i32.toNat 0:Int),())).bind fun r49=>l12 k i27 i28 i32 r48.1.1 r49.1.1 i29 i30 i31 i32 r47.1.1.2.1 (0:Int) x33 i34 x35 x36 i37 i38 i39 x40 i41 i42 i43 x44 r47.1.1.1 r47.1.1.2.1 r47.1.1.2.2.1 r47.1.1.2.2.2 x45 x46 else none else l3 k i27 i29 (IntKind.i64.wrap (i30+1)) x33 i34 x35 x36 i37 i38 i39 x40 i41 i42 i43 x44 x45:=by kernel_rfl
theorem l12_eq:l12 (k+1) i50 i51 i52 i53 i54 i55 i56 i57 i58 i59 i60 x61 i62 x63 x64 i65 i66 i67 x68 i69 i70 i71 x72 i73 i74 i75 x76 x77 x78=if (decide (i60<i59))=true then l15 k i50 i51 i52 i53 i54 i60 i55 i56 i57 i58 i59 i60 i75 (0:Int) x61 i62 x63 x64 i65 i66 i67 x68 i69 i70 i71 x72 i73 i74 i75 x76 x77 x78 else l7 k i50 i51 i55 i56 i57 (IntKind.i64.wrap (i58+1)) x61 i62 x63 x64 i65 i66 i67 x68 i69 i70 i71 x72 x77 x78:=by kernel_rfl
theorem l15_eq:l15 (k+1) i79 i80 i81 i82 i83 i84 i85 i86 i87 i88 i89 i90 i91 i92 x93 i94 x95 x96 i97 i98 i99 x100 i101 i102 i103 x104 i105 i106 i107 x108 x109 x110=if (decide (i92<i91))=true then(Aj5.F ((i105,(i106,(i107,x108))),i84,i92,())).bind fun r111=>(Ao4.F (i81,i94,())).bind fun r112=>if i94=0 then none else if 0≤(IntKind.i64.wrap ((IntKind.i64.wrap ((IntKind.i64.wrap ((IntKind.i64.wrap (i82+i84))*i103))+i83))+i92))∧(IntKind.i64.wrap ((IntKind.i64.wrap ((IntKind.i64.wrap ((IntKind.i64.wrap (i82+i84))*i103))+i83))+i92))<(x104.length:Int)then let y113:LI:=x104.set (IntKind.i64.wrap ((IntKind.i64.wrap ((IntKind.i64.wrap ((IntKind.i64.wrap (i82+i84))*i103))+i83))+i92)).toNat ((IntKind.i64.wrap (r111.1.1*r112.1.1)).tmod i94);l15 k i79 i80 i81 i82 i83 i84 i85 i86 i87 i88 i89 i90 i91 (IntKind.i64.wrap (i92+1)) x93 i94 x95 x96 i97 i98 i99 x100 i101 i102 i103 y113 i105 i106 i107 x108 x109 x110 else none else l12 k i79 i80 i81 i82 i83 i85 i86 i87 i88 i89 (IntKind.i64.wrap (i90+1)) x93 i94 x95 x96 i97 i98 i99 x100 i101 i102 i103 x104 i105 i106 i107 x108 x109 x110:=by kernel_rfl
variable (toArray_1:LL) (toArray_2:Int) (toArray_3:LI) (toArray_4:LM) (a_5:Int)
noncomputable def T:OM:=(Ac4.F ((toArray_1,(toArray_2,(toArray_3,toArray_4))),IntKind.i64.wrap (a_5+(1:Int)),())).bind fun r6=>(Ac4.F ((toArray_1,(toArray_2,(toArray_3,toArray_4))),a_5,())).bind fun r7=>(Ap5.F (toArray_2,r6.1.1,r7.1.1,())).bind fun r8=>(Ae1.F (toArray_1,IntKind.i64.wrap (a_5+(1:Int)),())).bind fun r9=>l3 k a_5 (r9.1.1.length:Int) (0:Int) toArray_1 toArray_2 toArray_3 toArray_4 0 0 0 ([]) r8.1.1.1 r8.1.1.2.1 r8.1.1.2.2.1 r8.1.1.2.2.2 r9.1.1
theorem of {r} (h:Ev (fun k=>T k toArray_1 toArray_2 toArray_3 toArray_4 a_5) r):F ((toArray_1,(toArray_2,(toArray_3,toArray_4))),a_5,())=some r:=Ev.run (fun k=>by kernel_rfl) h
theorem S:a3L prog ⟨118,sig,F⟩:=sound_k (res:=[.cell 4 70]) func118 (cok (cM ⟨Ab0.S,cM ⟨Ab3.S,cM ⟨Ac4.S,cM ⟨Ap5.S,cM ⟨Ae1.S,cM ⟨Af2.S,cM ⟨Aj5.S,cM ⟨Ao4.S,nM⟩⟩⟩⟩⟩⟩⟩⟩))
end Aa5
namespace Ar3
noncomputable def sig:Sig:=⟨[pS,pI],[(.val true,TSpace,.deep)]⟩
noncomputable def cfg:Cfg:=cf (cx [⟨118,Aa5.sig,Aa5.F⟩,⟨138,Ag5.sig,Ag5.F⟩,⟨163,Aa6.sig,Aa6.F⟩])
noncomputable def fin:=finK cfg.c sig [.cell 4 136]
noncomputable def F (d:SF×Int×Unit):Option (((Int×Int×LL)×Unit)×(Unit)):=anyK (a9n cfg fin (bd f116) (a6P sig.ps d 17))
variable (s_1:LL) (s_2:Int) (s_3:LI) (s_4:LM) (k_5:Int)
noncomputable def T:Option (((Int×Int×LL)×Unit)×(Unit)):=(Aa5.F ((s_1,(s_2,(s_3,s_4))),IntKind.i64.wrap (k_5-(1:Int)),())).bind fun r6=>(Ag5.F (r6.1.1,())).bind fun r7=>(Aa6.F (s_2,r6.1.1.2.1,r7.1.1,())).bind fun r8=>some ((r8.1.1,()),())
theorem eq:F ((s_1,(s_2,(s_3,s_4))),k_5,())=T s_1 s_2 s_3 s_4 k_5:=eq_any fun k=>by kernel_rfl
theorem S:a3L prog ⟨116,sig,F⟩:=sound_k (res:=[.cell 4 136]) func116 (cok (cM ⟨Aa5.S,cM ⟨Ag5.S,cM ⟨Aa6.S,nM⟩⟩⟩))
end Ar3
namespace Af4
noncomputable def sig:Sig:=⟨[pL,pI],[oI]⟩
noncomputable def cfg:Cfg:=cl (cx []) fun id=>match id with|2=>([0,1,7,8],[])|_=>([],[])
noncomputable def fin:=finK cfg.c sig [.tmp 4]
noncomputable def F (d:LI×Int×Unit):OI:=anyK (a9n cfg fin (bd f154) (a6P sig.ps d 19))
variable (k:Nat) (x3:LI) (i4 i5 i6:Int)
noncomputable def l2:OI:=Vm.runT cfg fin k [.inLoop (sub [1,0,1,0,0] (bd f154)),.inBlock 0,.code (sub [1,1] (bd f154))] ⟨[vL x3,vI i4,dD,dD,dD,dD,dD,vI i5,vI i6]++a9v 10,[]⟩
theorem l2_eq:l2 (k+1) x3 i4 i5 i6=if (decide (i6<i5))=true then if 0≤i6∧i6<(x3.length:Int)then if (i4==(x3.getD i6.toNat 0:Int))=true then some ((i6,()),())else l2 k x3 i4 i5 (IntKind.i64.wrap (i6+1))else none else some (((-1:Int),()),()):=by kernel_rfl
variable (s_1:LI) (v_2:Int)
noncomputable def T:OI:=l2 k s_1 v_2 (s_1.length:Int) (0:Int)
theorem of {r} (h:Ev (fun k=>T k s_1 v_2) r):F (s_1,v_2,())=some r:=Ev.run (fun k=>by kernel_rfl) h
theorem S:a3L prog ⟨154,sig,F⟩:=sound_k (res:=[.tmp 4]) func154 (cok nM)
end Af4
namespace Ah9
noncomputable def sig:Sig:=⟨[pL,pI],[oB]⟩
noncomputable def cfg:Cfg:=cf (cx [⟨154,Af4.sig,Af4.F⟩])
noncomputable def fin:=finK cfg.c sig [.tmp 4]
noncomputable def F (d:LI×Int×Unit):OB:=anyK (a9n cfg fin (bd f161) (a6P sig.ps d 9))
variable (s_1:LI) (v_2:Int)
noncomputable def T:OB:=(Af4.F (s_1,v_2,())).bind fun r3=>some ((decide (r3.1.1≥0),()),())
theorem eq:F (s_1,v_2,())=T s_1 v_2:=eq_any fun k=>by kernel_rfl
theorem S:a3L prog ⟨161,sig,F⟩:=sound_k (res:=[.tmp 4]) func161 (cok (cM ⟨Af4.S,nM⟩))
end Ah9
namespace Ag6
noncomputable def sig:Sig:=⟨[pM],[oQ]⟩
noncomputable def cfg:Cfg:=cl (cx [⟨161,Ah9.sig,Ah9.F⟩,⟨164,Ag8.sig,Ag8.F⟩,⟨165,Ac0.sig,Ac0.F⟩,⟨166,Ah8.sig,Ah8.F⟩]) fun id=>match id with|5=>([1,3,4,6,23,24],[4,12,16,24])|11=>([1,3,4,6,7,8,23,24,36,37,38],[4,12,16,24,32])|_=>([],[])
noncomputable def fin:=finK cfg.c sig [.tmp 2]
noncomputable def F (d:MX×Unit):OQ:=anyK (a9n cfg fin (bd f117) (a6P sig.ps d 64))
variable (k:Nat) (i7 i8 i9 i10 i11:Int) (x12:LI) (x13:LL) (x14:LI) (x15:LL)
noncomputable def l5:OQ:=Vm.runT cfg fin k [.inLoop (sub [1,1,1,1,0,1,0,0] (bd f117)),.inBlock 0,.code (sub [1,1,1,1,1] (bd f117))] ⟨[dD,.ref 4 (.root 0),dD,.view 12 (.root 0) 1 false,.view 16 (.root 0) 1 false,dD,.view 24 (.root 0) 1 false,dD,dD,dD,dD,dD,dD,dD,dD,dD,dD,dD,dD,dD,dD,dD,dD,vI i7,vI i8]++a9v 39,[(4,⟨true,[cI i9,cI i10,cI i11,cL x12]⟩),(12,⟨false,[⟨tQ,.shal,x13⟩]⟩),(16,⟨false,[dL x14]⟩),(24,⟨false,[dQ x15]⟩)]⟩
variable (i17 i18 i19 i20 i21 i22 i23 i24:Int) (x25:LI) (x26:LL) (x27:LI) (x28:LL) (x29:LI)
noncomputable def l11:OQ:=Vm.runT cfg fin k [.inLoop (sub [1,1,1,1,0,1,0,0,1,1,0,0,1,1,1,1,0,1,0,0] (bd f117)),.inBlock 2,.code (sub [1,1,1,1,0,1,0,0,1,1,0,0,1,1,1,1,1] (bd f117)),.inBlock 1,.code (sub [1,1,1,1,0,1,0,0,1,1,1] (bd f117)),.inLoop (sub [1,1,1,1,0,1,0,0] (bd f117)),.inBlock 0,.code (sub [1,1,1,1,1] (bd f117))] ⟨[dD,.ref 4 (.root 0),dD,.view 12 (.root 0) 1 false,.view 16 (.root 0) 1 false,dD,.view 24 (.root 0) 1 false,vI i17,.view 32 (.root 0) 1 false,dD,dD,dD,dD,dD,dD,dD,dD,dD,dD,dD,dD,dD,dD,vI i18,vI i19,dD,dD,dD,dD,dD,dD,dD,dD,dD,dD,dD,.view 16 (.root 0) 1 false,vI i20,vI i21]++a9v 25,[(4,⟨true,[cI i22,cI i23,cI i24,cL x25]⟩),(12,⟨false,[⟨tQ,.shal,x26⟩]⟩),(16,⟨false,[dL x27]⟩),(24,⟨false,[dQ x28]⟩),(32,⟨false,[dL x29]⟩)]⟩
theorem l5_eq:l5 (k+1) i7 i8 i9 i10 i11 x12 x13 x14 x15=if (decide (i8<i7))=true then(Ah9.F (x14,i8,())).bind fun r16=>if r16.1.1=true then l5 k i7 (IntKind.i64.wrap (i8+1)) i9 i10 i11 x12 x13 x14 x15 else if 0≤i11∧i11≤(bigN:Int)then if 0≤i8∧i8<((List.replicate i11.toNat (0:Int)).length:Int)then l11 k i8 i7 i8 (x14.length:Int) (0:Int) i9 i10 i11 x12 x13 x14 x15 ((List.replicate i11.toNat (0:Int)).set i8.toNat (1:Int))else none else none else some ((x15,()),()):=by kernel_rfl
theorem l11_eq:l11 (k+1) i17 i18 i19 i20 i21 i22 i23 i24 x25 x26 x27 x28 x29=if (decide (i21<i20))=true then if 0≤i21∧i21<(x27.length:Int)then if 0≤i21∧i21<(x26.length:Int)then if 0≤i17∧i17<((x26.getD i21.toNat ([]:LI)).length:Int)then(Ah8.F (IntKind.i64.wrap (0-((x26.getD i21.toNat ([]:LI)).getD i17.toNat 0)),i22,())).bind fun r30=>if 0≤(x27.getD i21.toNat 0:Int)∧(x27.getD i21.toNat 0:Int)<(x29.length:Int)then l11 k i17 i18 i19 i20 (IntKind.i64.wrap (i21+1)) i22 i23 i24 x25 x26 x27 x28 (x29.set (x27.getD i21.toNat 0:Int).toNat r30.1.1)else none else none else none else none else if x28.length+[x29].length≤bigA then l5 k i18 (IntKind.i64.wrap (i19+1)) i22 i23 i24 x25 x26 x27 (x28++[x29])else none:=by kernel_rfl
variable (m_1 m_2 m_3:Int) (m_4:LI)
noncomputable def T:OQ:=(Ag8.F ((m_1,(m_2,(m_3,m_4))),())).bind fun r5=>(Ac0.F (r5.1.1,m_3,m_1,())).bind fun r6=>l5 k m_3 (0:Int) m_1 m_2 m_3 m_4 r6.2.1 r6.1.1 ([])
theorem of {r} (h:Ev (fun k=>T k m_1 m_2 m_3 m_4) r):F ((m_1,(m_2,(m_3,m_4))),())=some r:=Ev.run (fun k=>by kernel_rfl) h
theorem S:a3L prog ⟨117,sig,F⟩:=sound_k (res:=[.tmp 2]) func117 (cok (cM ⟨Ah9.S,cM ⟨Ag8.S,cM ⟨Ac0.S,cM ⟨Ah8.S,nM⟩⟩⟩⟩))
end Ag6
namespace Ak2
noncomputable def sig:Sig:=⟨[pS,pI],[(.val false,tQ,.shal)]⟩
noncomputable def cfg:Cfg:=cf (cx [⟨115,Ak5.sig,Ak5.F⟩,⟨116,Ar3.sig,Ar3.F⟩,⟨117,Ag6.sig,Ag6.F⟩,⟨118,Aa5.sig,Aa5.F⟩])
noncomputable def fin:=finK cfg.c sig [.tmp 4]
noncomputable def F (d:SF×Int×Unit):OQ:=anyK (a9n cfg fin (bd f74) (a6P sig.ps d 13))
variable (s_1:LL) (s_2:Int) (s_3:LI) (s_4:LM) (k_5:Int)
noncomputable def T:OQ:=(Ar3.F ((s_1,(s_2,(s_3,s_4))),k_5,())).bind fun r6=>(Aa5.F ((s_1,(s_2,(s_3,s_4))),k_5,())).bind fun r7=>(Ag6.F (r7.1.1,())).bind fun r8=>(Ak5.F (r6.1.1,r8.1.1,())).bind fun r9=>some ((r9.1.1,()),())
theorem eq:F ((s_1,(s_2,(s_3,s_4))),k_5,())=T s_1 s_2 s_3 s_4 k_5:=eq_any fun k=>by kernel_rfl
theorem S:a3L prog ⟨74,sig,F⟩:=sound_k (res:=[.tmp 4]) func74 (cok (cM ⟨Ak5.S,cM ⟨Ar3.S,cM ⟨Ag6.S,cM ⟨Aa5.S,nM⟩⟩⟩⟩))
end Ak2
namespace Ag3
noncomputable def sig:Sig:=⟨[pS],[oL,oI]⟩
noncomputable def cfg:Cfg:=cl (cx [⟨43,Af6.sig,Af6.F⟩,⟨73,Ak7.sig,Ak7.F⟩,⟨74,Ak2.sig,Ak2.F⟩]) fun id=>match id with|5=>([1,4,9],[4,16])|_=>([],[])
noncomputable def fin:=finK cfg.c sig [.tmp 2,.tmp 3]
noncomputable def F (d:SF×Unit):Option ((LI×Int×Unit)×(Unit)):=anyK (a9n cfg fin (bd f48) (a6P sig.ps d 21))
variable (k:Nat) (i6:Int) (x7:LL) (i8:Int) (x9:LI) (x10:LM) (x11:LI)
noncomputable def l5:Option ((LI×Int×Unit)×(Unit)):=Vm.runT cfg fin k [.inLoop (sub [1,1,1,0,1,0,0] (bd f48)),.inBlock 0,.code (sub [1,1,1,1] (bd f48))] ⟨[dD,.ref 4 (.root 0),dD,dD,.view 16 (.root 0) 1 false,dD,dD,dD,dD,vI i6]++a9v 11,[(4,⟨true,[cQ x7,cI i8,cL x9,⟨(.sl TMatrix),.sh,x10⟩]⟩),(16,⟨false,[dL x11]⟩)]⟩
theorem l5_eq:l5 (k+1) i6 x7 i8 x9 x10 x11=if (decide (i6<4))=true then(Ak2.F ((x7,(i8,(x9,x10))),i6,())).bind fun r12=>(Ak7.F (r12.1.1,())).bind fun r13=>if x11.length+[r13.1.1].length≤bigA then l5 k (IntKind.i64.wrap (i6+1)) x7 i8 x9 x10 (x11++[r13.1.1])else none else some ((x11,((0:Int),())),()):=by kernel_rfl
variable (s_1:LL) (s_2:Int) (s_3:LI) (s_4:LM)
noncomputable def T:Option ((LI×Int×Unit)×(Unit)):=(Af6.F ((s_1,(s_2,(s_3,s_4))),())).bind fun r5=>if (!r5.1.1)=true then some (([],((1:Int),())),())else l5 k (0:Int) s_1 s_2 s_3 s_4 ([])
theorem of {r} (h:Ev (fun k=>T k s_1 s_2 s_3 s_4) r):F ((s_1,(s_2,(s_3,s_4))),())=some r:=Ev.run (fun k=>by kernel_rfl) h
theorem S:a3L prog ⟨48,sig,F⟩:=sound_k (res:=[.tmp 2,.tmp 3]) func48 (cok (cM ⟨Af6.S,cM ⟨Ak7.S,cM ⟨Ak2.S,nM⟩⟩⟩))
end Ag3
namespace Ag9
noncomputable def sig:Sig:=⟨[pC],[oL]⟩
noncomputable def cfg:Cfg:=cl (cx []) fun id=>match id with|3=>([3,7,8,9],[12])|_=>([],[])
noncomputable def fin:=finK cfg.c sig [.tmp 2]
noncomputable def F (d:LL×Unit):OL:=anyK (a9n cfg fin (bd f70) (a6P sig.ps d 24))
variable (k:Nat) (x2:LL) (i3 i4:Int) (x5:LI)
noncomputable def l3:OL:=Vm.runT cfg fin k [.inLoop (sub [1,1,0,1,0,0] (bd f70)),.inBlock 0,.code (sub [1,1,1] (bd f70))] ⟨[dD,dD,dD,.view 12 (.root 0) 1 false,dD,dD,dD,vQ x2,vI i3,vI i4]++a9v 14,[(12,⟨false,[dL x5]⟩)]⟩
theorem l3_eq:l3 (k+1) x2 i3 i4 x5=if (decide (i4<i3))=true then if 0≤i4∧i4<(x2.length:Int)then if (((x2.getD i4.toNat ([]:LI)).length:Int)==1)=true then if 0≤(0:Int)∧(0:Int)<((x2.getD i4.toNat ([]:LI)).length:Int)then if x5.length+[(x2.getD i4.toNat ([]:LI)).getD (0:Int).toNat 0].length≤bigA then l3 k x2 i3 (IntKind.i64.wrap (i4+1)) (x5++[(x2.getD i4.toNat ([]:LI)).getD (0:Int).toNat 0])else none else none else l3 k x2 i3 (IntKind.i64.wrap (i4+1)) x5 else none else some ((x5,()),()):=by kernel_rfl
variable (c_1:LL)
noncomputable def T:OL:=l3 k c_1 (c_1.length:Int) (0:Int) ([])
theorem of {r} (h:Ev (fun k=>T k c_1) r):F (c_1,())=some r:=Ev.run (fun k=>by kernel_rfl) h
theorem S:a3L prog ⟨70,sig,F⟩:=sound_k (res:=[.tmp 2]) func70 (cok nM)
end Ag9
namespace Aq9
noncomputable def sig:Sig:=sortIS
noncomputable def F (d:LI×Unit):Option ((Unit)×(LI×Unit)):=b5F d
def ren:Go.Shelf.Ren:=⟨fun|53=>155|59=>211|63=>185|64=>184|68=>182|70=>205|71=>206|72=>207|73=>208|74=>209|75=>210|76=>212|77=>213|78=>203|79=>204|88=>222|89=>218|90=>219|91=>223|92=>224|96=>228|n=>n,fun|0=>0|3=>3|4=>4|5=>5|9=>9|22=>25|23=>2|44=>127|51=>162|60=>187|61=>188|67=>194|69=>196|75=>204|79=>208|83=>212|84=>213|n=>n,fun n=>n⟩
theorem lays:Go.Proofs.SlLaysN.n53 prog ren where
  mixed:=by kernel_rfl
  f53 := ⟨"slices.Sort[[]int64,int64]", by decide, func155.trans (congrArg some (by kernel_rfl))⟩
  f59 := ⟨"cmp.Less[int64]", by decide, func211.trans (congrArg some (by kernel_rfl))⟩
  f63 := ⟨"slices.pdqsortOrdered[int64]", by decide, func185.trans (congrArg some (by kernel_rfl))⟩
  f64:=func184.trans (congrArg some (by kernel_rfl))
  f68 := ⟨"cmp.isNaN[int64]", by decide, func182.trans (congrArg some (by kernel_rfl))⟩
  f70 := ⟨"slices.insertionSortOrdered[int64]", by decide, func205.trans (congrArg some (by kernel_rfl))⟩
  f71 := ⟨"slices.heapSortOrdered[int64]", by decide, func206.trans (congrArg some (by kernel_rfl))⟩
  f72 := ⟨"slices.breakPatternsOrdered[int64]", by decide, func207.trans (congrArg some (by kernel_rfl))⟩
  f73 := ⟨"slices.choosePivotOrdered[int64]", by decide, func208.trans (congrArg some (by kernel_rfl))⟩
  f74 := ⟨"slices.reverseRangeOrdered[int64]", by decide, func209.trans (congrArg some (by kernel_rfl))⟩
  f75 := ⟨"slices.partialInsertionSortOrdered[int64]", by decide, func210.trans (congrArg some (by kernel_rfl))⟩
  f76 := ⟨"slices.partitionEqualOrdered[int64]", by decide, func212.trans (congrArg some (by kernel_rfl))⟩
  f77 := ⟨"slices.partitionOrdered[int64]", by decide, func213.trans (congrArg some (by kernel_rfl))⟩
  f78:=func203.trans (congrArg some (by kernel_rfl))
  f79:=func204.trans (congrArg some (by kernel_rfl))
  f88 := ⟨"slices.siftDownOrdered[int64]", by decide, func222.trans (congrArg some (by kernel_rfl))⟩
  f89:=func218.trans (congrArg some (by kernel_rfl))
  f90:=func219.trans (congrArg some (by kernel_rfl))
  f91 := ⟨"slices.medianAdjacentOrdered[int64]", by decide, func223.trans (congrArg some (by kernel_rfl))⟩
  f92 := ⟨"slices.medianOrdered[int64]", by decide, func224.trans (congrArg some (by kernel_rfl))⟩
  f96 := ⟨"slices.order2Ordered[int64]", by decide, func228.trans (congrArg some (by kernel_rfl))⟩
  t0:=underlying0
  a0:=isAgg0
  z0:=sizeOf0
  v0:=zeroValue0
  t3:=underlying3
  a3:=isAgg3
  z3:=sizeOf3
  v3:=zeroValue3
  t4:=underlying4
  a4:=isAgg4
  z4:=sizeOf4
  v4:=zeroValue4
  t5:=underlying5
  a5:=isAgg5
  z5:=sizeOf5
  v5:=zeroValue5
  t9:=underlying9
  a9:=isAgg9
  z9:=sizeOf9
  v9:=zeroValue9
  t22:=underlying25
  a22:=isAgg25
  z22:=sizeOf25
  v22:=zeroValue25
  t23:=underlying2
  a23:=isAgg2
  z23:=sizeOf2
  v23:=zeroValue2
  t44:=underlying127
  a44:=isAgg127
  z44:=sizeOf127
  v44:=zeroValue127
  t51:=underlying162
  a51:=isAgg162
  z51:=sizeOf162
  v51:=zeroValue162
  t60:=underlying187
  a60:=isAgg187
  z60:=sizeOf187
  v60:=zeroValue187
  t61:=underlying188
  a61:=isAgg188
  z61:=sizeOf188
  v61:=zeroValue188
  t67:=underlying194
  a67:=isAgg194
  z67:=sizeOf194
  v67:=zeroValue194
  t69:=underlying196
  a69:=isAgg196
  z69:=sizeOf196
  v69:=zeroValue196
  t75:=underlying204
  a75:=isAgg204
  z75:=sizeOf204
  v75:=zeroValue204
  t79:=underlying208
  a79:=isAgg208
  z79:=sizeOf208
  v79:=zeroValue208
  t83:=underlying212
  a83:=isAgg212
  z83:=sizeOf212
  v83:=zeroValue212
  t84:=underlying213
  a84:=isAgg213
  z84:=sizeOf213
  v84:=zeroValue213
set_option maxRecDepth 100000 in
theorem S:a3L prog ⟨155,sig,F⟩:=sortI_sound lays
end Aq9
namespace Aq7
noncomputable def sig:Sig:=compIS
noncomputable def F (d:LI×Unit):OL:=b5y d
def ren:Go.Shelf.Ren:=⟨fun|43=>156|n=>n,fun|0=>0|3=>3|4=>4|22=>25|23=>2|n=>n,fun n=>n⟩
theorem lays:Go.Proofs.SlLaysN.n43 prog ren where
  mixed:=by kernel_rfl
  f43 := ⟨"slices.Compact[[]int64,int64]", by decide, func156.trans (congrArg some (by kernel_rfl))⟩
  t0:=underlying0
  a0:=isAgg0
  z0:=sizeOf0
  v0:=zeroValue0
  t3:=underlying3
  a3:=isAgg3
  z3:=sizeOf3
  v3:=zeroValue3
  t4:=underlying4
  a4:=isAgg4
  z4:=sizeOf4
  v4:=zeroValue4
  t22:=underlying25
  a22:=isAgg25
  z22:=sizeOf25
  v22:=zeroValue25
  t23:=underlying2
  a23:=isAgg2
  z23:=sizeOf2
  v23:=zeroValue2
  i23:=by kernel_rfl
set_option maxRecDepth 100000 in
theorem S:a3L prog ⟨156,sig,F⟩:=compI_sound lays
end Aq7
namespace Ak4
noncomputable def sig:Sig:=⟨[pC,pL,pL],[oL]⟩
noncomputable def cfg:Cfg:=cl (cx [⟨70,Ag9.sig,Ag9.F⟩,⟨154,Af4.sig,Af4.F⟩,⟨155,Aq9.sig,Aq9.F⟩,⟨156,Aq7.sig,Aq7.F⟩]) fun id=>match id with|4=>([1,7,8,13,14,15],[28,32])|_=>([],[])
noncomputable def fin:=finK cfg.c sig [.tmp 6]
noncomputable def F (d:LL×LI×LI×Unit):OL:=anyK (a9n cfg fin (bd f111) (a6P sig.ps d 33))
variable (k:Nat) (x5 x6:LI) (i7 i8:Int) (x9 x10:LI)
noncomputable def l4:OL:=Vm.runT cfg fin k [.inLoop (sub [1,1,1,0,1,0,0] (bd f111)),.inBlock 0,.code (sub [1,1,1,1] (bd f111))] ⟨[dD,vL x5,dD,dD,dD,dD,dD,.view 28 (.root 0) 1 false,.view 32 (.root 0) 1 false,dD,dD,dD,dD,vL x6,vI i7,vI i8]++a9v 17,[(28,⟨false,[dL x9]⟩),(32,⟨false,[dL x10]⟩)]⟩
theorem l4_eq:l4 (k+1) x5 x6 i7 i8 x9 x10=if (decide (i8<i7))=true then if 0≤i8∧i8<(x6.length:Int)then(Af4.F (x9,(x6.getD i8.toNat 0:Int),())).bind fun r11=>if 0≤r11.1.1∧r11.1.1<(x5.length:Int)then if x10.length+[x5.getD r11.1.1.toNat 0].length≤bigA then l4 k x5 x6 i7 (IntKind.i64.wrap (i8+1)) x9 (x10++[x5.getD r11.1.1.toNat 0])else none else none else none else(Aq9.F (x10,())).bind fun r12=>(Aq7.F (r12.2.1,())).bind fun r13=>some ((r13.1.1,()),()):=by kernel_rfl
variable (a_1:LL) (images_2 s_3:LI)
noncomputable def T:OL:=(Ag9.F (a_1,())).bind fun r4=>l4 k images_2 s_3 (s_3.length:Int) (0:Int) r4.1.1 ([])
theorem of {r} (h:Ev (fun k=>T k a_1 images_2 s_3) r):F (a_1,images_2,s_3,())=some r:=Ev.run (fun k=>by kernel_rfl) h
theorem S:a3L prog ⟨111,sig,F⟩:=sound_k (res:=[.tmp 6]) func111 (cok (cM ⟨Ag9.S,cM ⟨Af4.S,cM ⟨Aq9.S,cM ⟨Aq7.S,nM⟩⟩⟩⟩))
end Ak4
namespace Al9
noncomputable def sig:Sig:=⟨[pM],[oM]⟩
noncomputable def cfg:Cfg:=cf (cx [⟨157,Ac8.sig,Ac8.F⟩])
noncomputable def fin:=finK cfg.c sig [.cell 2 70]
noncomputable def F (d:MX×Unit):OM:=anyK (a9n cfg fin (bd f158) (a6P sig.ps d 8))
variable (m_1 m_2 m_3:Int) (m_4:LI)
noncomputable def T:OM:=(Ac8.F (m_4,())).bind fun r5=>some (((m_1,(m_2,(m_3,r5.1.1))),()),())
theorem eq:F ((m_1,(m_2,(m_3,m_4))),())=T m_1 m_2 m_3 m_4:=eq_any fun k=>by kernel_rfl
theorem S:a3L prog ⟨158,sig,F⟩:=sound_k (res:=[.cell 2 70]) func158 (cok (cM ⟨Ac8.S,nM⟩))
end Al9
namespace Aj8
noncomputable def sig:Sig:=⟨[pC,pI,pL,.fnx ⟨[(true,TEdge)],[oM]⟩],[oS]⟩
noncomputable def cfg:Cfg:=cl (cx [⟨92,Ad9.sig,Ad9.F⟩,⟨109,Ad5.sig,Ad5.F⟩,⟨157,Ac8.sig,Ac8.F⟩,⟨158,Al9.sig,Al9.F⟩]) fun id=>match id with|3=>([3,8,9,20,21,22],[32,36,80])|_=>([],[])
noncomputable def fin:=finK cfg.c sig [.cell 8 36]
noncomputable def F (d:LL×Int×LI×(((Int×Int×Int)×Unit)→Option (MX×Unit))×Unit):OS:=anyK (a9n cfg fin (bd f112) (a6P sig.ps d 37))
variable (k:Nat) (f8:((Int×Int×Int)×Unit)→Option (MX×Unit)) (i9 i10:Int) (x11:LL) (i12:Int) (x13:LI) (x14:LM) (x15:LL) (i16:Int) (x17:LI) (x18:LM) (x19:List (Int×Int×Int))
noncomputable def l3:OS:=Vm.runT cfg fin k [.inLoop (sub [1,1,0,1,0,0] (bd f112)),.inBlock 0,.code (sub [1,1,1] (bd f112))] ⟨[dD,dD,dD,.fnx ⟨[(true,TEdge)],[(.val true,TMatrix,.deep)]⟩ f8,dD,dD,dD,dD,.ref 32 (.root 0),.ref 36 (.root 0),dD,dD,dD,dD,dD,dD,dD,dD,dD,dD,.view 80 (.root 0) 1 false,vI i9,vI i10]++a9v 14,[(32,⟨true,[dQ x11,cI i12,dL x13,⟨(.sl TMatrix),.deep,x14⟩]⟩),(36,⟨true,[dQ x15,cI i16,dL x17,⟨(.sl TMatrix),.deep,x18⟩]⟩),(80,⟨false,[⟨(.sl TEdge),.deep,x19⟩]⟩)]⟩
theorem l3_eq:l3 (k+1) f8 i9 i10 x11 i12 x13 x14 x15 i16 x17 x18 x19=if (decide (i10<i9))=true then if 0≤i10∧i10<(x19.length:Int)then(f8 (x19.getD i10.toNat (0,0,0),())).bind fun r20=>(Al9.F (r20.1,())).bind fun r21=>if x18.length+[r21.1.1].length≤bigA then l3 k f8 i9 (IntKind.i64.wrap (i10+1)) x11 i12 x13 x14 x15 i16 x17 (x18++[r21.1.1]) x19 else none else none else some (((x15,(i16,(x17,x18))),()),()):=by kernel_rfl
variable (c_1:LL) (p_2:Int) (stalks_3:LI) (f_4:((Int×Int×Int)×Unit)→Option (MX×Unit))
noncomputable def T:OS:=(Ad5.F (c_1,())).bind fun r5=>(Ac8.F (stalks_3,())).bind fun r6=>(Ad9.F (c_1,())).bind fun r7=>l3 k f_4 (r7.1.1.length:Int) (0:Int) ([]) 0 ([]) ([]) r5.1.1 p_2 r6.1.1 ([]) r7.1.1
theorem of {r} (h:Ev (fun k=>T k c_1 p_2 stalks_3 f_4) r):F (c_1,p_2,stalks_3,f_4,())=some r:=Ev.run (fun k=>by kernel_rfl) h
theorem S:a3L prog ⟨112,sig,F⟩:=sound_k (res:=[.cell 8 36]) func112 (cok (cM ⟨Ad9.S,cM ⟨Ad5.S,cM ⟨Ac8.S,cM ⟨Al9.S,nM⟩⟩⟩⟩))
end Aj8
namespace As7
noncomputable def sig:Sig:=⟨[pI,pI],[oI]⟩
noncomputable def cfg:Cfg:=cf (cx [])
noncomputable def fin:=finK cfg.c sig [.tmp 4]
noncomputable def F (d:Int×Int×Unit):OI:=anyK (a9n cfg fin (bd f186) (a6P sig.ps d 8))
variable (i_1 j_2:Int)
noncomputable def T:OI:=if (i_1==j_2)=true then some ((1,()),())else some ((0,()),())
theorem eq:F (i_1,j_2,())=T i_1 j_2:=eq_any fun k=>by kernel_rfl
theorem S:a3L prog ⟨186,sig,F⟩:=sound_k (res:=[.tmp 4]) func186 (cok nM)
noncomputable def cloG (y:Unit) (d:Int×Int×Unit):Option (Int×Unit):=(F (b0V [] [(false,tI),(false,tI)] d y)).map (·.1)
noncomputable def clo:Clo:=⟨186,⟨[(false,tI),(false,tI)],[(.val false,tI,.deep)]⟩,[],cloG⟩
theorem cloS:a2p prog clo:=sound_clo (s:=⟨[(false,tI),(false,tI)],[(.val false,tI,.deep)]⟩) (caps:=[]) rfl S
end As7
namespace Ap4
noncomputable def sig:Sig:=⟨[pI,pI],[oM]⟩
noncomputable def cfg:Cfg:=cf ⟨a2i tabl,[⟨139,Ab4.sig,Ab4.F⟩],[As7.clo],[],[],[]⟩
noncomputable def fin:=finK cfg.c sig [.cell 4 70]
noncomputable def F (d:Int×Int×Unit):OM:=anyK (a9n cfg fin (bd f159) (a6P sig.ps d 9))
variable (p_1 n_2:Int)
noncomputable def T:OM:=(Ab4.F (p_1,n_2,n_2,As7.cloG (()),())).bind fun r3=>some ((r3.1.1,()),())
theorem eq:F (p_1,n_2,())=T p_1 n_2:=eq_any fun k=>by kernel_rfl
theorem S:a3L prog ⟨159,sig,F⟩:=sound_k (res:=[.cell 4 70]) func159 (⟨nM,mixed_ok,tab_ok tab_good,cM ⟨Ab4.S,nM⟩,cM ⟨As7.cloS,nM⟩,nM⟩)
end Ap4
namespace Ar7
noncomputable def sig:Sig:=⟨[pI,.rptr tL],[oB]⟩
noncomputable def cfg:Cfg:=cf (cx [⟨161,Ah9.sig,Ah9.F⟩])
noncomputable def fin:=finK cfg.c sig [.tmp 3]
noncomputable def F (d:Int×LI×Unit):OB:=anyK (a9n cfg fin (bd f160) (a6P sig.ps d 8))
variable (v_1:Int) (a_2:LI)
noncomputable def T:OB:=(Ah9.F (a_2,v_1,())).bind fun r3=>some ((!r3.1.1,()),())
theorem eq:F (v_1,a_2,())=T v_1 a_2:=eq_any fun k=>by kernel_rfl
theorem S:a3L prog ⟨160,sig,F⟩:=sound_k (res:=[.tmp 3]) func160 (cok (cM ⟨Ah9.S,nM⟩))
noncomputable def cloG (y:LI×Unit) (d:Int×Unit):Option (Bool×Unit):=(F (b0V [.rptr tL] [(false,tI)] d y)).map (·.1)
noncomputable def clo:Clo:=⟨160,⟨[(false,tI)],[(.val false,.bool,.deep)]⟩,[.rptr tL],cloG⟩
theorem cloS:a2p prog clo:=sound_clo (s:=⟨[(false,tI)],[(.val false,.bool,.deep)]⟩) (caps:=[.rptr tL]) rfl S
end Ar7
namespace Ac1
noncomputable def sig:Sig:=⟨[pS,pI,pI],[oM]⟩
noncomputable def ctx (self:(SF×Int×Int×Unit)→OM):Ctx:=⟨a2i tabl,[⟨94,Ab0.sig,Ab0.F⟩,⟨95,Ag7.sig,Ag7.F⟩,⟨96,Ab3.sig,Ab3.F⟩,⟨145,Ae4.sig,Ae4.F⟩,⟨159,Ap4.sig,Ap4.F⟩,⟨114,sig,self⟩],[Ar7.clo],[],[],[]⟩
noncomputable def cfg (self:(SF×Int×Int×Unit)→OM):Cfg:=⟨(ctx self),[],[],fun _=>([],[]),fun _=>[]⟩
noncomputable def code:Code:=(f114).body.getD .skip
noncomputable def fin (self:(SF×Int×Int×Unit)→OM):=finK (ctx self) sig [.cell 6 70]
noncomputable def step (self:(SF×Int×Int×Unit)→OM) (d:SF×Int×Int×Unit):OM:=anyK (a9n (cfg self) (fin self) code (a6P sig.ps d 51))
variable (self:(SF×Int×Int×Unit)→OM) (s_1:LL) (s_2:Int) (s_3:LI) (s_4:LM) (face_5 simplex_6:Int)
noncomputable def T:OM:=if (face_5==simplex_6)=true then if 0≤face_5∧face_5<(s_3.length:Int)then(Ap4.F (s_2,(s_3.getD face_5.toNat 0:Int),())).bind fun r7=>some ((r7.1.1,()),())else none else if 0≤face_5∧face_5<(s_1.length:Int)then if 0≤simplex_6∧simplex_6<(s_1.length:Int)then(Ae4.F (s_1.getD simplex_6.toNat ([]:LI),Ar7.cloG (s_1.getD face_5.toNat ([]:LI),()),())).bind fun r8=>(Ab0.F (s_1,simplex_6,())).bind fun r9=>if 0≤r8.1.1∧r8.1.1<(r9.1.1.length:Int)then(Ab3.F ((s_1,(s_2,(s_3,s_4))),simplex_6,r8.1.1,())).bind fun r10=>(self ((s_1,(s_2,(s_3,s_4))),face_5,r9.1.1.getD r8.1.1.toNat 0,())).bind fun r11=>(Ag7.F (r10.1.1,r11.1.1,())).bind fun r12=>some ((r12.1.1,()),())else none else none else none
theorem run (self:(SF×Int×Int×Unit)→OM) (k:Nat) (s_1:LL) (s_2:Int) (s_3:LI) (s_4:LM) (face_5 simplex_6:Int):a9n (cfg self) (fin self) code (a6P sig.ps ((s_1,(s_2,(s_3,s_4))),face_5,simplex_6,()) 51) k=T self s_1 s_2 s_3 s_4 face_5 simplex_6:=by kernel_rfl
theorem eq:step self ((s_1,(s_2,(s_3,s_4))),face_5,simplex_6,())=T self s_1 s_2 s_3 s_4 face_5 simplex_6:=(congrArg anyK (funext fun k=>run self k s_1 s_2 s_3 s_4 face_5 simplex_6)).trans (b1h _)
theorem ok (self:(SF×Int×Int×Unit)→OM) (hs:a3L prog ⟨114,sig,self⟩):CtxOK prog (ctx self):=⟨nilM,mixed_ok,tab_ok tab_good,consM ⟨Ab0.S,consM ⟨Ag7.S,consM ⟨Ab3.S,consM ⟨Ae4.S,consM ⟨Ap4.S,consM ⟨hs,nilM⟩⟩⟩⟩⟩⟩,consM ⟨Ar7.cloS,nilM⟩,nilM⟩
theorem stepS (self:(SF×Int×Int×Unit)→OM) (hs:a3L prog ⟨114,sig,self⟩):a3L prog ⟨114,sig,step self⟩:=b3Z (fn:=f114) (code:=code) (g:=cfg self) (res:=[.cell 6 70]) func114 (by kernel_rfl) (by kernel_rfl) (ok self hs) (by kernel_rfl) (by kernel_rfl) (Nat.le_of_ble_eq_true (by kernel_rfl)) (by kernel_rfl)
noncomputable def R:Nat→(SF×Int×Int×Unit)→OM:=recF step
noncomputable def F (d:SF×Int×Int×Unit):OM:=anyE fun q=>R q d
theorem ofR {d:SF×Int×Int×Unit} {r:(MX×Unit)×(Unit)} (h:Ev (fun q=>R q d) r):F d=some r:=anyE_of h
theorem S:a3L prog ⟨114,sig,F⟩:=sound_rec ⟨_,func114,by kernel_rfl,by kernel_rfl⟩ fun self h=>stepS self h
end Ac1
namespace Aj7
noncomputable def sig:Sig:=⟨[.val true TEdge,qS,.rptr tL],[oM]⟩
noncomputable def cfg:Cfg:=cf (cx [⟨114,Ac1.sig,Ac1.F⟩])
noncomputable def fin:=finK cfg.c sig [.cell 4 70]
noncomputable def F (d:(Int×Int×Int)×SF×LI×Unit):OM:=anyK (a9n cfg fin (bd f113) (a6P sig.ps d 17))
noncomputable def T (a_1 a_2 a_3:Int) (a_4:LL) (a_5:Int) (a_6:LI) (a_7:LM) (a_8:LI):OM:=if 0≤a_3∧a_3<(a_8.length:Int)then if 0≤a_1∧a_1<(a_8.length:Int)then(Ac1.F ((a_4,(a_5,(a_6,a_7))),(a_8.getD a_3.toNat 0:Int),(a_8.getD a_1.toNat 0:Int),())).bind fun r9=>some ((r9.1.1,()),())else none else none
theorem eq (a_1 a_2 a_3:Int) (a_4:LL) (a_5:Int) (a_6:LI) (a_7:LM) (a_8:LI):F ((a_1,(a_2,a_3)),(a_4,(a_5,(a_6,a_7))),a_8,())=T a_1 a_2 a_3 a_4 a_5 a_6 a_7 a_8:=eq_any fun k=>by kernel_rfl
theorem S:a3L prog ⟨113,sig,F⟩:=sound_k (res:=[.cell 4 70]) func113 (cok (cM ⟨Ac1.S,nM⟩))
noncomputable def cloG (y:SF×LI×Unit) (d:(Int×Int×Int)×Unit):Option (MX×Unit):=(F (b0V [.rptr TSheaf,.rptr tL] [(true,TEdge)] d y)).map (·.1)
noncomputable def clo:Clo:=⟨113,⟨[(true,TEdge)],[(.val true,TMatrix,.deep)]⟩,[.rptr TSheaf,.rptr tL],cloG⟩
theorem cloS:a2p prog clo:=sound_clo (s:=⟨[(true,TEdge)],[(.val true,TMatrix,.deep)]⟩) (caps:=[.rptr TSheaf,.rptr tL]) rfl S
end Aj7
namespace Ak6
noncomputable def sig:Sig:=⟨[pS,pC,pL],[oS]⟩
noncomputable def cfg:Cfg:=cl (⟨a2i tabl,[⟨66,Ab6.sig,Ab6.F⟩,⟨111,Ak4.sig,Ak4.F⟩,⟨112,Aj8.sig,Aj8.F⟩],[Aj7.clo],[],[],[]⟩) fun id=>match id with|3=>([2,3,4,6,7,8,13,14,15],[12,16,24,28,32])|_=>([],[])
noncomputable def fin:=finK cfg.c sig [.cell 6 36]
noncomputable def F (d:SF×LL×LI×Unit):OS:=anyK (a9n cfg fin (bd f69) (a6P sig.ps d 45))
variable (k:Nat) (x7:LI) (x8:LL) (i9 i10:Int) (x11:LL) (i12:Int) (x13:LI) (x14:LM) (x15 x16:LL) (i17:Int) (x18:LI) (x19:LM) (x20 x21:LI)
noncomputable def l3:OS:=Vm.runT cfg fin k [.inLoop (sub [1,1,0,1,0,0] (bd f69)),.inBlock 0,.code (sub [1,1,1] (bd f69))] ⟨[dD,dD,vL x7,.ref 12 (.root 0),.ref 16 (.root 0),dD,.ref 24 (.root 0),.ref 28 (.root 0),.view 32 (.root 0) 1 false,dD,dD,dD,dD,vQ x8,vI i9,vI i10]++a9v 29,[(12,⟨true,[cQ x11,cI i12,cL x13,⟨(.sl TMatrix),.sh,x14⟩]⟩),(16,⟨true,[cQ x15]⟩),(24,⟨true,[dQ x16,cI i17,dL x18,⟨(.sl TMatrix),.deep,x19⟩]⟩),(28,⟨true,[dL x20]⟩),(32,⟨false,[dL x21]⟩)]⟩
theorem l3_eq:l3 (k+1) x7 x8 i9 i10 x11 i12 x13 x14 x15 x16 i17 x18 x19 x20 x21=if (decide (i10<i9))=true then if 0≤i10∧i10<(x8.length:Int)then(Ak4.F (x15,x7,x8.getD i10.toNat ([]:LI),())).bind fun r22=>(Ab6.F (x11,r22.1.1,())).bind fun r23=>if x20.length+[r23.1.1].length≤bigA then if 0≤r23.1.1∧r23.1.1<(x13.length:Int)then if x21.length+[x13.getD r23.1.1.toNat 0].length≤bigA then l3 k x7 x8 i9 (IntKind.i64.wrap (i10+1)) x11 i12 x13 x14 x15 x16 i17 x18 x19 (x20++[r23.1.1]) (x21++[x13.getD r23.1.1.toNat 0])else none else none else none else none else(Aj8.F (x15,i12,x21,Aj7.cloG ((x11,(i12,(x13,x14))),x20,()),())).bind fun r24=>some ((r24.1.1,()),()):=by kernel_rfl
variable (s_1:LL) (s_2:Int) (s_3:LI) (s_4:LM) (c_5:LL) (images_6:LI)
noncomputable def T:OS:=l3 k images_6 c_5 (c_5.length:Int) (0:Int) s_1 s_2 s_3 s_4 c_5 ([]) 0 ([]) ([]) ([]:LI) ([])
theorem of {r} (h:Ev (fun k=>T k s_1 s_2 s_3 s_4 c_5 images_6) r):F ((s_1,(s_2,(s_3,s_4))),c_5,images_6,())=some r:=Ev.run (fun k=>by kernel_rfl) h
theorem S:a3L prog ⟨69,sig,F⟩:=sound_k (res:=[.cell 6 36]) func69 (⟨nM,mixed_ok,tab_ok tab_good,cM ⟨Ab6.S,cM ⟨Ak4.S,cM ⟨Aj8.S,nM⟩⟩⟩,cM ⟨Aj7.cloS,nM⟩,nM⟩)
end Ak6
namespace Ai7
noncomputable def sig:Sig:=⟨[pS,pC],[oS]⟩
noncomputable def cfg:Cfg:=cf (cx [⟨69,Ak6.sig,Ak6.F⟩,⟨70,Ag9.sig,Ag9.F⟩])
noncomputable def fin:=finK cfg.c sig [.cell 4 36]
noncomputable def F (d:SF×LL×Unit):OS:=anyK (a9n cfg fin (bd f46) (a6P sig.ps d 10))
variable (s_1:LL) (s_2:Int) (s_3:LI) (s_4:LM) (part_5:LL)
noncomputable def T:OS:=(Ag9.F (part_5,())).bind fun r6=>(Ak6.F ((s_1,(s_2,(s_3,s_4))),part_5,r6.1.1,())).bind fun r7=>some ((r7.1.1,()),())
theorem eq:F ((s_1,(s_2,(s_3,s_4))),part_5,())=T s_1 s_2 s_3 s_4 part_5:=eq_any fun k=>by kernel_rfl
theorem S:a3L prog ⟨46,sig,F⟩:=sound_k (res:=[.cell 4 36]) func46 (cok (cM ⟨Ak6.S,cM ⟨Ag9.S,nM⟩⟩))
noncomputable def sigF:Sig:=⟨[.val true TSheaf,.val true tQ],[(.fr true,TSheaf,.deep)]⟩
theorem SF:a3L prog ⟨46,sigF,F⟩:=sound_fr S
end Ai7
namespace Ah7
noncomputable def sig:Sig:=⟨[pS,pC,pC],[oQ]⟩
noncomputable def cfg:Cfg:=cl (cx [⟨47,Ap1.sig,Ap1.F⟩,⟨48,Ag3.sig,Ag3.F⟩,⟨46,Ai7.sigF,Ai7.F⟩]) fun id=>match id with|3=>([7,24,25,26],[28,96])|_=>([],[])
noncomputable def fin:=finK cfg.c sig [.tmp 6]
noncomputable def F (d:SF×LL×LL×Unit):OQ:=anyK (a9n cfg fin (bd f29) (a6P sig.ps d 41))
variable (k:Nat) (i11 i12:Int) (x13:LL) (x14:List SF)
noncomputable def l3:OQ:=Vm.runT cfg fin k [.inLoop (sub [1,1,0,1,0,0] (bd f29)),.inBlock 0,.code (sub [1,1,1] (bd f29))] ⟨[dD,dD,dD,dD,dD,dD,dD,.view 28 (.root 0) 1 false,dD,dD,dD,dD,dD,dD,dD,dD,dD,dD,dD,dD,dD,dD,dD,dD,.view 96 (.root 0) 1 false,vI i11,vI i12]++a9v 14,[(28,⟨false,[dQ x13]⟩),(96,⟨false,[⟨(.sl TSheaf),.shal,x14⟩]⟩)]⟩
theorem l3_eq:l3 (k+1) i11 i12 x13 x14=if (decide (i12<i11))=true then if 0≤i12∧i12<(x14.length:Int)then let y15:LL:=(x14.getD i12.toNat (([]:LL),0,([]:LI),([]:LM))).1;let y16:Int:=((x14.getD i12.toNat (([]:LL),0,([]:LI),([]:LM))).2).1;let y17:LI:=(((x14.getD i12.toNat (([]:LL),0,([]:LI),([]:LM))).2).2).1;let y18:LM:=(((x14.getD i12.toNat (([]:LL),0,([]:LI),([]:LM))).2).2).2;(Ag3.F ((y15,(y16,(y17,y18))),())).bind fun r19=>if x13.length+[r19.1.1].length≤bigA then l3 k i11 (IntKind.i64.wrap (i12+1)) (x13++[r19.1.1]) x14 else none else none else some ((x13,()),()):=by kernel_rfl
variable (s_1:LL) (s_2:Int) (s_3:LI) (s_4:LM) (a_5 b_6:LL)
noncomputable def T:OQ:=(Ai7.F ((s_1,(s_2,(s_3,s_4))),a_5,())).bind fun r7=>(Ai7.F ((s_1,(s_2,(s_3,s_4))),b_6,())).bind fun r8=>(Ap1.F (a_5,b_6,())).bind fun r9=>(Ai7.F ((s_1,(s_2,(s_3,s_4))),r9.1.1,())).bind fun r10=>l3 k (([(s_1,(s_2,(s_3,s_4))),r7.1.1,r8.1.1,r10.1.1]).length:Int) (0:Int) ([]) ([(s_1,(s_2,(s_3,s_4))),r7.1.1,r8.1.1,r10.1.1])
theorem of {r} (h:Ev (fun k=>T k s_1 s_2 s_3 s_4 a_5 b_6) r):F ((s_1,(s_2,(s_3,s_4))),a_5,b_6,())=some r:=Ev.run (fun k=>by kernel_rfl) h
theorem S:a3L prog ⟨29,sig,F⟩:=sound_k (res:=[.tmp 6]) func29 (cok (cM ⟨Ap1.S,cM ⟨Ag3.S,cM ⟨Ai7.SF,nM⟩⟩⟩))
end Ah7
namespace Ae8
noncomputable def sig:Sig:=⟨[pS,pC,pC],[oQ,oI]⟩
noncomputable def cfg:Cfg:=cl (cx [⟨28,Ak3.sig,Ak3.F⟩,⟨29,Ah7.sig,Ah7.F⟩]) fun id=>match id with|8=>([9,10,11,29,30],[36,40])|_=>([],[])
noncomputable def fin:=finK cfg.c sig [.tmp 6,.tmp 7]
noncomputable def F (d:SF×LL×LL×Unit):Option ((LL×Int×Unit)×(Unit)):=anyK (a9n cfg fin (bd f19) (a6P sig.ps d 73))
variable (k:Nat) (i9 i10 i11:Int) (x12 x13:LL)
noncomputable def l8:Option ((LL×Int×Unit)×(Unit)):=Vm.runT cfg fin k [.inLoop (sub [1,1,1,1,1,0,1,0,0] (bd f19)),.inBlock 0,.code (sub [1,1,1,1,1,1] (bd f19))] ⟨[dD,dD,dD,dD,dD,dD,dD,dD,dD,.view 36 (.root 0) 1 false,.view 40 (.root 0) 1 false,vI i9,dD,dD,dD,dD,dD,dD,dD,dD,dD,dD,dD,dD,dD,dD,dD,dD,dD,vI i10,vI i11]++a9v 42,[(36,⟨false,[dQ x12]⟩),(40,⟨false,[dQ x13]⟩)]⟩
theorem l8_eq:l8 (k+1) i9 i10 i11 x12 x13=if (decide (i11<i10))=true then if 0≤(0:Int)∧(0:Int)<(x12.length:Int)then if 0≤i11∧i11<((x12.getD (0:Int).toNat ([]:LI)).length:Int)then if 0≤(1:Int)∧(1:Int)<(x12.length:Int)then if 0≤i11∧i11<((x12.getD (1:Int).toNat ([]:LI)).length:Int)then if 0≤(2:Int)∧(2:Int)<(x12.length:Int)then if 0≤i11∧i11<((x12.getD (2:Int).toNat ([]:LI)).length:Int)then if 0≤(3:Int)∧(3:Int)<(x12.length:Int)then if 0≤i11∧i11<((x12.getD (3:Int).toNat ([]:LI)).length:Int)then if x13.length+[[IntKind.i64.wrap (((x12.getD (0:Int).toNat ([]:LI)).getD i11.toNat 0)-i9),IntKind.i64.wrap ((IntKind.i64.wrap (((x12.getD (1:Int).toNat ([]:LI)).getD i11.toNat 0)+((x12.getD (2:Int).toNat ([]:LI)).getD i11.toNat 0)))-(IntKind.i64.wrap (((x12.getD (0:Int).toNat ([]:LI)).getD i11.toNat 0)-i9))),IntKind.i64.wrap (((x12.getD (3:Int).toNat ([]:LI)).getD i11.toNat 0)-(IntKind.i64.wrap ((IntKind.i64.wrap (((x12.getD (1:Int).toNat ([]:LI)).getD i11.toNat 0)+((x12.getD (2:Int).toNat ([]:LI)).getD i11.toNat 0)))-(IntKind.i64.wrap (((x12.getD (0:Int).toNat ([]:LI)).getD i11.toNat 0)-i9)))))]].length≤bigA then l8 k (IntKind.i64.wrap (((x12.getD (3:Int).toNat ([]:LI)).getD i11.toNat 0)-(IntKind.i64.wrap ((IntKind.i64.wrap (((x12.getD (1:Int).toNat ([]:LI)).getD i11.toNat 0)+((x12.getD (2:Int).toNat ([]:LI)).getD i11.toNat 0)))-(IntKind.i64.wrap (((x12.getD (0:Int).toNat ([]:LI)).getD i11.toNat 0)-i9)))))) i10 (IntKind.i64.wrap (i11+1)) x12 (x13++[[IntKind.i64.wrap (((x12.getD (0:Int).toNat ([]:LI)).getD i11.toNat 0)-i9),IntKind.i64.wrap ((IntKind.i64.wrap (((x12.getD (1:Int).toNat ([]:LI)).getD i11.toNat 0)+((x12.getD (2:Int).toNat ([]:LI)).getD i11.toNat 0)))-(IntKind.i64.wrap (((x12.getD (0:Int).toNat ([]:LI)).getD i11.toNat 0)-i9))),IntKind.i64.wrap (((x12.getD (3:Int).toNat ([]:LI)).getD i11.toNat 0)-(IntKind.i64.wrap ((IntKind.i64.wrap (((x12.getD (1:Int).toNat ([]:LI)).getD i11.toNat 0)+((x12.getD (2:Int).toNat ([]:LI)).getD i11.toNat 0)))-(IntKind.i64.wrap (((x12.getD (0:Int).toNat ([]:LI)).getD i11.toNat 0)-i9)))))]])else none else none else none else none else none else none else none else none else none else some ((x13,((0:Int),())),()):=by kernel_rfl
variable (toArray_1:LL) (toArray_2:Int) (toArray_3:LI) (toArray_4:LM) (a_5 a_6:LL)
noncomputable def T:Option ((LL×Int×Unit)×(Unit)):=(Ak3.F ((toArray_1,(toArray_2,(toArray_3,toArray_4))),a_5,a_6,())).bind fun r7=>if (r7.1.1 !=0)=true then some (([],(r7.1.1,())),())else(Ah7.F ((toArray_1,(toArray_2,(toArray_3,toArray_4))),a_5,a_6,())).bind fun r8=>if 0≤(0:Int)∧(0:Int)<(r8.1.1.length:Int)then l8 k (0:Int) ((r8.1.1.getD (0:Int).toNat ([]:LI)).length:Int) (0:Int) r8.1.1 ([])else none
theorem of {r} (h:Ev (fun k=>T k toArray_1 toArray_2 toArray_3 toArray_4 a_5 a_6) r):F ((toArray_1,(toArray_2,(toArray_3,toArray_4))),a_5,a_6,())=some r:=Ev.run (fun k=>by kernel_rfl) h
theorem S:a3L prog ⟨19,sig,F⟩:=sound_k (res:=[.tmp 6,.tmp 7]) func19 (cok (cM ⟨Ak3.S,cM ⟨Ah7.S,nM⟩⟩))
end Ae8
namespace An2
noncomputable def sig:Sig:=⟨[pS,pC,pC],[oB]⟩
noncomputable def cfg:Cfg:=cf ⟨a2i tabl,[⟨5,An3.sig,An3.F⟩,⟨6,Ah2.sig,Ah2.F⟩,⟨8,Ak0.sig,Ak0.F⟩,⟨9,Ad6.sig,Ad6.F⟩,⟨11,Ae2.sig,Ae2.F⟩,⟨12,Ap7.sig,Ap7.F⟩,⟨13,Ah0.sig,Ah0.F⟩,⟨14,Ap8.sig,Ap8.F⟩,⟨15,Ah1.sig,Ah1.F⟩,⟨16,Ag0.sig,Ag0.F⟩,⟨17,Aj9.sig,Aj9.F⟩,⟨18,Af5.sig,Af5.F⟩,⟨19,Ae8.sig,Ae8.F⟩],[],[],[],[8,18]⟩
noncomputable def fin:=finK cfg.c sig [.tmp 6]
noncomputable def F (d:SF×LL×LL×Unit):OB:=anyK (a9n cfg fin (bd f4) (a6P sig.ps d 142))
variable (toArray_1:LL) (toArray_2:Int) (toArray_3:LI) (toArray_4:LM) (a_5 a_6:LL)
noncomputable def T:OB:=(An3.F ((toArray_1,(toArray_2,(toArray_3,toArray_4))),(1048576:Int),())).bind fun r7=>if (decide (r7.1.1<0))=true then some ((true,()),())else(Ah2.F (a_5,r7.1.1,())).bind fun r8=>if (decide (r8.1.1<0))=true then some ((true,()),())else(Ah2.F (a_6,r8.1.1,())).bind fun r9=>if (decide (r9.1.1<0))=true then some ((true,()),())else(Ak0.F ((toArray_1,(toArray_2,(toArray_3,toArray_4))),())).bind fun r10=>(Ad6.F (a_5,())).bind fun r11=>(Ad6.F (a_6,())).bind fun r12=>(Af5.F (r10.1.1,r11.1.1,r12.1.1,())).bind fun r13=>(Ak0.F ((toArray_1,(toArray_2,(toArray_3,toArray_4))),())).bind fun r14=>(Ad6.F (a_5,())).bind fun r15=>(Ad6.F (a_6,())).bind fun r16=>(Ae8.F (r14.1.1,r15.1.1,r16.1.1,())).bind fun r17=>(Ae2.F (r17.1.1,r13.1.1,())).bind fun r18=>if (!r18.1.1)=true then some ((false,()),())else if (r17.1.2.1 !=r13.1.2.1)=true then some ((false,()),())else(Ak0.F ((toArray_1,(toArray_2,(toArray_3,toArray_4))),())).bind fun r19=>(Ap7.F (r14.1.1,r19.1.1,())).bind fun r20=>if (!r20.1.1)=true then some ((false,()),())else(Ad6.F (a_5,())).bind fun r21=>(Ah0.F (r15.1.1,r21.1.1,())).bind fun r22=>if (!r22.1.1)=true then some ((false,()),())else(Ad6.F (a_6,())).bind fun r23=>(Ah0.F (r16.1.1,r23.1.1,())).bind fun r24=>if (!r24.1.1)=true then some ((false,()),())else(Ap8.F (r14.1.1,(1:Int),())).bind fun r25=>(Ah1.F (r15.1.1,r25.1.1,())).bind fun r26=>(Ah1.F (r16.1.1,r26.1.1,())).bind fun r27=>if (decide (r27.1.1<0))=true then some ((false,()),())else(Ae2.F (r17.1.1,r13.1.1,())).bind fun r28=>if (!r28.1.1)=true then some ((false,()),())else if (r17.1.2.1 !=r13.1.2.1)=true then some ((false,()),())else(Ag0.F (r17.1.1,(1:Int),())).bind fun r29=>(Aj9.F (r29.2.1,(1:Int),())).bind fun r30=>if (decide (r30.1.1<0))=true then some ((false,()),())else if (r30.1.1 !=r29.1.1)=true then some ((false,()),())else(Ak0.F ((toArray_1,(toArray_2,(toArray_3,toArray_4))),())).bind fun r31=>(Ad6.F (a_5,())).bind fun r32=>(Ad6.F (a_6,())).bind fun r33=>(Ae8.F (r31.1.1,r32.1.1,r33.1.1,())).bind fun r34=>(Ae2.F (r34.1.1,r13.1.1,())).bind fun r35=>if (!r35.1.1)=true then some ((false,()),())else if (r34.1.2.1 !=r13.1.2.1)=true then some ((false,()),())else(Aj9.F (r29.2.1,(1:Int),())).bind fun r36=>if (decide (r36.1.1<0))=true then some ((false,()),())else if (r36.1.1 !=r29.1.1)=true then some ((false,()),())else some ((true,()),())
theorem eq:F ((toArray_1,(toArray_2,(toArray_3,toArray_4))),a_5,a_6,())=T toArray_1 toArray_2 toArray_3 toArray_4 a_5 a_6:=eq_any fun k=>by kernel_rfl
theorem S:a3L prog ⟨4,sig,F⟩:=sound_k (res:=[.tmp 6]) func4 (⟨nM,mixed_ok,tab_ok tab_good,cM ⟨An3.S,cM ⟨Ah2.S,cM ⟨Ak0.S,cM ⟨Ad6.S,cM ⟨Ae2.S,cM ⟨Ap7.S,cM ⟨Ah0.S,cM ⟨Ap8.S,cM ⟨Ah1.S,cM ⟨Ag0.S,cM ⟨Aj9.S,cM ⟨Af5.S,cM ⟨Ae8.S,nM⟩⟩⟩⟩⟩⟩⟩⟩⟩⟩⟩⟩⟩,nM,nM⟩)
end An2
end Go.Proofs.YthiiohhfalmgdaaGreat
