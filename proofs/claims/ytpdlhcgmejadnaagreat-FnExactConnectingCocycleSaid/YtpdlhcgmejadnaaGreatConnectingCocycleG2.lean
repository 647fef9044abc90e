/- The functions, as the machine runs them. -/
import Derived.Test.YtpdlhcgmejadnaaGreatConnectingCocycleG1
import Derived.Test.YtpdlhcgmejadnaaGreatProg
import Derived.KernelRfl
import Derived.WalkKit
import Derived.Lib.Walk
import Derived.Lib.AppendZeros
import Derived.Sort.WalkA
import Derived.Sort.WalkB2
import Derived.Sort.WalkB12
import Derived.Deep.LoopGhost
import Derived.Shelf.RegionOpenPlain
import Derived.Lib.SliceRun
namespace Go.Proofs.YtpdlhcgmejadnaaGreat
open Go Go.Vm
set_option linter.unusedVariables false
set_option linter.unusedSimpArgs false
open Go.Proofs.Tryz
namespace Ad0
noncomputable def sig:Sig:=⟨[pS,pI],[oI]⟩
noncomputable def cfg:Cfg:=cl (cx [⟨36,Ac5.sig,Ac5.F⟩,⟨81,Ab4.sig,Ab4.F⟩]) fun id=>match id with|3=>([1,2,5,18,19,20],[8,72])|_=>([],[])
noncomputable def fin:=finK cfg.c sig [.tmp 4]
noncomputable def F (d:SF×Int×Unit):OI:=anyK (a9e cfg fin (bd f54) (a6D sig.ps d 36))
variable (k:Nat) (i8 i9 i10 i11:Int) (x12:LL) (i13:Int) (x14:LI) (x15:LM) (x16:LI)
noncomputable def l3:OI:=Vm.runT cfg fin k [.inLoop (sub [1,1,0,1,0,0] (bd f54)),.inBlock 0,.code (sub [1,1,1] (bd f54))] ⟨[dD,vI i8,.ref 8 (.root 0),dD,dD,vI i9,dD,dD,dD,dD,dD,dD,dD,dD,dD,dD,dD,dD,.view 72 (.root 0) 1 false,vI i10,vI i11]++a8o 15,[(8,⟨true,[cQ x12,cI i13,cL x14,⟨(.sl TMatrix),.sh,x15⟩]⟩),(72,⟨false,[dL x16]⟩)]⟩
theorem l3_eq:l3 (k+1) i8 i9 i10 i11 x12 i13 x14 x15 x16=if (decide (i11<i10))=true then if 0≤i11∧i11<(x16.length:Int)then if ((x16.getD i11.toNat 0:Int)==i8)=true then some ((i9,()),())else if 0≤(x16.getD i11.toNat 0:Int)∧(x16.getD i11.toNat 0:Int)<(x14.length:Int)then l3 k i8 (IntKind.i64.wrap (i9+(x14.getD (x16.getD i11.toNat 0:Int).toNat 0))) i10 (IntKind.i64.wrap (i11+1)) x12 i13 x14 x15 x16 else none else none else some ((i9,()),()):=by kernel_rfl
variable (s_1:LL) (s_2:Int) (s_3:LI) (s_4:LM) (simplex_5:Int)
noncomputable def T:OI:=if 0≤simplex_5∧simplex_5<(s_1.length:Int)then(Ab4.F (s_1.getD simplex_5.toNat ([]:LI),())).bind fun r6=>(Ac5.F (s_1,IntKind.i64.wrap (r6.1.1-1),())).bind fun r7=>l3 k simplex_5 (0:Int) (r7.1.1.length:Int) (0:Int) s_1 s_2 s_3 s_4 r7.1.1 else none
theorem of {r} (h:Ev (fun k=>T k s_1 s_2 s_3 s_4 simplex_5) r):F ((s_1,(s_2,(s_3,s_4))),simplex_5,())=some r:=Ev.run (fun k=>by kernel_rfl) h
theorem S:a3E prog ⟨54,sig,F⟩:=sound_k (res:=[.tmp 4]) func54 (cok (cM ⟨Ac5.S,cM ⟨Ab4.S,nM⟩⟩))
end Ad0
namespace As4
noncomputable def sig:Sig:=⟨[pI,pI],[oI]⟩
noncomputable def cfg:Cfg:=cf (cx [])
noncomputable def fin:=finK cfg.c sig [.tmp 4]
noncomputable def F (d:Int×Int×Unit):OI:=anyK (a9e cfg fin (bd f119) (a6D sig.ps d 5))
noncomputable def T (i_1 j_2:Int):OI:=some ((0,()),())
theorem eq (i_1 j_2:Int):F (i_1,j_2,())=T i_1 j_2:=eq_any fun k=>by kernel_rfl
theorem S:a3E prog ⟨119,sig,F⟩:=sound_k (res:=[.tmp 4]) func119 (cok nM)
noncomputable def cloG (y:Unit) (d:Int×Int×Unit):Option (Int×Unit):=(F (b0M [] [(false,tI),(false,tI)] d y)).map (·.1)
noncomputable def clo:Clo:=⟨119,⟨[(false,tI),(false,tI)],[(.val false,tI,.deep)]⟩,[],cloG⟩
theorem cloS:a2i prog clo:=sound_clo (s:=⟨[(false,tI),(false,tI)],[(.val false,tI,.deep)]⟩) (caps:=[]) rfl S
end As4
namespace Ap2
noncomputable def sig:Sig:=⟨[pI,pI,pI],[oM]⟩
noncomputable def cfg:Cfg:=cf ⟨a2e tabl,[⟨118,Ab8.sig,Ab8.F⟩],[As4.clo],[],[],[]⟩
noncomputable def fin:=finK cfg.c sig [.cell 6 65]
noncomputable def F (d:Int×Int×Int×Unit):OM:=anyK (a9e cfg fin (bd f76) (a6D sig.ps d 11))
variable (p_1 rows_2 columns_3:Int)
noncomputable def T:OM:=(Ab8.F (p_1,rows_2,columns_3,As4.cloG (()),())).bind fun r4=>some ((r4.1.1,()),())
theorem eq:F (p_1,rows_2,columns_3,())=T p_1 rows_2 columns_3:=eq_any fun k=>by kernel_rfl
theorem S:a3E prog ⟨76,sig,F⟩:=sound_k (res:=[.cell 6 65]) func76 (⟨nM,mixed_ok,tab_ok tab_good,cM ⟨Ab8.S,nM⟩,cM ⟨As4.cloS,nM⟩,nM⟩)
end Ap2
namespace Ao3
noncomputable def sig:Sig:=⟨[pI,pI],[oI]⟩
noncomputable def cfg:Cfg:=cf (cx [])
noncomputable def fin:=finK cfg.c sig [.tmp 4]
noncomputable def F (d:Int×Int×Unit):OI:=anyK (a9e cfg fin (bd f80) (a6D sig.ps d 10))
variable (k_1 p_2:Int)
noncomputable def T:OI:=if (2:Int)=0 then none else if ((k_1.tmod (2:Int))==0)=true then some ((1,()),())else some ((IntKind.i64.wrap (p_2-(1:Int)),()),())
theorem eq:F (k_1,p_2,())=T k_1 p_2:=eq_any fun k=>by kernel_rfl
theorem S:a3E prog ⟨80,sig,F⟩:=sound_k (res:=[.tmp 4]) func80 (cok nM)
end Ao3
namespace Aa8
noncomputable def sig:Sig:=⟨[pS,pI],[oM]⟩
noncomputable def cfg:Cfg:=cl (cx [⟨36,Ac5.sig,Ac5.F⟩,⟨50,Ab0.sig,Ab0.F⟩,⟨54,Ad0.sig,Ad0.F⟩,⟨76,Ap2.sig,Ap2.F⟩,⟨77,Ab3.sig,Ab3.F⟩,⟨78,Ab7.sig,Ab7.F⟩,⟨79,Ai9.sig,Ai9.F⟩,⟨80,Ao3.sig,Ao3.F⟩]) fun id=>match id with|3=>([1,2,4,5,29,30,31],[8,16,20,116])|7=>([1,2,4,5,7,29,30,31,40,41,42],[8,16,20,116,160])|12=>([1,2,4,5,7,8,10,11,12,29,30,31,40,41,42,58,59],[8,16,20,40,116,160])|15=>([1,2,4,5,7,8,10,11,12,13,29,30,31,40,41,42,58,59,63,64],[8,16,20,40,116,160])|_=>([],[])
noncomputable def fin:=finK cfg.c sig [.cell 4 65]
noncomputable def F (d:SF×Int×Unit):OM:=anyK (a9e cfg fin (bd f35) (a6D sig.ps d 97))
variable (k:Nat) (i10 i11 i12:Int) (x13:LL) (i14:Int) (x15:LI) (x16:LM) (i17 i18 i19:Int) (x20:LI) (i21 i22 i23:Int) (x24 x25:LI)
noncomputable def l3:OM:=Vm.runT cfg fin k [.inLoop (sub [1,1,0,1,0,0] (bd f35)),.inBlock 0,.code (sub [1,1,1] (bd f35))] ⟨[dD,vI i10,.ref 8 (.root 0),dD,.ref 16 (.root 0),.ref 20 (.root 0),dD,dD,dD,dD,dD,dD,dD,dD,dD,dD,dD,dD,dD,dD,dD,dD,dD,dD,dD,dD,dD,dD,dD,.view 116 (.root 0) 1 false,vI i11,vI i12]++a8o 65,[(8,⟨true,[cQ x13,cI i14,cL x15,⟨(.sl TMatrix),.sh,x16⟩]⟩),(16,⟨true,[cI i17,cI i18,cI i19,dL x20]⟩),(20,⟨true,[cI i21,cI i22,cI i23,dL x24]⟩),(116,⟨false,[dL x25]⟩)]⟩
variable (i27 i28 i29 i30 i31 i32:Int) (x33:LL) (i34:Int) (x35:LI) (x36:LM) (i37 i38 i39:Int) (x40:LI) (i41 i42 i43:Int) (x44 x45 x46:LI)
noncomputable def l7:OM:=Vm.runT cfg fin k [.inLoop (sub [1,1,0,1,0,0,1,1,0,0,1,1,1,0,0] (bd f35)),.inBlock 2,.inBlock 1,.code (sub [1,1,0,1,0,0,1,1,1] (bd f35)),.inLoop (sub [1,1,0,1,0,0] (bd f35)),.inBlock 0,.code (sub [1,1,1] (bd f35))] ⟨[dD,vI i27,.ref 8 (.root 0),dD,.ref 16 (.root 0),.ref 20 (.root 0),dD,vI i28,dD,dD,dD,dD,dD,dD,dD,dD,dD,dD,dD,dD,dD,dD,dD,dD,dD,dD,dD,dD,dD,.view 116 (.root 0) 1 false,vI i29,vI i30,dD,dD,dD,dD,dD,dD,dD,dD,.view 160 (.root 0) 1 false,vI i31,vI i32]++a8o 54,[(8,⟨true,[cQ x33,cI i34,cL x35,⟨(.sl TMatrix),.sh,x36⟩]⟩),(16,⟨true,[cI i37,cI i38,cI i39,dL x40]⟩),(20,⟨true,[cI i41,cI i42,cI i43,dL x44]⟩),(116,⟨false,[dL x45]⟩),(160,⟨false,[dL x46]⟩)]⟩
variable (i50 i51 i52 i53 i54 i55 i56 i57 i58 i59 i60:Int) (x61:LL) (i62:Int) (x63:LI) (x64:LM) (i65 i66 i67:Int) (x68:LI) (i69 i70 i71:Int) (x72:LI) (i73 i74 i75:Int) (x76 x77 x78:LI)
noncomputable def l12:OM:=Vm.runT cfg fin k [.inLoop (sub [1,1,0,1,0,0,1,1,0,0,1,1,1,0,0,1,1,0,0,1,1,1,1,0,0] (bd f35)),.inBlock 4,.inBlock 3,.code (sub [1,1,0,1,0,0,1,1,0,0,1,1,1,0,0,1,1,1] (bd f35)),.inLoop (sub [1,1,0,1,0,0,1,1,0,0,1,1,1,0,0] (bd f35)),.inBlock 2,.inBlock 1,.code (sub [1,1,0,1,0,0,1,1,1] (bd f35)),.inLoop (sub [1,1,0,1,0,0] (bd f35)),.inBlock 0,.code (sub [1,1,1] (bd f35))] ⟨[dD,vI i50,.ref 8 (.root 0),dD,.ref 16 (.root 0),.ref 20 (.root 0),dD,vI i51,vI i52,dD,.ref 40 (.root 0),vI i53,vI i54,dD,dD,dD,dD,dD,dD,dD,dD,dD,dD,dD,dD,dD,dD,dD,dD,.view 116 (.root 0) 1 false,vI i55,vI i56,dD,dD,dD,dD,dD,dD,dD,dD,.view 160 (.root 0) 1 false,vI i57,vI i58,dD,dD,dD,dD,dD,dD,dD,dD,dD,dD,dD,dD,dD,dD,dD,vI i59,vI i60]++a8o 37,[(8,⟨true,[cQ x61,cI i62,cL x63,⟨(.sl TMatrix),.sh,x64⟩]⟩),(16,⟨true,[cI i65,cI i66,cI i67,dL x68]⟩),(20,⟨true,[cI i69,cI i70,cI i71,dL x72]⟩),(40,⟨true,[cI i73,cI i74,cI i75,cL x76]⟩),(116,⟨false,[dL x77]⟩),(160,⟨false,[dL x78]⟩)]⟩
variable (i79 i80 i81 i82 i83 i84 i85 i86 i87 i88 i89 i90 i91 i92:Int) (x93:LL) (i94:Int) (x95:LI) (x96:LM) (i97 i98 i99:Int) (x100:LI) (i101 i102 i103:Int) (x104:LI) (i105 i106 i107:Int) (x108 x109 x110:LI)
noncomputable def l15:OM:=Vm.runT cfg fin k [.inLoop (sub [1,1,0,1,0,0,1,1,0,0,1,1,1,0,0,1,1,0,0,1,1,1,1,0,0,1,1,0,0,1,1,0,0] (bd f35)),.inBlock 6,.inBlock 5,.code (sub [1,1,0,1,0,0,1,1,0,0,1,1,1,0,0,1,1,0,0,1,1,1,1,0,0,1,1,1] (bd f35)),.inLoop (sub [1,1,0,1,0,0,1,1,0,0,1,1,1,0,0,1,1,0,0,1,1,1,1,0,0] (bd f35)),.inBlock 4,.inBlock 3,.code (sub [1,1,0,1,0,0,1,1,0,0,1,1,1,0,0,1,1,1] (bd f35)),.inLoop (sub [1,1,0,1,0,0,1,1,0,0,1,1,1,0,0] (bd f35)),.inBlock 2,.inBlock 1,.code (sub [1,1,0,1,0,0,1,1,1] (bd f35)),.inLoop (sub [1,1,0,1,0,0] (bd f35)),.inBlock 0,.code (sub [1,1,1] (bd f35))] ⟨[dD,vI i79,.ref 8 (.root 0),dD,.ref 16 (.root 0),.ref 20 (.root 0),dD,vI i80,vI i81,dD,.ref 40 (.root 0),vI i82,vI i83,vI i84,dD,dD,dD,dD,dD,dD,dD,dD,dD,dD,dD,dD,dD,dD,dD,.view 116 (.root 0) 1 false,vI i85,vI i86,dD,dD,dD,dD,dD,dD,dD,dD,.view 160 (.root 0) 1 false,vI i87,vI i88,dD,dD,dD,dD,dD,dD,dD,dD,dD,dD,dD,dD,dD,dD,dD,vI i89,vI i90,dD,dD,dD,vI i91,vI i92]++a8o 32,[(8,⟨true,[cQ x93,cI i94,cL x95,⟨(.sl TMatrix),.sh,x96⟩]⟩),(16,⟨true,[cI i97,cI i98,cI i99,dL x100]⟩),(20,⟨true,[cI i101,cI i102,cI i103,dL x104]⟩),(40,⟨true,[cI i105,cI i106,cI i107,cL x108]⟩),(116,⟨false,[dL x109]⟩),(160,⟨false,[dL x110]⟩)]⟩
theorem l3_eq:l3 (k+1) i10 i11 i12 x13 i14 x15 x16 i17 i18 i19 x20 i21 i22 i23 x24 x25=if (decide (i12<i11))=true then if 0≤i12∧i12<(x25.length:Int)then if (decide (i10<0))=true then some (((i21,(i22,(i23,x24))),()),())else(Ab3.F (x13,(x25.getD i12.toNat 0:Int),())).bind fun r26=>l7 k i10 (x25.getD i12.toNat 0:Int) i11 i12 (r26.1.1.length:Int) (0:Int) x13 i14 x15 x16 i17 i18 i19 x20 i21 i22 i23 x24 x25 r26.1.1 else none else some (((i21,(i22,(i23,x24))),()),()):=by kernel_rfl
theorem l7_eq:l7 (k+1) i27 i28 i29 i30 i31 i32 x33 i34 x35 x36 i37 i38 i39 x40 i41 i42 i43 x44 x45 x46=if (decide (i32<i31))=true then if 0≤i32∧i32<(x46.length:Int)then(Ab7.F ((x33,(i34,(x35,x36))),i28,i32,())).bind fun r47=>(Ad0.F ((x33,(i34,(x35,x36))),i28,())).bind fun r48=>(Ad0.F ((x33,(i34,(x35,x36))),(x46.getD i32.toNat 0:Int),())).bind fun r49=>l12 k i27 i28 i32 r48.1.1 r49.1.1 i29 i30 i31 i32 r47.1.1.2.1 (0:Int) x33 i34 x35 x36 i37 i38 i39 x40 i41 i42 i43 x44 r47.1.1.1 r47.1.1.2.1 r47.1.1.2.2.1 r47.1.1.2.2.2 x45 x46 else none else l3 k i27 i29 (IntKind.i64.wrap (i30+1)) x33 i34 x35 x36 i37 i38 i39 x40 i41 i42 i43 x44 x45:=by kernel_rfl
theorem l12_eq:l12 (k+1) i50 i51 i52 i53 i54 i55 i56 i57 i58 i59 i60 x61 i62 x63 x64 i65 i66 i67 x68 i69 i70 i71 x72 i73 i74 i75 x76 x77 x78=if (decide (i60<i59))=true then l15 k i50 i51 i52 i53 i54 i60 i55 i56 i57 i58 i59 i60 i75 (0:Int) x61 i62 x63 x64 i65 i66 i67 x68 i69 i70 i71 x72 i73 i74 i75 x76 x77 x78 else l7 k i50 i51 i55 i56 i57 (IntKind.i64.wrap (i58+1)) x61 i62 x63 x64 i65 i66 i67 x68 i69 i70 i71 x72 x77 x78:=by kernel_rfl
theorem l15_eq:l15 (k+1) i79 i80 i81 i82 i83 i84 i85 i86 i87 i88 i89 i90 i91 i92 x93 i94 x95 x96 i97 i98 i99 x100 i101 i102 i103 x104 i105 i106 i107 x108 x109 x110=if (decide (i92<i91))=true then(Ai9.F ((i105,(i106,(i107,x108))),i84,i92,())).bind fun r111=>(Ao3.F (i81,i94,())).bind fun r112=>if i94=0 then none else if 0≤(IntKind.i64.wrap ((IntKind.i64.wrap ((IntKind.i64.wrap ((IntKind.i64.wrap (i82+i84))*i103))+i83))+i92))∧(IntKind.i64.wrap ((IntKind.i64.wrap ((IntKind.i64.wrap ((IntKind.i64.wrap (i82+i84))*i103))+i83))+i92))<(x104.length:Int)then let y113:LI:=x104.set (IntKind.i64.wrap ((IntKind.i64.wrap ((IntKind.i64.wrap ((IntKind.i64.wrap (i82+i84))*i103))+i83))+i92)).toNat ((IntKind.i64.wrap (r111.1.1*r112.1.1)).tmod i94);l15 k i79 i80 i81 i82 i83 i84 i85 i86 i87 i88 i89 i90 i91 (IntKind.i64.wrap (i92+1)) x93 i94 x95 x96 i97 i98 i99 x100 i101 i102 i103 y113 i105 i106 i107 x108 x109 x110 else none else l12 k i79 i80 i81 i82 i83 i85 i86 i87 i88 i89 (IntKind.i64.wrap (i90+1)) x93 i94 x95 x96 i97 i98 i99 x100 i101 i102 i103 x104 i105 i106 i107 x108 x109 x110:=by kernel_rfl
variable (toArray_1:LL) (toArray_2:Int) (toArray_3:LI) (toArray_4:LM) (a_5:Int)
noncomputable def T:OM:=(Ab0.F ((toArray_1,(toArray_2,(toArray_3,toArray_4))),IntKind.i64.wrap (a_5+(1:Int)),())).bind fun r6=>(Ab0.F ((toArray_1,(toArray_2,(toArray_3,toArray_4))),a_5,())).bind fun r7=>(Ap2.F (toArray_2,r6.1.1,r7.1.1,())).bind fun r8=>(Ac5.F (toArray_1,IntKind.i64.wrap (a_5+(1:Int)),())).bind fun r9=>l3 k a_5 (r9.1.1.length:Int) (0:Int) toArray_1 toArray_2 toArray_3 toArray_4 0 0 0 ([]) r8.1.1.1 r8.1.1.2.1 r8.1.1.2.2.1 r8.1.1.2.2.2 r9.1.1
theorem of {r} (h:Ev (fun k=>T k toArray_1 toArray_2 toArray_3 toArray_4 a_5) r):F ((toArray_1,(toArray_2,(toArray_3,toArray_4))),a_5,())=some r:=Ev.run (fun k=>by kernel_rfl) h
theorem S:a3E prog ⟨35,sig,F⟩:=sound_k (res:=[.cell 4 65]) func35 (cok (cM ⟨Ac5.S,cM ⟨Ab0.S,cM ⟨Ad0.S,cM ⟨Ap2.S,cM ⟨Ab3.S,cM ⟨Ab7.S,cM ⟨Ai9.S,cM ⟨Ao3.S,nM⟩⟩⟩⟩⟩⟩⟩⟩))
end Aa8
namespace Ao8
noncomputable def sig:Sig:=⟨[pL,pI,pI],[oB]⟩
noncomputable def cfg:Cfg:=cf (cx [⟨81,Ab4.sig,Ab4.F⟩,⟨148,Ah5.sig,Ah5.F⟩])
noncomputable def fin:=finK cfg.c sig [.tmp 6]
noncomputable def F (d:LI×Int×Int×Unit):OB:=anyK (a9e cfg fin (bd f108) (a6D sig.ps d 16))
variable (x_1:LI) (length_2 p_3:Int)
noncomputable def T:OB:=(Ab4.F (x_1,())).bind fun r4=>if (r4.1.1==length_2)=true then(Ah5.F (x_1,p_3,())).bind fun r5=>some ((r5.1.1,()),())else some ((false,()),())
theorem eq:F (x_1,length_2,p_3,())=T x_1 length_2 p_3:=eq_any fun k=>by kernel_rfl
theorem S:a3E prog ⟨108,sig,F⟩:=sound_k (res:=[.tmp 6]) func108 (cok (cM ⟨Ab4.S,cM ⟨Ah5.S,nM⟩⟩))
end Ao8
namespace Ar3
noncomputable def sig:Sig:=⟨[pI],[oB]⟩
noncomputable def cfg:Cfg:=cf (cx [])
noncomputable def fin:=finK cfg.c sig [.tmp 2]
noncomputable def F (d:Int×Unit):OB:=anyK (a9e cfg fin (bd f150) (a6D sig.ps d 5))
variable (x_1:Int)
noncomputable def T:OB:=some ((x_1 !=(0:Int),()),())
theorem eq:F (x_1,())=T x_1:=eq_any fun k=>by kernel_rfl
theorem S:a3E prog ⟨150,sig,F⟩:=sound_k (res:=[.tmp 2]) func150 (cok nM)
noncomputable def cloG (y:Unit) (d:Int×Unit):Option (Bool×Unit):=(F (b0M [] [(false,tI)] d y)).map (·.1)
noncomputable def clo:Clo:=⟨150,⟨[(false,tI)],[(.val false,.bool,.deep)]⟩,[],cloG⟩
theorem cloS:a2i prog clo:=sound_clo (s:=⟨[(false,tI)],[(.val false,.bool,.deep)]⟩) (caps:=[]) rfl S
end Ar3
namespace Ar2
noncomputable def sig:Sig:=⟨[pL],[oB]⟩
noncomputable def cfg:Cfg:=cf ⟨a2e tabl,[⟨149,Ad4.sig,Ad4.F⟩],[Ar3.clo],[],[],[]⟩
noncomputable def fin:=finK cfg.c sig [.tmp 2]
noncomputable def F (d:LI×Unit):OB:=anyK (a9e cfg fin (bd f109) (a6D sig.ps d 6))
variable (list_1:LI)
noncomputable def T:OB:=(Ad4.F (list_1,Ar3.cloG (()),())).bind fun r2=>some ((!r2.1.1,()),())
theorem eq:F (list_1,())=T list_1:=eq_any fun k=>by kernel_rfl
theorem S:a3E prog ⟨109,sig,F⟩:=sound_k (res:=[.tmp 2]) func109 (⟨nM,mixed_ok,tab_ok tab_good,cM ⟨Ad4.S,nM⟩,cM ⟨Ar3.cloS,nM⟩,nM⟩)
end Ar2
namespace Al7
noncomputable def sig:Sig:=⟨[pS,pL],[oB]⟩
noncomputable def cfg:Cfg:=cf (cx [⟨34,Af7.sig,Af7.F⟩,⟨35,Aa8.sig,Aa8.F⟩,⟨50,Ab0.sig,Ab0.F⟩,⟨108,Ao8.sig,Ao8.F⟩,⟨109,Ar2.sig,Ar2.F⟩])
noncomputable def fin:=finK cfg.c sig [.tmp 4]
noncomputable def F (d:SF×LI×Unit):OB:=anyK (a9e cfg fin (bd f68) (a6D sig.ps d 18))
variable (s_1:LL) (s_2:Int) (s_3:LI) (s_4:LM) (x_5:LI)
noncomputable def T:OB:=(Ab0.F ((s_1,(s_2,(s_3,s_4))),(0:Int),())).bind fun r6=>(Ao8.F (x_5,r6.1.1,s_2,())).bind fun r7=>if r7.1.1=true then(Aa8.F ((s_1,(s_2,(s_3,s_4))),(0:Int),())).bind fun r8=>(Af7.F (r8.1.1,x_5,())).bind fun r9=>(Ar2.F (r9.1.1,())).bind fun r10=>some ((r10.1.1,()),())else some ((false,()),())
theorem eq:F ((s_1,(s_2,(s_3,s_4))),x_5,())=T s_1 s_2 s_3 s_4 x_5:=eq_any fun k=>by kernel_rfl
theorem S:a3E prog ⟨68,sig,F⟩:=sound_k (res:=[.tmp 4]) func68 (cok (cM ⟨Af7.S,cM ⟨Aa8.S,cM ⟨Ab0.S,cM ⟨Ao8.S,cM ⟨Ar2.S,nM⟩⟩⟩⟩⟩))
end Al7
namespace Aj7
noncomputable def sig:Sig:=⟨[pS,pC,pC,pL],[oI]⟩
noncomputable def cfg:Cfg:=cf (cx [⟨29,Ah8.sig,Ah8.F⟩,⟨30,Ag9.sig,Ag9.F⟩,⟨67,Aj8.sig,Aj8.F⟩,⟨68,Al7.sig,Al7.F⟩])
noncomputable def fin:=finK cfg.c sig [.tmp 8]
noncomputable def F (d:SF×LL×LL×LI×Unit):OI:=anyK (a9e cfg fin (bd f28) (a6D sig.ps d 25))
variable (s_1:LL) (s_2:Int) (s_3:LI) (s_4:LM) (a_5 b_6:LL) (z_7:LI)
noncomputable def T:OI:=(Aj8.F ((s_1,(s_2,(s_3,s_4))),a_5,b_6,())).bind fun r8=>if (r8.1.1 !=0)=true then some ((r8.1.1,()),())else(Ah8.F (a_5,b_6,())).bind fun r9=>(Ag9.F ((s_1,(s_2,(s_3,s_4))),r9.1.1,())).bind fun r10=>(Al7.F (r10.1.1,z_7,())).bind fun r11=>if (!r11.1.1)=true then some ((7,()),())else some ((0,()),())
theorem eq:F ((s_1,(s_2,(s_3,s_4))),a_5,b_6,z_7,())=T s_1 s_2 s_3 s_4 a_5 b_6 z_7:=eq_any fun k=>by kernel_rfl
theorem S:a3E prog ⟨28,sig,F⟩:=sound_k (res:=[.tmp 8]) func28 (cok (cM ⟨Ah8.S,cM ⟨Ag9.S,cM ⟨Aj8.S,cM ⟨Al7.S,nM⟩⟩⟩⟩))
end Aj7
namespace Aj0
noncomputable def sig:Sig:=⟨[pS,pL,pI],[oL]⟩
noncomputable def cfg:Cfg:=cf (cx [⟨54,Ad0.sig,Ad0.F⟩,⟨57,Ab9.sig,Ab9.F⟩])
noncomputable def fin:=finK cfg.c sig [.tmp 6]
noncomputable def F (d:SF×LI×Int×Unit):OL:=anyK (a9e cfg fin (bd f33) (a6D sig.ps d 22))
variable (s_1:LL) (s_2:Int) (s_3:LI) (s_4:LM) (x_5:LI) (simplex_6:Int)
noncomputable def T:OL:=(Ad0.F ((s_1,(s_2,(s_3,s_4))),simplex_6,())).bind fun r7=>if 0≤simplex_6∧simplex_6<(s_3.length:Int)then if 0≤r7.1.1∧r7.1.1≤(IntKind.i64.wrap (r7.1.1+(s_3.getD simplex_6.toNat 0:Int)))∧(IntKind.i64.wrap (r7.1.1+(s_3.getD simplex_6.toNat 0:Int)))≤(x_5.length:Int)then(Ab9.F (cutL x_5 r7.1.1 (IntKind.i64.wrap (r7.1.1+(s_3.getD simplex_6.toNat 0:Int))),())).bind fun r8=>some ((r8.1.1,()),())else none else none
theorem eq:F ((s_1,(s_2,(s_3,s_4))),x_5,simplex_6,())=T s_1 s_2 s_3 s_4 x_5 simplex_6:=eq_any fun k=>by kernel_rfl
theorem S:a3E prog ⟨33,sig,F⟩:=sound_k (res:=[.tmp 6]) func33 (cok (cM ⟨Ad0.S,cM ⟨Ab9.S,nM⟩⟩))
end Aj0
namespace Ad6
noncomputable def sig:Sig:=⟨[pS,pC,pC,pL],[oL,oI]⟩
noncomputable def cfg:Cfg:=cl (cx [⟨28,Aj7.sig,Aj7.F⟩,⟨29,Ah8.sig,Ah8.F⟩,⟨30,Ag9.sig,Ag9.F⟩,⟨31,Ae2.sig,Ae2.F⟩,⟨32,Aa5.sig,Aa5.F⟩,⟨33,Aj0.sig,Aj0.F⟩,⟨34,Af7.sig,Af7.F⟩,⟨35,Aa8.sig,Aa8.F⟩,⟨36,Ac5.sig,Ac5.F⟩]) fun id=>match id with|8=>([3,4,5,11,12,13,42,43,44],[16,20,44,48,52])|18=>([4,5,17,18,74,75,76],[16,20,68,72,296])|_=>([],[])
noncomputable def fin:=finK cfg.c sig [.tmp 8,.tmp 9]
noncomputable def F (d:SF×LL×LL×LI×Unit):Option ((LI×Int×Unit)×(Unit)):=anyK (a9e cfg fin (bd f11) (a6D sig.ps d 104))
variable (k:Nat) (x12:LI) (x13:LL) (i14 i15:Int) (x16:LL) (i17:Int) (x18:LI) (x19:LM) (x20 x21 x22:LL) (i23:Int) (x24:LI) (x25:LM) (x26:LI)
noncomputable def l8:Option ((LI×Int×Unit)×(Unit)):=Vm.runT cfg fin k [.inLoop (sub [1,1,1,1,1,0,1,0,0] (bd f11)),.inBlock 0,.code (sub [1,1,1,1,1,1] (bd f11))] ⟨[dD,dD,dD,vL x12,.ref 16 (.root 0),.ref 20 (.root 0),dD,dD,dD,dD,dD,.ref 44 (.root 0),.ref 48 (.root 0),.view 52 (.root 0) 1 false,dD,dD,dD,dD,dD,dD,dD,dD,dD,dD,dD,dD,dD,dD,dD,dD,dD,dD,dD,dD,dD,dD,dD,dD,dD,dD,dD,dD,vQ x13,vI i14,vI i15]++a8o 59,[(16,⟨true,[cQ x16,cI i17,cL x18,⟨(.sl TMatrix),.sh,x19⟩]⟩),(20,⟨true,[cQ x20]⟩),(44,⟨true,[dQ x21]⟩),(48,⟨true,[dQ x22,cI i23,dL x24,⟨(.sl TMatrix),.deep,x25⟩]⟩),(52,⟨false,[dL x26]⟩)]⟩
variable (i32 i33:Int) (x34:LL) (i35:Int) (x36:LI) (x37:LM) (x38:LL) (x39 x40 x41:LI)
noncomputable def l18:Option ((LI×Int×Unit)×(Unit)):=Vm.runT cfg fin k [.inLoop (sub [1,1,1,1,1,1,1,1,0,1,0,0] (bd f11)),.inBlock 2,.code (sub [1,1,1,1,1,1,1,1,1] (bd f11))] ⟨[dD,dD,dD,dD,.ref 16 (.root 0),.ref 20 (.root 0),dD,dD,dD,dD,dD,dD,dD,dD,dD,dD,dD,.view 68 (.root 0) 1 false,.view 72 (.root 0) 1 false,dD,dD,dD,dD,dD,dD,dD,dD,dD,dD,dD,dD,dD,dD,dD,dD,dD,dD,dD,dD,dD,dD,dD,dD,dD,dD,dD,dD,dD,dD,dD,dD,dD,dD,dD,dD,dD,dD,dD,dD,dD,dD,dD,dD,dD,dD,dD,dD,dD,dD,dD,dD,dD,dD,dD,.view 296 (.root 0) 1 false,vI i32,vI i33]++a8o 27,[(16,⟨true,[cQ x34,cI i35,cL x36,⟨(.sl TMatrix),.sh,x37⟩]⟩),(20,⟨true,[cQ x38]⟩),(68,⟨false,[dL x39]⟩),(72,⟨false,[dL x40]⟩),(296,⟨false,[dL x41]⟩)]⟩
theorem l8_eq:l8 (k+1) x12 x13 i14 i15 x16 i17 x18 x19 x20 x21 x22 i23 x24 x25 x26=if (decide (i15<i14))=true then if 0≤i15∧i15<(x13.length:Int)then(Aa5.F (x21,x13.getD i15.toNat ([]:LI),())).bind fun r27=>if (decide (r27.1.1≥0))=true then(Aj0.F ((x22,(i23,(x24,x25))),x12,r27.1.1,())).bind fun r28=>if x26.length+r28.1.1.length≤bigA then l8 k x12 x13 i14 (IntKind.i64.wrap (i15+1)) x16 i17 x18 x19 x20 x21 x22 i23 x24 x25 (x26++r28.1.1)else none else if 0≤i15∧i15<(x18.length:Int)then if 0≤(x18.getD i15.toNat 0:Int)∧x26.length+(x18.getD i15.toNat 0:Int).toNat≤bigA then l8 k x12 x13 i14 (IntKind.i64.wrap (i15+1)) x16 i17 x18 x19 x20 x21 x22 i23 x24 x25 (x26++List.replicate (x18.getD i15.toNat 0:Int).toNat (0:Int))else none else none else none else(Aa8.F ((x16,(i17,(x18,x19))),(0:Int),())).bind fun r29=>(Af7.F (r29.1.1,x26,())).bind fun r30=>(Ac5.F (x16,(1:Int),())).bind fun r31=>l18 k (r31.1.1.length:Int) (0:Int) x16 i17 x18 x19 x20 r30.1.1 ([]) r31.1.1:=by kernel_rfl
theorem l18_eq:l18 (k+1) i32 i33 x34 i35 x36 x37 x38 x39 x40 x41=if (decide (i33<i32))=true then if 0≤i33∧i33<(x41.length:Int)then if 0≤(x41.getD i33.toNat 0:Int)∧(x41.getD i33.toNat 0:Int)<(x34.length:Int)then(Aa5.F (x38,x34.getD (x41.getD i33.toNat 0:Int).toNat ([]:LI),())).bind fun r42=>if (decide (r42.1.1≥0))=true then(Aj0.F ((x34,(i35,(x36,x37))),x39,(x41.getD i33.toNat 0:Int),())).bind fun r43=>if x40.length+r43.1.1.length≤bigA then l18 k i32 (IntKind.i64.wrap (i33+1)) x34 i35 x36 x37 x38 x39 (x40++r43.1.1) x41 else none else if 0≤(x41.getD i33.toNat 0:Int)∧(x41.getD i33.toNat 0:Int)<(x36.length:Int)then if 0≤(x36.getD (x41.getD i33.toNat 0:Int).toNat 0)∧x40.length+(x36.getD (x41.getD i33.toNat 0:Int).toNat 0).toNat≤bigA then l18 k i32 (IntKind.i64.wrap (i33+1)) x34 i35 x36 x37 x38 x39 (x40++List.replicate (x36.getD (x41.getD i33.toNat 0:Int).toNat 0).toNat (0:Int)) x41 else none else none else none else none else some ((x40,((0:Int),())),()):=by kernel_rfl
variable (toArray_1:LL) (toArray_2:Int) (toArray_3:LI) (toArray_4:LM) (a_5 a_6:LL) (a_7:LI)
noncomputable def T:Option ((LI×Int×Unit)×(Unit)):=(Aj7.F ((toArray_1,(toArray_2,(toArray_3,toArray_4))),a_5,a_6,a_7,())).bind fun r8=>if (r8.1.1 !=0)=true then some (([],(r8.1.1,())),())else(Ah8.F (a_5,a_6,())).bind fun r9=>(Ag9.F ((toArray_1,(toArray_2,(toArray_3,toArray_4))),r9.1.1,())).bind fun r10=>(Ae2.F (toArray_1,())).bind fun r11=>if 0≤(0:Int)∧(0:Int)≤(r11.1.1.length:Int)∧(r11.1.1.length:Int)≤(toArray_1.length:Int)then l8 k a_7 (cutL toArray_1 (0:Int) (r11.1.1.length:Int)) ((cutL toArray_1 (0:Int) (r11.1.1.length:Int)).length:Int) (0:Int) toArray_1 toArray_2 toArray_3 toArray_4 a_5 r9.1.1 r10.1.1.1 r10.1.1.2.1 r10.1.1.2.2.1 r10.1.1.2.2.2 ([])else none
theorem of {r} (h:Ev (fun k=>T k toArray_1 toArray_2 toArray_3 toArray_4 a_5 a_6 a_7) r):F ((toArray_1,(toArray_2,(toArray_3,toArray_4))),a_5,a_6,a_7,())=some r:=Ev.run (fun k=>by kernel_rfl) h
theorem S:a3E prog ⟨11,sig,F⟩:=sound_k (res:=[.tmp 8,.tmp 9]) func11 (cok (cM ⟨Aj7.S,cM ⟨Ah8.S,cM ⟨Ag9.S,cM ⟨Ae2.S,cM ⟨Aa5.S,cM ⟨Aj0.S,cM ⟨Af7.S,cM ⟨Aa8.S,cM ⟨Ac5.S,nM⟩⟩⟩⟩⟩⟩⟩⟩⟩))
end Ad6
namespace Aa6
noncomputable def sig:Sig:=⟨[pL,pL],[oB]⟩
noncomputable def cfg:Cfg:=cl (cx []) fun id=>match id with|4=>([0,1,5],[])|_=>([],[])
noncomputable def fin:=finK cfg.c sig [.tmp 4]
noncomputable def F (d:LI×LI×Unit):OB:=anyK (a9e cfg fin (bd f12) (a6D sig.ps d 26))
variable (k:Nat) (x3 x4:LI) (i5:Int)
noncomputable def l4:OB:=Vm.runT cfg fin k [.inLoop (sub [1,1,0,1,0,0] (bd f12)),.inBlock 0,.code (sub [1,1,1] (bd f12))] ⟨[vL x3,vL x4,dD,dD,dD,vI i5]++a8o 20,[]⟩
theorem l4_eq:l4 (k+1) x3 x4 i5=if (decide (i5<(x3.length:Int)))=true then if 0≤i5∧i5<(x3.length:Int)then if 0≤i5∧i5<(x4.length:Int)then if ((x3.getD i5.toNat 0:Int)!=(x4.getD i5.toNat 0:Int))=true then some ((false,()),())else l4 k x3 x4 (IntKind.i64.wrap (i5+1))else none else none else some ((true,()),()):=by kernel_rfl
variable (a_1 b_2:LI)
noncomputable def T:OB:=if ((a_1.length:Int)!=(b_2.length:Int))=true then some ((false,()),())else l4 k a_1 b_2 (0:Int)
theorem of {r} (h:Ev (fun k=>T k a_1 b_2) r):F (a_1,b_2,())=some r:=Ev.run (fun k=>by kernel_rfl) h
theorem S:a3E prog ⟨12,sig,F⟩:=sound_k (res:=[.tmp 4]) func12 (cok nM)
end Aa6
namespace Ah9
noncomputable def sig:Sig:=⟨[pQ,pQ],[oB]⟩
noncomputable def cfg:Cfg:=cl (cx [⟨12,Aa6.sig,Aa6.F⟩]) fun id=>match id with|4=>([0,1,5],[])|_=>([],[])
noncomputable def fin:=finK cfg.c sig [.tmp 4]
noncomputable def F (d:LL×LL×Unit):OB:=anyK (a9e cfg fin (bd f38) (a6D sig.ps d 27))
variable (k:Nat) (x3 x4:LL) (i5:Int)
noncomputable def l4:OB:=Vm.runT cfg fin k [.inLoop (sub [1,1,0,1,0,0] (bd f38)),.inBlock 0,.code (sub [1,1,1] (bd f38))] ⟨[vQ x3,vQ x4,dD,dD,dD,vI i5]++a8o 21,[]⟩
theorem l4_eq:l4 (k+1) x3 x4 i5=if (decide (i5<(x3.length:Int)))=true then if 0≤i5∧i5<(x3.length:Int)then if 0≤i5∧i5<(x4.length:Int)then(Aa6.F (x3.getD i5.toNat ([]:LI),x4.getD i5.toNat ([]:LI),())).bind fun r6=>if (!r6.1.1)=true then some ((false,()),())else l4 k x3 x4 (IntKind.i64.wrap (i5+1))else none else none else some ((true,()),()):=by kernel_rfl
variable (a_1 b_2:LL)
noncomputable def T:OB:=if ((a_1.length:Int)!=(b_2.length:Int))=true then some ((false,()),())else l4 k a_1 b_2 (0:Int)
theorem of {r} (h:Ev (fun k=>T k a_1 b_2) r):F (a_1,b_2,())=some r:=Ev.run (fun k=>by kernel_rfl) h
theorem S:a3E prog ⟨38,sig,F⟩:=sound_k (res:=[.tmp 4]) func38 (cok (cM ⟨Aa6.S,nM⟩))
end Ah9
namespace Ag1
noncomputable def sig:Sig:=⟨[pC,pC],[oB]⟩
noncomputable def cfg:Cfg:=cf (cx [⟨38,Ah9.sig,Ah9.F⟩])
noncomputable def fin:=finK cfg.c sig [.tmp 4]
noncomputable def F (d:LL×LL×Unit):OB:=anyK (a9e cfg fin (bd f14) (a6D sig.ps d 11))
variable (a_1 b_2:LL)
noncomputable def T:OB:=(Ah9.F (a_1,b_2,())).bind fun r3=>if (!r3.1.1)=true then some ((false,()),())else some ((true,()),())
theorem eq:F (a_1,b_2,())=T a_1 b_2:=eq_any fun k=>by kernel_rfl
theorem S:a3E prog ⟨14,sig,F⟩:=sound_k (res:=[.tmp 4]) func14 (cok (cM ⟨Ah9.S,nM⟩))
end Ag1
namespace Ap3
noncomputable def sig:Sig:=⟨[pM,pM],[oB]⟩
noncomputable def cfg:Cfg:=cf (cx [⟨12,Aa6.sig,Aa6.F⟩])
noncomputable def fin:=finK cfg.c sig [.tmp 4]
noncomputable def F (d:MX×MX×Unit):OB:=anyK (a9e cfg fin (bd f82) (a6D sig.ps d 26))
variable (a_1 a_2 a_3:Int) (a_4:LI) (b_5 b_6 b_7:Int) (b_8:LI)
noncomputable def T:OB:=if (a_1 !=b_5)=true then some ((false,()),())else if (a_2 !=b_6)=true then some ((false,()),())else if (a_3 !=b_7)=true then some ((false,()),())else(Aa6.F (a_4,b_8,())).bind fun r9=>if (!r9.1.1)=true then some ((false,()),())else some ((true,()),())
theorem eq:F ((a_1,(a_2,(a_3,a_4))),(b_5,(b_6,(b_7,b_8))),())=T a_1 a_2 a_3 a_4 b_5 b_6 b_7 b_8:=eq_any fun k=>by kernel_rfl
theorem S:a3E prog ⟨82,sig,F⟩:=sound_k (res:=[.tmp 4]) func82 (cok (cM ⟨Aa6.S,nM⟩))
end Ap3
namespace Ai0
noncomputable def sig:Sig:=⟨[.val false (.sl TMatrix),.val false (.sl TMatrix)],[oB]⟩
noncomputable def cfg:Cfg:=cl (cx [⟨82,Ap3.sig,Ap3.F⟩]) fun id=>match id with|4=>([0,1,5],[])|_=>([],[])
noncomputable def fin:=finK cfg.c sig [.tmp 4]
noncomputable def F (d:LM×LM×Unit):OB:=anyK (a9e cfg fin (bd f37) (a6D sig.ps d 27))
variable (k:Nat) (x3 x4:LM) (i5:Int)
noncomputable def l4:OB:=Vm.runT cfg fin k [.inLoop (sub [1,1,0,1,0,0] (bd f37)),.inBlock 0,.code (sub [1,1,1] (bd f37))] ⟨[.val false [⟨(.sl TMatrix),.sh,x3⟩],.val false [⟨(.sl TMatrix),.sh,x4⟩],dD,dD,dD,vI i5]++a8o 21,[]⟩
theorem l4_eq:l4 (k+1) x3 x4 i5=if (decide (i5<(x3.length:Int)))=true then if 0≤i5∧i5<(x3.length:Int)then if 0≤i5∧i5<(x4.length:Int)then(Ap3.F (x3.getD i5.toNat (0,0,0,([]:LI)),x4.getD i5.toNat (0,0,0,([]:LI)),())).bind fun r6=>if (!r6.1.1)=true then some ((false,()),())else l4 k x3 x4 (IntKind.i64.wrap (i5+1))else none else none else some ((true,()),()):=by kernel_rfl
variable (a_1 b_2:LM)
noncomputable def T:OB:=if ((a_1.length:Int)!=(b_2.length:Int))=true then some ((false,()),())else l4 k a_1 b_2 (0:Int)
theorem of {r} (h:Ev (fun k=>T k a_1 b_2) r):F (a_1,b_2,())=some r:=Ev.run (fun k=>by kernel_rfl) h
theorem S:a3E prog ⟨37,sig,F⟩:=sound_k (res:=[.tmp 4]) func37 (cok (cM ⟨Ap3.S,nM⟩))
end Ai0
namespace Ap4
noncomputable def sig:Sig:=⟨[pS,pS],[oB]⟩
noncomputable def cfg:Cfg:=cf (cx [⟨12,Aa6.sig,Aa6.F⟩,⟨14,Ag1.sig,Ag1.F⟩,⟨37,Ai0.sig,Ai0.F⟩])
noncomputable def fin:=finK cfg.c sig [.tmp 4]
noncomputable def F (d:SF×SF×Unit):OB:=anyK (a9e cfg fin (bd f13) (a6D sig.ps d 28))
variable (a_1:LL) (a_2:Int) (a_3:LI) (a_4:LM) (b_5:LL) (b_6:Int) (b_7:LI) (b_8:LM)
noncomputable def T:OB:=(Ag1.F (a_1,b_5,())).bind fun r9=>if (!r9.1.1)=true then some ((false,()),())else if (a_2 !=b_6)=true then some ((false,()),())else(Aa6.F (a_3,b_7,())).bind fun r10=>if (!r10.1.1)=true then some ((false,()),())else(Ai0.F (a_4,b_8,())).bind fun r11=>if (!r11.1.1)=true then some ((false,()),())else some ((true,()),())
theorem eq:F ((a_1,(a_2,(a_3,a_4))),(b_5,(b_6,(b_7,b_8))),())=T a_1 a_2 a_3 a_4 b_5 b_6 b_7 b_8:=eq_any fun k=>by kernel_rfl
theorem S:a3E prog ⟨13,sig,F⟩:=sound_k (res:=[.tmp 4]) func13 (cok (cM ⟨Aa6.S,cM ⟨Ag1.S,cM ⟨Ai0.S,nM⟩⟩⟩))
end Ap4
namespace Aa9
noncomputable def sig:Sig:=⟨[.wr false tL .deep,pI],[oI]⟩
noncomputable def cfg:Cfg:=⟨cx [],[0],[],fun id=>match id with|2=>([0,1,5],[0])|_=>([],[]),fun _=>[]⟩
noncomputable def fin:=finK cfg.c sig [.tmp 4]
noncomputable def F (d:LI×Int×Unit):Option ((Int×Unit)×(LI×Unit)):=anyK (a9e cfg fin (bd f17) (a6D sig.ps d 19))
variable (k:Nat) (i3 i4:Int) (x5:LI)
noncomputable def l2:Option ((Int×Unit)×(LI×Unit)):=Vm.runT cfg fin k [.inLoop (sub [1,0,1,0,0] (bd f17)),.inBlock 0,.code (sub [1,1] (bd f17))] ⟨[.view 0 (.root 0) 1 false,vI i3,dD,dD,dD,vI i4]++a8o 13,[(0,⟨false,[dL x5]⟩)]⟩
theorem l2_eq:l2 (k+1) i3 i4 x5=if (decide (i4<(x5.length:Int)))=true then if 0≤i4∧i4<(x5.length:Int)then l2 k (IntKind.i64.wrap (i3+1)) (IntKind.i64.wrap (i4+1)) (x5.set i4.toNat i3)else none else some ((i3,()),(x5,())):=by kernel_rfl
variable (a_1:LI) (k_2:Int)
noncomputable def T:Option ((Int×Unit)×(LI×Unit)):=l2 k k_2 (0:Int) a_1
theorem of {r} (h:Ev (fun k=>T k a_1 k_2) r):F (a_1,k_2,())=some r:=Ev.run (fun k=>by kernel_rfl) h
theorem S:a3E prog ⟨17,sig,F⟩:=sound_k (res:=[.tmp 4]) func17 (cok nM)
end Aa9
namespace Al9
noncomputable def sig:Sig:=⟨[.wr false tQ .deep,pI],[oI]⟩
noncomputable def cfg:Cfg:=⟨cx [⟨17,Aa9.sig,Aa9.F⟩],[0],[],fun id=>match id with|2=>([0,1,5],[0])|_=>([],[]),fun _=>[]⟩
noncomputable def fin:=finK cfg.c sig [.tmp 4]
noncomputable def F (d:LL×Int×Unit):Option ((Int×Unit)×(LL×Unit)):=anyK (a9e cfg fin (bd f40) (a6D sig.ps d 19))
variable (k:Nat) (i3 i4:Int) (x5:LL)
noncomputable def l2:Option ((Int×Unit)×(LL×Unit)):=Vm.runT cfg fin k [.inLoop (sub [1,0,1,0,0] (bd f40)),.inBlock 0,.code (sub [1,1] (bd f40))] ⟨[.view 0 (.root 0) 1 false,vI i3,dD,dD,dD,vI i4]++a8o 13,[(0,⟨false,[dQ x5]⟩)]⟩
theorem l2_eq:l2 (k+1) i3 i4 x5=if (decide (i4<(x5.length:Int)))=true then if 0≤i4∧i4<(x5.length:Int)then(Aa9.F (x5.getD i4.toNat ([]:LI),i3,())).bind fun r6=>l2 k r6.1.1 (IntKind.i64.wrap (i4+1)) (x5.set i4.toNat r6.2.1)else none else some ((i3,()),(x5,())):=by kernel_rfl
variable (a_1:LL) (k_2:Int)
noncomputable def T:Option ((Int×Unit)×(LL×Unit)):=l2 k k_2 (0:Int) a_1
theorem of {r} (h:Ev (fun k=>T k a_1 k_2) r):F (a_1,k_2,())=some r:=Ev.run (fun k=>by kernel_rfl) h
theorem S:a3E prog ⟨40,sig,F⟩:=sound_k (res:=[.tmp 4]) func40 (cok (cM ⟨Aa9.S,nM⟩))
end Al9
namespace Ag2
noncomputable def sig:Sig:=⟨[.wr true tQ .deep,pI],[oI]⟩
noncomputable def cfg:Cfg:=⟨cx [⟨40,Al9.sig,Al9.F⟩],[0],[],fun _=>([],[]),fun _=>[]⟩
noncomputable def fin:=finK cfg.c sig [.tmp 4]
noncomputable def F (d:LL×Int×Unit):Option ((Int×Unit)×(LL×Unit)):=anyK (a9e cfg fin (bd f16) (a6D sig.ps d 10))
variable (a_1:LL) (k_2:Int)
noncomputable def T:Option ((Int×Unit)×(LL×Unit)):=(Al9.F (a_1,k_2,())).bind fun r3=>some ((r3.1.1,()),(r3.2.1,()))
theorem eq:F (a_1,k_2,())=T a_1 k_2:=eq_any fun k=>by kernel_rfl
theorem S:a3E prog ⟨16,sig,F⟩:=sound_k (res:=[.tmp 4]) func16 (cok (cM ⟨Al9.S,nM⟩))
end Ag2
namespace Am0
noncomputable def sig:Sig:=⟨[.wr false (.sl TMatrix) .deep,pI],[oI]⟩
noncomputable def cfg:Cfg:=⟨cx [⟨17,Aa9.sig,Aa9.F⟩],[0],[],fun id=>match id with|2=>([0,1,5],[0])|_=>([],[]),fun _=>[]⟩
noncomputable def fin:=finK cfg.c sig [.tmp 4]
noncomputable def F (d:LM×Int×Unit):Option ((Int×Unit)×(LM×Unit)):=anyK (a9e cfg fin (bd f39) (a6D sig.ps d 41))
variable (k:Nat) (i3 i4:Int) (x5:LM)
noncomputable def l2:Option ((Int×Unit)×(LM×Unit)):=Vm.runT cfg fin k [.inLoop (sub [1,0,1,0,0] (bd f39)),.inBlock 0,.code (sub [1,1] (bd f39))] ⟨[.view 0 (.root 0) 1 false,vI i3,dD,dD,dD,vI i4]++a8o 35,[(0,⟨false,[⟨(.sl TMatrix),.deep,x5⟩]⟩)]⟩
theorem l2_eq:l2 (k+1) i3 i4 x5=if (decide (i4<(x5.length:Int)))=true then if 0≤i4∧i4<(x5.length:Int)then if 0≤i4∧i4<((x5.set i4.toNat (i3,(x5.getD i4.toNat (0,0,0,([]:LI))).2)).length:Int)then let y6:LM:=(x5.set i4.toNat (i3,(x5.getD i4.toNat (0,0,0,([]:LI))).2)).set i4.toNat (((x5.set i4.toNat (i3,(x5.getD i4.toNat (0,0,0,([]:LI))).2)).getD i4.toNat (0,0,0,([]:LI))).1,(IntKind.i64.wrap (i3+1),(((x5.set i4.toNat (i3,(x5.getD i4.toNat (0,0,0,([]:LI))).2)).getD i4.toNat (0,0,0,([]:LI))).2).2));if 0≤i4∧i4<(y6.length:Int)then let y7:LM:=y6.set i4.toNat ((y6.getD i4.toNat (0,0,0,([]:LI))).1,(((y6.getD i4.toNat (0,0,0,([]:LI))).2).1,(IntKind.i64.wrap ((IntKind.i64.wrap (i3+1))+1),(((y6.getD i4.toNat (0,0,0,([]:LI))).2).2).2)));if 0≤i4∧i4<(y7.length:Int)then(Aa9.F ((((y7.getD i4.toNat (0,0,0,([]:LI))).2).2).2,IntKind.i64.wrap ((IntKind.i64.wrap ((IntKind.i64.wrap (i3+1))+1))+1),())).bind fun r8=>l2 k r8.1.1 (IntKind.i64.wrap (i4+1)) (y7.set i4.toNat ((y7.getD i4.toNat (0,0,0,([]:LI))).1,(((y7.getD i4.toNat (0,0,0,([]:LI))).2).1,((((y7.getD i4.toNat (0,0,0,([]:LI))).2).2).1,r8.2.1))))else none else none else none else none else some ((i3,()),(x5,())):=by kernel_rfl
variable (a_1:LM) (k_2:Int)
noncomputable def T:Option ((Int×Unit)×(LM×Unit)):=l2 k k_2 (0:Int) a_1
theorem of {r} (h:Ev (fun k=>T k a_1 k_2) r):F (a_1,k_2,())=some r:=Ev.run (fun k=>by kernel_rfl) h
theorem S:a3E prog ⟨39,sig,F⟩:=sound_k (res:=[.tmp 4]) func39 (cok (cM ⟨Aa9.S,nM⟩))
end Am0
namespace Ap5
noncomputable def sig:Sig:=⟨[.wr true TSheaf .deep,pI],[oI]⟩
noncomputable def cfg:Cfg:=⟨cx [⟨16,Ag2.sig,Ag2.F⟩,⟨17,Aa9.sig,Aa9.F⟩,⟨39,Am0.sig,Am0.F⟩],[0],[],fun _=>([],[]),fun _=>[]⟩
noncomputable def fin:=finK cfg.c sig [.tmp 4]
noncomputable def F (d:SF×Int×Unit):Option ((Int×Unit)×(SF×Unit)):=anyK (a9e cfg fin (bd f15) (a6D sig.ps d 18))
variable (a_1:LL) (a_2:Int) (a_3:LI) (a_4:LM) (k_5:Int)
noncomputable def T:Option ((Int×Unit)×(SF×Unit)):=(Ag2.F (a_1,k_5,())).bind fun r6=>(Aa9.F (a_3,r6.1.1,())).bind fun r7=>(Am0.F (a_4,r7.1.1,())).bind fun r8=>some ((r8.1.1,()),((r6.2.1,(a_2,(r7.2.1,r8.2.1))),()))
theorem eq:F ((a_1,(a_2,(a_3,a_4))),k_5,())=T a_1 a_2 a_3 a_4 k_5:=eq_any fun k=>by kernel_rfl
theorem S:a3E prog ⟨15,sig,F⟩:=sound_k (res:=[.tmp 4]) func15 (cok (cM ⟨Ag2.S,cM ⟨Aa9.S,cM ⟨Am0.S,nM⟩⟩⟩))
end Ap5
namespace Aj3
noncomputable def sig:Sig:=⟨[pL,pI],[oI]⟩
noncomputable def cfg:Cfg:=cl (cx []) fun id=>match id with|2=>([0,1,5],[])|_=>([],[])
noncomputable def fin:=finK cfg.c sig [.tmp 4]
noncomputable def F (d:LI×Int×Unit):OI:=anyK (a9e cfg fin (bd f18) (a6D sig.ps d 21))
variable (k:Nat) (x3:LI) (i4 i5:Int)
noncomputable def l2:OI:=Vm.runT cfg fin k [.inLoop (sub [1,0,1,0,0] (bd f18)),.inBlock 0,.code (sub [1,1] (bd f18))] ⟨[vL x3,vI i4,dD,dD,dD,vI i5]++a8o 15,[]⟩
theorem l2_eq:l2 (k+1) x3 i4 i5=if (decide (i5<(x3.length:Int)))=true then if 0≤i5∧i5<(x3.length:Int)then if ((x3.getD i5.toNat 0:Int)!=i4)=true then some (((-1:Int),()),())else l2 k x3 (IntKind.i64.wrap (i4+1)) (IntKind.i64.wrap (i5+1))else none else some ((i4,()),()):=by kernel_rfl
variable (a_1:LI) (k_2:Int)
noncomputable def T:OI:=l2 k a_1 k_2 (0:Int)
theorem of {r} (h:Ev (fun k=>T k a_1 k_2) r):F (a_1,k_2,())=some r:=Ev.run (fun k=>by kernel_rfl) h
theorem S:a3E prog ⟨18,sig,F⟩:=sound_k (res:=[.tmp 4]) func18 (cok nM)
end Aj3
namespace An1
noncomputable def sig:Sig:=⟨[pS,pC,pC,pL],[oB]⟩
noncomputable def cfg:Cfg:=cf ⟨a2e tabl,[⟨5,An2.sig,An2.F⟩,⟨6,Ag3.sig,Ag3.F⟩,⟨7,Am2.sig,Am2.F⟩,⟨8,Aj4.sig,Aj4.F⟩,⟨9,Ad8.sig,Ad8.F⟩,⟨10,Ab6.sig,Ab6.F⟩,⟨11,Ad6.sig,Ad6.F⟩,⟨12,Aa6.sig,Aa6.F⟩,⟨13,Ap4.sig,Ap4.F⟩,⟨14,Ag1.sig,Ag1.F⟩,⟨15,Ap5.sig,Ap5.F⟩,⟨16,Ag2.sig,Ag2.F⟩,⟨17,Aa9.sig,Aa9.F⟩,⟨18,Aj3.sig,Aj3.F⟩],[],[],[],[10,21]⟩
noncomputable def fin:=finK cfg.c sig [.tmp 8]
noncomputable def F (d:SF×LL×LL×LI×Unit):OB:=anyK (a9e cfg fin (bd f3) (a6D sig.ps d 163))
variable (toArray_1:LL) (toArray_2:Int) (toArray_3:LI) (toArray_4:LM) (a_5 a_6:LL) (a_7:LI)
noncomputable def T:OB:=if (decide ((a_7.length:Int)>1048576))=true then some ((true,()),())else(An2.F ((toArray_1,(toArray_2,(toArray_3,toArray_4))),(1048576:Int),())).bind fun r8=>if (decide (r8.1.1<0))=true then some ((true,()),())else(Ag3.F (a_5,r8.1.1,())).bind fun r9=>if (decide (r9.1.1<0))=true then some ((true,()),())else(Ag3.F (a_6,r9.1.1,())).bind fun r10=>if (decide (r10.1.1<0))=true then some ((true,()),())else(Aj4.F ((toArray_1,(toArray_2,(toArray_3,toArray_4))),())).bind fun r11=>(Ad8.F (a_5,())).bind fun r12=>(Ad8.F (a_6,())).bind fun r13=>(Ab6.F (a_7,())).bind fun r14=>(Am2.F (r11.1.1,r12.1.1,r13.1.1,r14.1.1,())).bind fun r15=>(Aj4.F ((toArray_1,(toArray_2,(toArray_3,toArray_4))),())).bind fun r16=>(Ad8.F (a_5,())).bind fun r17=>(Ad8.F (a_6,())).bind fun r18=>(Ab6.F (a_7,())).bind fun r19=>(Ad6.F (r16.1.1,r17.1.1,r18.1.1,r19.1.1,())).bind fun r20=>(Aa6.F (r20.1.1,r15.1.1,())).bind fun r21=>if (!r21.1.1)=true then some ((false,()),())else if (r20.1.2.1 !=r15.1.2.1)=true then some ((false,()),())else(Aj4.F ((toArray_1,(toArray_2,(toArray_3,toArray_4))),())).bind fun r22=>(Ap4.F (r16.1.1,r22.1.1,())).bind fun r23=>if (!r23.1.1)=true then some ((false,()),())else(Ad8.F (a_5,())).bind fun r24=>(Ag1.F (r17.1.1,r24.1.1,())).bind fun r25=>if (!r25.1.1)=true then some ((false,()),())else(Ad8.F (a_6,())).bind fun r26=>(Ag1.F (r18.1.1,r26.1.1,())).bind fun r27=>if (!r27.1.1)=true then some ((false,()),())else(Ab6.F (a_7,())).bind fun r28=>(Aa6.F (r19.1.1,r28.1.1,())).bind fun r29=>if (!r29.1.1)=true then some ((false,()),())else(Ap5.F (r16.1.1,(1:Int),())).bind fun r30=>(Ag2.F (r17.1.1,r30.1.1,())).bind fun r31=>(Ag2.F (r18.1.1,r31.1.1,())).bind fun r32=>(Aa9.F (r19.1.1,r32.1.1,())).bind fun r33=>if (decide (r33.1.1<0))=true then some ((false,()),())else(Aa6.F (r20.1.1,r15.1.1,())).bind fun r34=>if (!r34.1.1)=true then some ((false,()),())else if (r20.1.2.1 !=r15.1.2.1)=true then some ((false,()),())else(Aa9.F (r20.1.1,(1:Int),())).bind fun r35=>(Aj3.F (r35.2.1,(1:Int),())).bind fun r36=>if (decide (r36.1.1<0))=true then some ((false,()),())else if (r36.1.1 !=r35.1.1)=true then some ((false,()),())else(Aj4.F ((toArray_1,(toArray_2,(toArray_3,toArray_4))),())).bind fun r37=>(Ad8.F (a_5,())).bind fun r38=>(Ad8.F (a_6,())).bind fun r39=>(Ab6.F (a_7,())).bind fun r40=>(Ad6.F (r37.1.1,r38.1.1,r39.1.1,r40.1.1,())).bind fun r41=>(Aa6.F (r41.1.1,r15.1.1,())).bind fun r42=>if (!r42.1.1)=true then some ((false,()),())else if (r41.1.2.1 !=r15.1.2.1)=true then some ((false,()),())else(Aj3.F (r35.2.1,(1:Int),())).bind fun r43=>if (decide (r43.1.1<0))=true then some ((false,()),())else if (r43.1.1 !=r35.1.1)=true then some ((false,()),())else some ((true,()),())
theorem eq:F ((toArray_1,(toArray_2,(toArray_3,toArray_4))),a_5,a_6,a_7,())=T toArray_1 toArray_2 toArray_3 toArray_4 a_5 a_6 a_7:=eq_any fun k=>by kernel_rfl
theorem S:a3E prog ⟨3,sig,F⟩:=sound_k (res:=[.tmp 8]) func3 (⟨nM,mixed_ok,tab_ok tab_good,cM ⟨An2.S,cM ⟨Ag3.S,cM ⟨Am2.S,cM ⟨Aj4.S,cM ⟨Ad8.S,cM ⟨Ab6.S,cM ⟨Ad6.S,cM ⟨Aa6.S,cM ⟨Ap4.S,cM ⟨Ag1.S,cM ⟨Ap5.S,cM ⟨Ag2.S,cM ⟨Aa9.S,cM ⟨Aj3.S,nM⟩⟩⟩⟩⟩⟩⟩⟩⟩⟩⟩⟩⟩⟩,nM,nM⟩)
end An1
end Go.Proofs.YtpdlhcgmejadnaaGreat
