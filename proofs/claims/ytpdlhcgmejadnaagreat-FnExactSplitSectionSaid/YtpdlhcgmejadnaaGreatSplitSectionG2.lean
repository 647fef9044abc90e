/- The functions, as the machine runs them. -/
import Derived.Test.YtpdlhcgmejadnaaGreatSplitSectionG1
import Derived.Test.YtpdlhcgmejadnaaGreatProg
import Derived.KernelRfl
import Derived.WalkKit
import Derived.Lib.Walk
import Derived.Lib.AppendZeros
import Derived.Sort.WalkA
import Derived.Sort.WalkB2
import Derived.Sort.WalkB12
import Derived.Deep.LoopGhost
import Derived.Shelf.RegionOpenPlain
import Derived.Lib.SliceRun
open Go.IntKind renaming i64->za
open List renaming replicate->zb
namespace Go.Proofs.YtpdlhcgmejadnaaGreat
open Go Go.Vm
set_option linter.unusedVariables false
set_option linter.unusedSimpArgs false
open Go.Proofs.Tryz
namespace Ar8
noncomputable def sig:Sig:=⟨[pI],[oB]⟩
noncomputable def cfg:Cfg:=cf (cx [⟨205,Ab9.sig,Ab9.F⟩])
noncomputable def fin:=finK cfg.c sig [.tmp 2]
noncomputable def F (d:Int×Unit):OB:=anyK (a9u cfg fin (bd f206) (a6P sig.ps d 6))
variable (n_1:Int)
noncomputable def T:OB:=(Ab9.F (n_1,(0:Int),(3:Int),())).bind fun r2=>some ((!r2.1.1,()),())
theorem eq:F (n_1,())=T n_1:=eq_any fun k=>by kernel_rfl
theorem S:a3P prog ⟨206,sig,F⟩:=sound_k (res:=[.tmp 2]) func206 (cok (cM ⟨Ab9.S,nM⟩))
noncomputable def cloG (y:Unit) (d:Int×Unit):Option (Bool×Unit):=(F (b0b [] [(false,tI)] d y)).map (·.1)
noncomputable def clo:Clo:=⟨206,⟨[(false,tI)],[(.val false,.bool,.deep)]⟩,[],cloG⟩
theorem cloS:a2t prog clo:=sound_clo (s:=⟨[(false,tI)],[(.val false,.bool,.deep)]⟩) (caps:=[]) rfl S
end Ar8
namespace Ag4
noncomputable def sig:Sig:=⟨[pC,pL],[oB]⟩
noncomputable def cfg:Cfg:=cl (⟨a2n tabl,[⟨50,Aa4.sig,Aa4.F⟩,⟨149,Ad6.sig,Ad6.F⟩],[Ar8.clo],[],[],[]⟩) fun id=>match id with|4=>([1,2,16],[8])|_=>([],[])
noncomputable def fin:=finK cfg.c sig [.tmp 4]
noncomputable def F (d:LL×LI×Unit):OB:=anyK (a9u cfg fin (bd f181) (a6P sig.ps d 26))
variable (k:Nat) (x4:LI) (i5:Int) (x6:LL)
noncomputable def l4:OB:=Vm.runT cfg fin k [.inLoop (sub [1,1,0,1,0,0] (bd f181)),.inBlock 0,.code (sub [1,1,1] (bd f181))] ⟨[dD,vL x4,.ref 8 (.root 0),dD,dD,dD,dD,dD,dD,dD,dD,dD,dD,dD,dD,dD,vI i5]++a9B 9,[(8,⟨true,[cQ x6]⟩)]⟩
theorem l4_eq:l4 (k+1) x4 i5 x6=if (decide (i5<4))=true then(Aa4.F ((x6,(0,(x4,[]))),i5,())).bind fun r7=>if (decide (r7.1.1>32))=true then some ((false,()),())else l4 k x4 (za.wrap (i5+1)) x6 else some ((true,()),()):=by kernel_rfl
variable (c_1:LL) (stalks_2:LI)
noncomputable def T:OB:=if ((stalks_2.length:Int)!=(c_1.length:Int))=true then some ((false,()),())else(Ad6.F (stalks_2,Ar8.cloG (()),())).bind fun r3=>if r3.1.1=true then some ((false,()),())else l4 k stalks_2 (0:Int) c_1
theorem of {r} (h:Ev (fun k=>T k c_1 stalks_2) r):F (c_1,stalks_2,())=some r:=Ev.run (fun k=>by kernel_rfl) h
theorem S:a3P prog ⟨181,sig,F⟩:=sound_k (res:=[.tmp 4]) func181 (⟨nM,mixed_ok,tab_ok tab_good,cM ⟨Aa4.S,cM ⟨Ad6.S,nM⟩⟩,cM ⟨Ar8.cloS,nM⟩,nM⟩)
end Ag4
namespace As6
noncomputable def sig:Sig:=⟨[pI,pI],[oB]⟩
noncomputable def cfg:Cfg:=cf (cx [⟨205,Ab9.sig,Ab9.F⟩])
noncomputable def fin:=finK cfg.c sig [.tmp 4]
noncomputable def F (d:Int×Int×Unit):OB:=anyK (a9u cfg fin (bd f189) (a6P sig.ps d 9))
variable (a_1 p_2:Int)
noncomputable def T:OB:=(Ab9.F (a_1,(0:Int),za.wrap (p_2-(1:Int)),())).bind fun r3=>some ((r3.1.1,()),())
theorem eq:F (a_1,p_2,())=T a_1 p_2:=eq_any fun k=>by kernel_rfl
theorem S:a3P prog ⟨189,sig,F⟩:=sound_k (res:=[.tmp 4]) func189 (cok (cM ⟨Ab9.S,nM⟩))
end As6
namespace As5
noncomputable def sig:Sig:=⟨[pI,.rptr tI],[oB]⟩
noncomputable def cfg:Cfg:=cf (cx [⟨189,As6.sig,As6.F⟩])
noncomputable def fin:=finK cfg.c sig [.tmp 3]
noncomputable def F (d:Int×Int×Unit):OB:=anyK (a9u cfg fin (bd f188) (a6P sig.ps d 8))
variable (a_1 a_2:Int)
noncomputable def T:OB:=(As6.F (a_1,a_2,())).bind fun r3=>some ((!r3.1.1,()),())
theorem eq:F (a_1,a_2,())=T a_1 a_2:=eq_any fun k=>by kernel_rfl
theorem S:a3P prog ⟨188,sig,F⟩:=sound_k (res:=[.tmp 3]) func188 (cok (cM ⟨As6.S,nM⟩))
noncomputable def cloG (y d:Int×Unit):Option (Bool×Unit):=(F (b0b [.rptr tI] [(false,tI)] d y)).map (·.1)
noncomputable def clo:Clo:=⟨188,⟨[(false,tI)],[(.val false,.bool,.deep)]⟩,[.rptr tI],cloG⟩
theorem cloS:a2t prog clo:=sound_clo (s:=⟨[(false,tI)],[(.val false,.bool,.deep)]⟩) (caps:=[.rptr tI]) rfl S
end As5
namespace Ai4
noncomputable def sig:Sig:=⟨[pL,pI],[oB]⟩
noncomputable def cfg:Cfg:=cf ⟨a2n tabl,[⟨149,Ad6.sig,Ad6.F⟩],[As5.clo],[],[],[]⟩
noncomputable def fin:=finK cfg.c sig [.tmp 4]
noncomputable def F (d:LI×Int×Unit):OB:=anyK (a9u cfg fin (bd f148) (a6P sig.ps d 9))
variable (list_1:LI) (p_2:Int)
noncomputable def T:OB:=(Ad6.F (list_1,As5.cloG (p_2,()),())).bind fun r3=>some ((!r3.1.1,()),())
theorem eq:F (list_1,p_2,())=T list_1 p_2:=eq_any fun k=>by kernel_rfl
theorem S:a3P prog ⟨148,sig,F⟩:=sound_k (res:=[.tmp 4]) func148 (⟨nM,mixed_ok,tab_ok tab_good,cM ⟨Ad6.S,nM⟩,cM ⟨As5.cloS,nM⟩,nM⟩)
end Ai4
namespace Ap4
noncomputable def sig:Sig:=⟨[pI],[oB]⟩
noncomputable def cfg:Cfg:=cf (cx [⟨205,Ab9.sig,Ab9.F⟩])
noncomputable def fin:=finK cfg.c sig [.tmp 2]
noncomputable def F (d:Int×Unit):OB:=anyK (a9u cfg fin (bd f229) (a6P sig.ps d 5))
variable (n_1:Int)
noncomputable def T:OB:=(Ab9.F (n_1,(0:Int),(32:Int),())).bind fun r2=>some ((r2.1.1,()),())
theorem eq:F (n_1,())=T n_1:=eq_any fun k=>by kernel_rfl
theorem S:a3P prog ⟨229,sig,F⟩:=sound_k (res:=[.tmp 2]) func229 (cok (cM ⟨Ab9.S,nM⟩))
end Ap4
namespace Ao8
noncomputable def sig:Sig:=⟨[pM],[oB]⟩
noncomputable def cfg:Cfg:=cf (cx [⟨81,Ab8.sig,Ab8.F⟩,⟨148,Ai4.sig,Ai4.F⟩,⟨180,Af7.sig,Af7.F⟩,⟨229,Ap4.sig,Ap4.F⟩])
noncomputable def fin:=finK cfg.c sig [.tmp 2]
noncomputable def F (d:MX×Unit):OB:=anyK (a9u cfg fin (bd f207) (a6P sig.ps d 34))
variable (m_1 m_2 m_3:Int) (m_4:LI)
noncomputable def T:OB:=(Af7.F (m_1,())).bind fun r5=>if r5.1.1=true then(Ap4.F (m_2,())).bind fun r6=>if r6.1.1=true then(Ap4.F (m_3,())).bind fun r7=>if r7.1.1=true then(Ab8.F (m_4,())).bind fun r8=>if (r8.1.1==(za.wrap (m_2*m_3)))=true then(Ai4.F (m_4,m_1,())).bind fun r9=>some ((r9.1.1,()),())else some ((false,()),())else some ((false,()),())else some ((false,()),())else some ((false,()),())
theorem eq:F ((m_1,(m_2,(m_3,m_4))),())=T m_1 m_2 m_3 m_4:=eq_any fun k=>by kernel_rfl
theorem S:a3P prog ⟨207,sig,F⟩:=sound_k (res:=[.tmp 2]) func207 (cok (cM ⟨Ab8.S,cM ⟨Ai4.S,cM ⟨Af7.S,cM ⟨Ap4.S,nM⟩⟩⟩⟩))
end Ao8
namespace Ap3
noncomputable def sig:Sig:=⟨[pM,pI,pI,pI],[oB]⟩
noncomputable def cfg:Cfg:=cf (cx [⟨207,Ao8.sig,Ao8.F⟩])
noncomputable def fin:=finK cfg.c sig [.tmp 8]
noncomputable def F (d:MX×Int×Int×Int×Unit):OB:=anyK (a9u cfg fin (bd f182) (a6P sig.ps d 29))
variable (m_1 m_2 m_3:Int) (m_4:LI) (p_5 from_6 to_7:Int)
noncomputable def T:OB:=(Ao8.F ((m_1,(m_2,(m_3,m_4))),())).bind fun r8=>if r8.1.1=true then if (m_1==p_5)=true then if (m_2==to_7)=true then some ((m_3==from_6,()),())else some ((false,()),())else some ((false,()),())else some ((false,()),())
theorem eq:F ((m_1,(m_2,(m_3,m_4))),p_5,from_6,to_7,())=T m_1 m_2 m_3 m_4 p_5 from_6 to_7:=eq_any fun k=>by kernel_rfl
theorem S:a3P prog ⟨182,sig,F⟩:=sound_k (res:=[.tmp 8]) func182 (cok (cM ⟨Ao8.S,nM⟩))
end Ap3
namespace Af2
noncomputable def sig:Sig:=⟨[pS],[oB]⟩
noncomputable def cfg:Cfg:=cl (cx [⟨106,Ab6.sig,Ab6.F⟩,⟨158,Ae3.sig,Ae3.F⟩,⟨180,Af7.sig,Af7.F⟩,⟨181,Ag4.sig,Ag4.F⟩,⟨182,Ap3.sig,Ap3.F⟩]) fun id=>match id with|5=>([1,3,27,28,29],[4,12])|_=>([],[])
noncomputable def fin:=finK cfg.c sig [.tmp 2]
noncomputable def F (d:SF×Unit):OB:=anyK (a9u cfg fin (bd f141) (a6P sig.ps d 69))
variable (k:Nat) (i9 i10:Int) (x11:LL) (i12:Int) (x13:LI) (x14:LM) (x15:List (Int×Int×Int))
noncomputable def l5:OB:=Vm.runT cfg fin k [.inLoop (sub [1,1,1,0,1,0,0] (bd f141)),.inBlock 0,.code (sub [1,1,1,1] (bd f141))] ⟨[dD,.ref 4 (.root 0),dD,.view 12 (.root 0) 1 false,dD,dD,dD,dD,dD,dD,dD,dD,dD,dD,dD,dD,dD,dD,dD,dD,dD,dD,dD,dD,dD,dD,dD,.view 12 (.root 0) 1 false,vI i9,vI i10]++a9B 39,[(4,⟨true,[cQ x11,cI i12,cL x13,⟨(.sl TMatrix),.sh,x14⟩]⟩),(12,⟨false,[⟨(.sl TEdge),.deep,x15⟩]⟩)]⟩
theorem l5_eq:l5 (k+1) i9 i10 x11 i12 x13 x14 x15=if (decide (i10<i9))=true then if 0≤i10∧i10<(x15.length:Int)then if (decide (i10≥(x14.length:Int)))=true then some ((false,()),())else if 0≤i10∧i10<(x14.length:Int)then if 0≤(((x15.getD i10.toNat (0,0,0)).2).2:Int)∧(((x15.getD i10.toNat (0,0,0)).2).2:Int)<(x13.length:Int)then if 0≤((x15.getD i10.toNat (0,0,0)).1:Int)∧((x15.getD i10.toNat (0,0,0)).1:Int)<(x13.length:Int)then(Ap3.F (x14.getD i10.toNat (0,0,0,([]:LI)),i12,x13.getD (((x15.getD i10.toNat (0,0,0)).2).2:Int).toNat 0,x13.getD ((x15.getD i10.toNat (0,0,0)).1:Int).toNat 0,())).bind fun r16=>if (!r16.1.1)=true then some ((false,()),())else l5 k i9 (za.wrap (i10+1)) x11 i12 x13 x14 x15 else none else none else none else none else some (((x15.length:Int)==(x14.length:Int),()),()):=by kernel_rfl
variable (t_1:LL) (t_2:Int) (t_3:LI) (t_4:LM)
noncomputable def T:OB:=(Ab6.F (t_1,())).bind fun r5=>if (!r5.1.1)=true then some ((false,()),())else(Af7.F (t_2,())).bind fun r6=>if (!r6.1.1)=true then some ((false,()),())else(Ag4.F (t_1,t_3,())).bind fun r7=>if (!r7.1.1)=true then some ((false,()),())else(Ae3.F (t_1,())).bind fun r8=>l5 k (r8.1.1.length:Int) (0:Int) t_1 t_2 t_3 t_4 r8.1.1
theorem of {r} (h:Ev (fun k=>T k t_1 t_2 t_3 t_4) r):F ((t_1,(t_2,(t_3,t_4))),())=some r:=Ev.run (fun k=>by kernel_rfl) h
theorem S:a3P prog ⟨141,sig,F⟩:=sound_k (res:=[.tmp 2]) func141 (cok (cM ⟨Ab6.S,cM ⟨Ae3.S,cM ⟨Af7.S,cM ⟨Ag4.S,cM ⟨Ap3.S,nM⟩⟩⟩⟩⟩))
end Af2
namespace Ao6
noncomputable def sig:Sig:=⟨[pM,pM],[oB]⟩
noncomputable def cfg:Cfg:=cf (cx [⟨154,Ac7.sig,Ac7.F⟩])
noncomputable def fin:=finK cfg.c sig [.tmp 4]
noncomputable def F (d:MX×MX×Unit):OB:=anyK (a9u cfg fin (bd f183) (a6P sig.ps d 31))
variable (a_1 a_2 a_3:Int) (a_4:LI) (b_5 b_6 b_7:Int) (b_8:LI)
noncomputable def T:OB:=if (a_1==b_5)=true then if (a_2==b_6)=true then if (a_3==b_7)=true then(Ac7.F (a_4,b_8,())).bind fun r9=>some ((r9.1.1,()),())else some ((false,()),())else some ((false,()),())else some ((false,()),())
theorem eq:F ((a_1,(a_2,(a_3,a_4))),(b_5,(b_6,(b_7,b_8))),())=T a_1 a_2 a_3 a_4 b_5 b_6 b_7 b_8:=eq_any fun k=>by kernel_rfl
theorem S:a3P prog ⟨183,sig,F⟩:=sound_k (res:=[.tmp 4]) func183 (cok (cM ⟨Ac7.S,nM⟩))
end Ao6
namespace Ad1
noncomputable def sig:Sig:=⟨[pS],[oI,oI,oB]⟩
noncomputable def cfg:Cfg:=cl (cx [⟨77,Ab7.sig,Ab7.F⟩,⟨78,Ac2.sig,Ac2.F⟩,⟨164,Ag6.sig,Ag6.F⟩,⟨183,Ao6.sig,Ao6.F⟩]) fun id=>match id with|2=>([1,15,16,17],[4])|8=>([1,6,7,8,15,16,17,31,32],[4,32])|11=>([1,6,7,8,9,10,15,16,17,31,32],[4,32])|_=>([],[])
noncomputable def fin:=finK cfg.c sig [.tmp 2,.tmp 3,.tmp 4]
noncomputable def F (d:SF×Unit):Option ((Int×Int×Bool×Unit)×(Unit)):=anyK (a9u cfg fin (bd f142) (a6P sig.ps d 86))
variable (k:Nat) (x5:LL) (i6 i7:Int) (x8:LL) (i9:Int) (x10:LI) (x11:LM)
noncomputable def l2:Option ((Int×Int×Bool×Unit)×(Unit)):=Vm.runT cfg fin k [.inLoop (sub [1,0,1,0,0] (bd f142)),.inBlock 0,.code (sub [1,1] (bd f142))] ⟨[dD,.ref 4 (.root 0),dD,dD,dD,dD,dD,dD,dD,dD,dD,dD,dD,dD,dD,vQ x5,vI i6,vI i7]++a9B 68,[(4,⟨true,[cQ x8,cI i9,cL x10,⟨(.sl TMatrix),.sh,x11⟩]⟩)]⟩
variable (x13:LI) (i14:Int) (x15:LL) (i16 i17 i18 i19:Int) (x20:LL) (i21:Int) (x22:LI) (x23:LM) (x24:LI)
noncomputable def l8:Option ((Int×Int×Bool×Unit)×(Unit)):=Vm.runT cfg fin k [.inLoop (sub [1,0,1,0,0,1,1,0,0,1,1,1,1,1,0,0] (bd f142)),.inBlock 2,.inBlock 1,.code (sub [1,0,1,0,0,1,1,1] (bd f142)),.inLoop (sub [1,0,1,0,0] (bd f142)),.inBlock 0,.code (sub [1,1] (bd f142))] ⟨[dD,.ref 4 (.root 0),dD,dD,dD,dD,vL x13,vI i14,.view 32 (.root 0) 1 false,dD,dD,dD,dD,dD,dD,vQ x15,vI i16,vI i17,dD,dD,dD,dD,dD,dD,dD,dD,dD,dD,dD,dD,dD,vI i18,vI i19]++a9B 53,[(4,⟨true,[cQ x20,cI i21,cL x22,⟨(.sl TMatrix),.sh,x23⟩]⟩),(32,⟨false,[dL x24]⟩)]⟩
variable (x25:LI) (i26 i27 i28:Int) (x29:LL) (i30 i31 i32 i33:Int) (x34:LL) (i35:Int) (x36:LI) (x37:LM) (x38:LI)
noncomputable def l11:Option ((Int×Int×Bool×Unit)×(Unit)):=Vm.runT cfg fin k [.inLoop (sub [1,0,1,0,0,1,1,0,0,1,1,1,1,1,0,0,1,1,0,0,1,1,0,0] (bd f142)),.inBlock 4,.inBlock 3,.code (sub [1,0,1,0,0,1,1,0,0,1,1,1,1,1,0,0,1,1,1] (bd f142)),.inLoop (sub [1,0,1,0,0,1,1,0,0,1,1,1,1,1,0,0] (bd f142)),.inBlock 2,.inBlock 1,.code (sub [1,0,1,0,0,1,1,1] (bd f142)),.inLoop (sub [1,0,1,0,0] (bd f142)),.inBlock 0,.code (sub [1,1] (bd f142))] ⟨[dD,.ref 4 (.root 0),dD,dD,dD,dD,vL x25,vI i26,.view 32 (.root 0) 1 false,vI i27,vI i28,dD,dD,dD,dD,vQ x29,vI i30,vI i31,dD,dD,dD,dD,dD,dD,dD,dD,dD,dD,dD,dD,dD,vI i32,vI i33]++a9B 53,[(4,⟨true,[cQ x34,cI i35,cL x36,⟨(.sl TMatrix),.sh,x37⟩]⟩),(32,⟨false,[dL x38]⟩)]⟩
theorem l2_eq:l2 (k+1) x5 i6 i7 x8 i9 x10 x11=if (decide (i7<i6))=true then if 0≤i7∧i7<(x5.length:Int)then if (decide (((x5.getD i7.toNat ([]:LI)).length:Int)<3))=true then l2 k x5 i6 (za.wrap (i7+1)) x8 i9 x10 x11 else(Ab7.F (x8,i7,())).bind fun r12=>l8 k (x5.getD i7.toNat ([]:LI)) i7 x5 i6 i7 ((x5.getD i7.toNat ([]:LI)).length:Int) (0:Int) x8 i9 x10 x11 r12.1.1 else none else some (((0:Int),((0:Int),(false,()))),()):=by kernel_rfl
theorem l8_eq:l8 (k+1) x13 i14 x15 i16 i17 i18 i19 x20 i21 x22 x23 x24=if (decide (i19<i18))=true then l11 k x13 i14 i19 (za.wrap (i19+1)) x15 i16 i17 i18 i19 x20 i21 x22 x23 x24 else l2 k x15 i16 (za.wrap (i17+1)) x20 i21 x22 x23:=by kernel_rfl
theorem l11_eq:l11 (k+1) x25 i26 i27 i28 x29 i30 i31 i32 i33 x34 i35 x36 x37 x38=if (decide (i28<(x25.length:Int)))=true then(Ac2.F ((x34,(i35,(x36,x37))),i26,i27,())).bind fun r39=>if 0≤i27∧i27<(x38.length:Int)then(Ac2.F ((x34,(i35,(x36,x37))),(x38.getD i27.toNat 0:Int),za.wrap (i28-1),())).bind fun r40=>(Ag6.F (r39.1.1,r40.1.1,())).bind fun r41=>(Ac2.F ((x34,(i35,(x36,x37))),i26,i28,())).bind fun r42=>if 0≤i28∧i28<(x38.length:Int)then(Ac2.F ((x34,(i35,(x36,x37))),(x38.getD i28.toNat 0:Int),i27,())).bind fun r43=>(Ag6.F (r42.1.1,r43.1.1,())).bind fun r44=>(Ao6.F (r41.1.1,r44.1.1,())).bind fun r45=>if (!r45.1.1)=true then if 0≤i27∧i27<(x38.length:Int)then(Ab7.F (x34,(x38.getD i27.toNat 0:Int),())).bind fun r46=>if 0≤(za.wrap (i28-1))∧(za.wrap (i28-1))<(r46.1.1.length:Int)then some ((i26,(r46.1.1.getD (za.wrap (i28-1)).toNat 0,(true,()))),())else none else none else l11 k x25 i26 i27 (za.wrap (i28+1)) x29 i30 i31 i32 i33 x34 i35 x36 x37 x38 else none else none else l8 k x25 i26 x29 i30 i31 i32 (za.wrap (i33+1)) x34 i35 x36 x37 x38:=by kernel_rfl
variable (t_1:LL) (t_2:Int) (t_3:LI) (t_4:LM)
noncomputable def T:Option ((Int×Int×Bool×Unit)×(Unit)):=l2 k t_1 (t_1.length:Int) (0:Int) t_1 t_2 t_3 t_4
theorem of {r} (h:Ev (fun k=>T k t_1 t_2 t_3 t_4) r):F ((t_1,(t_2,(t_3,t_4))),())=some r:=Ev.run (fun k=>by kernel_rfl) h
theorem S:a3P prog ⟨142,sig,F⟩:=sound_k (res:=[.tmp 2,.tmp 3,.tmp 4]) func142 (cok (cM ⟨Ab7.S,cM ⟨Ac2.S,cM ⟨Ag6.S,cM ⟨Ao6.S,nM⟩⟩⟩⟩))
end Ad1
namespace Ak2
noncomputable def sig:Sig:=⟨[pS],[oB]⟩
noncomputable def cfg:Cfg:=cf (cx [⟨141,Af2.sig,Af2.F⟩,⟨142,Ad1.sig,Ad1.F⟩])
noncomputable def fin:=finK cfg.c sig [.tmp 2]
noncomputable def F (d:SF×Unit):OB:=anyK (a9u cfg fin (bd f105) (a6P sig.ps d 17))
variable (s_1:LL) (s_2:Int) (s_3:LI) (s_4:LM)
noncomputable def T:OB:=(Af2.F ((s_1,(s_2,(s_3,s_4))),())).bind fun r5=>if (!r5.1.1)=true then some ((false,()),())else(Ad1.F ((s_1,(s_2,(s_3,s_4))),())).bind fun r6=>some ((!r6.1.2.2.1,()),())
theorem eq:F ((s_1,(s_2,(s_3,s_4))),())=T s_1 s_2 s_3 s_4:=eq_any fun k=>by kernel_rfl
theorem S:a3P prog ⟨105,sig,F⟩:=sound_k (res:=[.tmp 2]) func105 (cok (cM ⟨Af2.S,cM ⟨Ad1.S,nM⟩⟩))
end Ak2
namespace Al1
noncomputable def sig:Sig:=⟨[pQ,pQ,.fnx ⟨[(false,tL),(false,tL)],[oB]⟩],[oB]⟩
noncomputable def cfg:Cfg:=cl (cx []) fun id=>match id with|4=>([1,2,15,16,17],[])|_=>([],[])
noncomputable def fin:=finK cfg.c sig [.tmp 6]
noncomputable def F (d:LL×LL×((LI×LI×Unit)→Option (Bool×Unit))×Unit):OB:=anyK (a9u cfg fin (bd f208) (a6P sig.ps d 32))
variable (k:Nat) (x4:LL) (f5:(LI×LI×Unit)→Option (Bool×Unit)) (x6:LL) (i7 i8:Int)
noncomputable def l4:OB:=Vm.runT cfg fin k [.inLoop (sub [1,1,0,1,0,0] (bd f208)),.inBlock 0,.code (sub [1,1,1] (bd f208))] ⟨[dD,vQ x4,.fnx ⟨[(false,tL),(false,tL)],[(.val false,.bool,.deep)]⟩ f5,dD,dD,dD,dD,dD,dD,dD,dD,dD,dD,dD,dD,vQ x6,vI i7,vI i8]++a9B 14,[]⟩
theorem l4_eq:l4 (k+1) x4 f5 x6 i7 i8=if (decide (i8<i7))=true then if 0≤i8∧i8<(x6.length:Int)then if 0≤i8∧i8<(x4.length:Int)then(f5 (x6.getD i8.toNat ([]:LI),x4.getD i8.toNat ([]:LI),())).bind fun r9=>if (!r9.1)=true then some ((false,()),())else l4 k x4 f5 x6 i7 (za.wrap (i8+1))else none else none else some ((true,()),()):=by kernel_rfl
variable (s1_1 s2_2:LL) (f_3:(LI×LI×Unit)→Option (Bool×Unit))
noncomputable def T:OB:=if ((s1_1.length:Int)!=(s2_2.length:Int))=true then some ((false,()),())else l4 k s2_2 f_3 s1_1 (s1_1.length:Int) (0:Int)
theorem of {r} (h:Ev (fun k=>T k s1_1 s2_2 f_3) r):F (s1_1,s2_2,f_3,())=some r:=Ev.run (fun k=>by kernel_rfl) h
theorem S:a3P prog ⟨208,sig,F⟩:=sound_k (res:=[.tmp 6]) func208 (cok nM)
end Al1
namespace Ap1
noncomputable def sig:Sig:=⟨[pQ,pQ],[oB]⟩
noncomputable def cfg:Cfg:=cf ⟨a2n tabl,[⟨208,Al1.sig,Al1.F⟩],[Ac7.clo],[],[],[]⟩
noncomputable def fin:=finK cfg.c sig [.tmp 4]
noncomputable def F (d:LL×LL×Unit):OB:=anyK (a9u cfg fin (bd f187) (a6P sig.ps d 8))
variable (a_1 b_2:LL)
noncomputable def T:OB:=(Al1.F (a_1,b_2,Ac7.cloG (()),())).bind fun r3=>some ((r3.1.1,()),())
theorem eq:F (a_1,b_2,())=T a_1 b_2:=eq_any fun k=>by kernel_rfl
theorem S:a3P prog ⟨187,sig,F⟩:=sound_k (res:=[.tmp 4]) func187 (⟨nM,mixed_ok,tab_ok tab_good,cM ⟨Al1.S,nM⟩,cM ⟨Ac7.cloS,nM⟩,nM⟩)
end Ap1
namespace Ao5
noncomputable def sig:Sig:=⟨[pC,pC],[oB]⟩
noncomputable def cfg:Cfg:=cf (cx [⟨187,Ap1.sig,Ap1.F⟩])
noncomputable def fin:=finK cfg.c sig [.tmp 4]
noncomputable def F (d:LL×LL×Unit):OB:=anyK (a9u cfg fin (bd f146) (a6P sig.ps d 10))
variable (a_1 b_2:LL)
noncomputable def T:OB:=(Ap1.F (a_1,b_2,())).bind fun r3=>some ((r3.1.1,()),())
theorem eq:F (a_1,b_2,())=T a_1 b_2:=eq_any fun k=>by kernel_rfl
theorem S:a3P prog ⟨146,sig,F⟩:=sound_k (res:=[.tmp 4]) func146 (cok (cM ⟨Ap1.S,nM⟩))
end Ao5
namespace Aa2
noncomputable def sig:Sig:=⟨[.val false (.sl tQ)],[(.val false,tQ,.shal)]⟩
noncomputable def cfg:Cfg:=⟨⟨a2n tabl,[],[],[],[(92,tL)],[]⟩,[],[],fun id=>match id with|3=>([0,3,9,10,11],[])|11=>([6,25,26,27],[24])|_=>([],[]),fun id=>match id with|11=>[24]|_=>[]⟩
noncomputable def fin:=finK cfg.c sig [.tmp 2]
noncomputable def F (d:List LL×Unit):OQ:=anyK (a9u cfg fin (bd f51) (a6P sig.ps d 36))
variable (k:Nat) (x2:List LL) (i3:Int) (x4:List LL) (i5 i6:Int)
noncomputable def l3:OQ:=Vm.runT cfg fin k [.inLoop (sub [1,1,0,1,0,0] (bd f51)),.inBlock 0,.code (sub [1,1,1] (bd f51))] ⟨[.val false [⟨(.sl tQ),.sh,x2⟩],dD,dD,vI i3,dD,dD,dD,dD,dD,.val false [⟨(.sl tQ),.sh,x4⟩],vI i5,vI i6]++a9B 24,[]⟩
variable (x7:List LL) (i8 i9:Int) (x10:LL)
noncomputable def l11:OQ:=Vm.runT cfg fin k [.inLoop (sub [1,1,1,1,0,1,0,0] (bd f51)),.inBlock 2,.code (sub [1,1,1,1,1] (bd f51))] ⟨[dD,dD,dD,dD,dD,dD,.view 24 (.root 0) 1 false,dD,dD,dD,dD,dD,dD,dD,dD,dD,dD,dD,dD,dD,dD,dD,dD,dD,dD,.val false [⟨(.sl tQ),.sh,x7⟩],vI i8,vI i9]++a9B 8,[(24,⟨false,[⟨tQ,.shal,x10⟩]⟩)]⟩
theorem l3_eq:l3 (k+1) x2 i3 x4 i5 i6=if (decide (i6<i5))=true then if 0≤i6∧i6<(x4.length:Int)then if (decide ((za.wrap (i3+((x4.getD i6.toNat ([]:LL)).length:Int)))<0))=true then none else l3 k x2 (za.wrap (i3+((x4.getD i6.toNat ([]:LL)).length:Int))) x4 i5 (za.wrap (i6+1))else none else if 0≤i3∧i3≤(bigN:Int)then l11 k x2 (x2.length:Int) (0:Int) ([]:LL)else none:=by kernel_rfl
theorem l11_eq:l11 (k+1) x7 i8 i9 x10=if (decide (i9<i8))=true then if 0≤i9∧i9<(x7.length:Int)then if x10.length+(x7.getD i9.toNat ([]:LL)).length≤bigA then l11 k x7 i8 (za.wrap (i9+1)) (x10++(x7.getD i9.toNat ([]:LL)))else none else none else some ((x10,()),()):=by kernel_rfl
variable (slices_1:List LL)
noncomputable def T:OQ:=l3 k slices_1 (0:Int) slices_1 (slices_1.length:Int) (0:Int)
theorem of {r} (h:Ev (fun k=>T k slices_1) r):F (slices_1,())=some r:=Ev.run (fun k=>by kernel_rfl) h
theorem S:a3P prog ⟨51,sig,F⟩:=sound_k (res:=[.tmp 2]) func51 (⟨nM,mixed_ok,tab_ok tab_good,nM,nM,cM ⟨slices_Grow_LLint64_Lint64.growOK,nM⟩⟩)
end Aa2
namespace Ap8
noncomputable def sig:Sig:=⟨[pC,pC],[oC]⟩
noncomputable def cfg:Cfg:=cf (cx [⟨51,Aa2.sig,Aa2.F⟩,⟨110,Ae1.sig,Ae1.F⟩])
noncomputable def fin:=finK cfg.c sig [.cell 4 33]
noncomputable def F (d:LL×LL×Unit):OQ:=anyK (a9u cfg fin (bd f147) (a6P sig.ps d 12))
variable (a_1 b_2:LL)
noncomputable def T:OQ:=(Aa2.F ([a_1,b_2],())).bind fun r3=>(Ae1.F (r3.1.1,())).bind fun r4=>some ((r4.1.1,()),())
theorem eq:F (a_1,b_2,())=T a_1 b_2:=eq_any fun k=>by kernel_rfl
theorem S:a3P prog ⟨147,sig,F⟩:=sound_k (res:=[.cell 4 33]) func147 (cok (cM ⟨Aa2.S,cM ⟨Ae1.S,nM⟩⟩))
end Ap8
namespace Ar6
noncomputable def sig:Sig:=⟨[pC,pC,pC],[oB]⟩
noncomputable def cfg:Cfg:=cf (cx [⟨106,Ab6.sig,Ab6.F⟩,⟨146,Ao5.sig,Ao5.F⟩,⟨147,Ap8.sig,Ap8.F⟩])
noncomputable def fin:=finK cfg.c sig [.tmp 6]
noncomputable def F (d:LL×LL×LL×Unit):OB:=anyK (a9u cfg fin (bd f107) (a6P sig.ps d 24))
variable (c_1 a_2 b_3:LL)
noncomputable def T:OB:=(Ab6.F (c_1,())).bind fun r4=>if r4.1.1=true then(Ab6.F (a_2,())).bind fun r5=>if r5.1.1=true then(Ab6.F (b_3,())).bind fun r6=>if r6.1.1=true then(Ap8.F (a_2,b_3,())).bind fun r7=>(Ao5.F (r7.1.1,c_1,())).bind fun r8=>some ((r8.1.1,()),())else some ((false,()),())else some ((false,()),())else some ((false,()),())
theorem eq:F (c_1,a_2,b_3,())=T c_1 a_2 b_3:=eq_any fun k=>by kernel_rfl
theorem S:a3P prog ⟨107,sig,F⟩:=sound_k (res:=[.tmp 6]) func107 (cok (cM ⟨Ab6.S,cM ⟨Ao5.S,cM ⟨Ap8.S,nM⟩⟩⟩))
end Ar6
namespace Ak4
noncomputable def sig:Sig:=⟨[pS,pC,pC],[oI]⟩
noncomputable def cfg:Cfg:=cf (cx [⟨105,Ak2.sig,Ak2.F⟩,⟨106,Ab6.sig,Ab6.F⟩,⟨107,Ar6.sig,Ar6.F⟩])
noncomputable def fin:=finK cfg.c sig [.tmp 6]
noncomputable def F (d:SF×LL×LL×Unit):OI:=anyK (a9u cfg fin (bd f67) (a6P sig.ps d 28))
variable (s_1:LL) (s_2:Int) (s_3:LI) (s_4:LM) (a_5 b_6:LL)
noncomputable def T:OI:=(Ak2.F ((s_1,(s_2,(s_3,s_4))),())).bind fun r7=>if (!r7.1.1)=true then some ((1,()),())else(Ab6.F (a_5,())).bind fun r8=>if (!r8.1.1)=true then some ((1,()),())else(Ab6.F (b_6,())).bind fun r9=>if (!r9.1.1)=true then some ((1,()),())else(Ar6.F (s_1,a_5,b_6,())).bind fun r10=>if (!r10.1.1)=true then some ((6,()),())else some ((0,()),())
theorem eq:F ((s_1,(s_2,(s_3,s_4))),a_5,b_6,())=T s_1 s_2 s_3 s_4 a_5 b_6:=eq_any fun k=>by kernel_rfl
theorem S:a3P prog ⟨67,sig,F⟩:=sound_k (res:=[.tmp 6]) func67 (cok (cM ⟨Ak2.S,cM ⟨Ab6.S,cM ⟨Ar6.S,nM⟩⟩⟩))
end Ak4
namespace Am1
noncomputable def sig:Sig:=⟨[pM,pL],[oL]⟩
noncomputable def cfg:Cfg:=cl (cx [⟨74,Ag5.sig,Ag5.F⟩,⟨75,Af1.sig,Af1.F⟩]) fun id=>match id with|3=>([1,2,5,8,9],[8,20])|_=>([],[])
noncomputable def fin:=finK cfg.c sig [.tmp 4]
noncomputable def F (d:MX×LI×Unit):OL:=anyK (a9u cfg fin (bd f34) (a6P sig.ps d 24))
variable (k:Nat) (x6:LI) (i7 i8 i9 i10 i11:Int) (x12 x13:LI)
noncomputable def l3:OL:=Vm.runT cfg fin k [.inLoop (sub [1,1,0,1,0,0] (bd f34)),.inBlock 0,.code (sub [1,1,1] (bd f34))] ⟨[dD,vL x6,.ref 8 (.root 0),dD,dD,.view 20 (.root 0) 1 false,dD,dD,vI i7,vI i8]++a9B 14,[(8,⟨true,[cI i9,cI i10,cI i11,cL x12]⟩),(20,⟨false,[dL x13]⟩)]⟩
theorem l3_eq:l3 (k+1) x6 i7 i8 i9 i10 i11 x12 x13=if (decide (i8<i7))=true then(Af1.F ((i9,(i10,(i11,x12))),i8,())).bind fun r14=>(Ag5.F (r14.1.1,x6,i9,())).bind fun r15=>if x13.length+[r15.1.1].length≤bigA then l3 k x6 i7 (za.wrap (i8+1)) i9 i10 i11 x12 (x13++[r15.1.1])else none else some ((x13,()),()):=by kernel_rfl
variable (m_1 m_2 m_3:Int) (m_4 v_5:LI)
noncomputable def T:OL:=l3 k v_5 m_2 (0:Int) m_1 m_2 m_3 m_4 ([])
theorem of {r} (h:Ev (fun k=>T k m_1 m_2 m_3 m_4 v_5) r):F ((m_1,(m_2,(m_3,m_4))),v_5,())=some r:=Ev.run (fun k=>by kernel_rfl) h
theorem S:a3P prog ⟨34,sig,F⟩:=sound_k (res:=[.tmp 4]) func34 (cok (cM ⟨Ag5.S,cM ⟨Af1.S,nM⟩⟩))
end Am1
namespace Ac6
noncomputable def sig:Sig:=⟨[pS,pI],[oI]⟩
noncomputable def cfg:Cfg:=cl (cx [⟨36,Ae5.sig,Ae5.F⟩,⟨81,Ab8.sig,Ab8.F⟩]) fun id=>match id with|3=>([1,2,5,18,19,20],[8,72])|_=>([],[])
noncomputable def fin:=finK cfg.c sig [.tmp 4]
noncomputable def F (d:SF×Int×Unit):OI:=anyK (a9u cfg fin (bd f54) (a6P sig.ps d 36))
variable (k:Nat) (i8 i9 i10 i11:Int) (x12:LL) (i13:Int) (x14:LI) (x15:LM) (x16:LI)
noncomputable def l3:OI:=Vm.runT cfg fin k [.inLoop (sub [1,1,0,1,0,0] (bd f54)),.inBlock 0,.code (sub [1,1,1] (bd f54))] ⟨[dD,vI i8,.ref 8 (.root 0),dD,dD,vI i9,dD,dD,dD,dD,dD,dD,dD,dD,dD,dD,dD,dD,.view 72 (.root 0) 1 false,vI i10,vI i11]++a9B 15,[(8,⟨true,[cQ x12,cI i13,cL x14,⟨(.sl TMatrix),.sh,x15⟩]⟩),(72,⟨false,[dL x16]⟩)]⟩
theorem l3_eq:l3 (k+1) i8 i9 i10 i11 x12 i13 x14 x15 x16=if (decide (i11<i10))=true then if 0≤i11∧i11<(x16.length:Int)then if ((x16.getD i11.toNat 0:Int)==i8)=true then some ((i9,()),())else if 0≤(x16.getD i11.toNat 0:Int)∧(x16.getD i11.toNat 0:Int)<(x14.length:Int)then l3 k i8 (za.wrap (i9+(x14.getD (x16.getD i11.toNat 0:Int).toNat 0))) i10 (za.wrap (i11+1)) x12 i13 x14 x15 x16 else none else none else some ((i9,()),()):=by kernel_rfl
variable (s_1:LL) (s_2:Int) (s_3:LI) (s_4:LM) (simplex_5:Int)
noncomputable def T:OI:=if 0≤simplex_5∧simplex_5<(s_1.length:Int)then(Ab8.F (s_1.getD simplex_5.toNat ([]:LI),())).bind fun r6=>(Ae5.F (s_1,za.wrap (r6.1.1-1),())).bind fun r7=>l3 k simplex_5 (0:Int) (r7.1.1.length:Int) (0:Int) s_1 s_2 s_3 s_4 r7.1.1 else none
theorem of {r} (h:Ev (fun k=>T k s_1 s_2 s_3 s_4 simplex_5) r):F ((s_1,(s_2,(s_3,s_4))),simplex_5,())=some r:=Ev.run (fun k=>by kernel_rfl) h
theorem S:a3P prog ⟨54,sig,F⟩:=sound_k (res:=[.tmp 4]) func54 (cok (cM ⟨Ae5.S,cM ⟨Ab8.S,nM⟩⟩))
end Ac6
namespace At3
noncomputable def sig:Sig:=⟨[pI,pI],[oI]⟩
noncomputable def cfg:Cfg:=cf (cx [])
noncomputable def fin:=finK cfg.c sig [.tmp 4]
noncomputable def F (d:Int×Int×Unit):OI:=anyK (a9u cfg fin (bd f119) (a6P sig.ps d 5))
noncomputable def T (i_1 j_2:Int):OI:=some ((0,()),())
theorem eq (i_1 j_2:Int):F (i_1,j_2,())=T i_1 j_2:=eq_any fun k=>by kernel_rfl
theorem S:a3P prog ⟨119,sig,F⟩:=sound_k (res:=[.tmp 4]) func119 (cok nM)
noncomputable def cloG (y:Unit) (d:Int×Int×Unit):Option (Int×Unit):=(F (b0b [] [(false,tI),(false,tI)] d y)).map (·.1)
noncomputable def clo:Clo:=⟨119,⟨[(false,tI),(false,tI)],[(.val false,tI,.deep)]⟩,[],cloG⟩
theorem cloS:a2t prog clo:=sound_clo (s:=⟨[(false,tI),(false,tI)],[(.val false,tI,.deep)]⟩) (caps:=[]) rfl S
end At3
namespace Aq0
noncomputable def sig:Sig:=⟨[pI,pI,pI],[oM]⟩
noncomputable def cfg:Cfg:=cf ⟨a2n tabl,[⟨118,Ac3.sig,Ac3.F⟩],[At3.clo],[],[],[]⟩
noncomputable def fin:=finK cfg.c sig [.cell 6 65]
noncomputable def F (d:Int×Int×Int×Unit):OM:=anyK (a9u cfg fin (bd f76) (a6P sig.ps d 11))
variable (p_1 rows_2 columns_3:Int)
noncomputable def T:OM:=(Ac3.F (p_1,rows_2,columns_3,At3.cloG (()),())).bind fun r4=>some ((r4.1.1,()),())
theorem eq:F (p_1,rows_2,columns_3,())=T p_1 rows_2 columns_3:=eq_any fun k=>by kernel_rfl
theorem S:a3P prog ⟨76,sig,F⟩:=sound_k (res:=[.cell 6 65]) func76 (⟨nM,mixed_ok,tab_ok tab_good,cM ⟨Ac3.S,nM⟩,cM ⟨At3.cloS,nM⟩,nM⟩)
end Aq0
namespace Ap0
noncomputable def sig:Sig:=⟨[pI,pI],[oI]⟩
noncomputable def cfg:Cfg:=cf (cx [])
noncomputable def fin:=finK cfg.c sig [.tmp 4]
noncomputable def F (d:Int×Int×Unit):OI:=anyK (a9u cfg fin (bd f80) (a6P sig.ps d 10))
variable (k_1 p_2:Int)
noncomputable def T:OI:=if (2:Int)=0 then none else if ((k_1.tmod (2:Int))==0)=true then some ((1,()),())else some ((za.wrap (p_2-(1:Int)),()),())
theorem eq:F (k_1,p_2,())=T k_1 p_2:=eq_any fun k=>by kernel_rfl
theorem S:a3P prog ⟨80,sig,F⟩:=sound_k (res:=[.tmp 4]) func80 (cok nM)
end Ap0
namespace Ab1
noncomputable def sig:Sig:=⟨[pS,pI],[oM]⟩
noncomputable def cfg:Cfg:=cl (cx [⟨36,Ae5.sig,Ae5.F⟩,⟨50,Aa4.sig,Aa4.F⟩,⟨54,Ac6.sig,Ac6.F⟩,⟨76,Aq0.sig,Aq0.F⟩,⟨77,Ab7.sig,Ab7.F⟩,⟨78,Ac2.sig,Ac2.F⟩,⟨79,Aj6.sig,Aj6.F⟩,⟨80,Ap0.sig,Ap0.F⟩]) fun id=>match id with|3=>([1,2,4,5,29,30,31],[8,16,20,116])|7=>([1,2,4,5,7,29,30,31,40,41,42],[8,16,20,116,160])|12=>([1,2,4,5,7,8,10,11,12,29,30,31,40,41,42,58,59],[8,16,20,40,116,160])|15=>([1,2,4,5,7,8,10,11,12,13,29,30,31,40,41,42,58,59,63,64],[8,16,20,40,116,160])|_=>([],[])
noncomputable def fin:=finK cfg.c sig [.cell 4 65]
noncomputable def F (d:SF×Int×Unit):OM:=anyK (a9u cfg fin (bd f35) (a6P sig.ps d 97))
variable (k:Nat) (i10 i11 i12:Int) (x13:LL) (i14:Int) (x15:LI) (x16:LM) (i17 i18 i19:Int) (x20:LI) (i21 i22 i23:Int) (x24 x25:LI)
noncomputable def l3:OM:=Vm.runT cfg fin k [.inLoop (sub [1,1,0,1,0,0] (bd f35)),.inBlock 0,.code (sub [1,1,1] (bd f35))] ⟨[dD,vI i10,.ref 8 (.root 0),dD,.ref 16 (.root 0),.ref 20 (.root 0),dD,dD,dD,dD,dD,dD,dD,dD,dD,dD,dD,dD,dD,dD,dD,dD,dD,dD,dD,dD,dD,dD,dD,.view 116 (.root 0) 1 false,vI i11,vI i12]++a9B 65,[(8,⟨true,[cQ x13,cI i14,cL x15,⟨(.sl TMatrix),.sh,x16⟩]⟩),(16,⟨true,[cI i17,cI i18,cI i19,dL x20]⟩),(20,⟨true,[cI i21,cI i22,cI i23,dL x24]⟩),(116,⟨false,[dL x25]⟩)]⟩
variable (i27 i28 i29 i30 i31 i32:Int) (x33:LL) (i34:Int) (x35:LI) (x36:LM) (i37 i38 i39:Int) (x40:LI) (i41 i42 i43:Int) (x44 x45 x46:LI)
noncomputable def l7:OM:=Vm.runT cfg fin k [.inLoop (sub [1,1,0,1,0,0,1,1,0,0,1,1,1,0,0] (bd f35)),.inBlock 2,.inBlock 1,.code (sub [1,1,0,1,0,0,1,1,1] (bd f35)),.inLoop (sub [1,1,0,1,0,0] (bd f35)),.inBlock 0,.code (sub [1,1,1] (bd f35))] ⟨[dD,vI i27,.ref 8 (.root 0),dD,.ref 16 (.root 0),.ref 20 (.root 0),dD,vI i28,dD,dD,dD,dD,dD,dD,dD,dD,dD,dD,dD,dD,dD,dD,dD,dD,dD,dD,dD,dD,dD,.view 116 (.root 0) 1 false,vI i29,vI i30,dD,dD,dD,dD,dD,dD,dD,dD,.view 160 (.root 0) 1 false,vI i31,vI i32]++a9B 54,[(8,⟨true,[cQ x33,cI i34,cL x35,⟨(.sl TMatrix),.sh,x36⟩]⟩),(16,⟨true,[cI i37,cI i38,cI i39,dL x40]⟩),(20,⟨true,[cI i41,cI i42,cI i43,dL x44]⟩),(116,⟨false,[dL x45]⟩),(160,⟨false,[dL x46]⟩)]⟩
variable (i50 i51 i52 i53 i54 i55 i56 i57 i58 i59 i60:Int) (x61:LL) (i62:Int) (x63:LI) (x64:LM) (i65 i66 i67:Int) (x68:LI) (i69 i70 i71:Int) (x72:LI) (i73 i74 i75:Int) (x76 x77 x78:LI)
noncomputable def l12:OM:=Vm.runT cfg fin k [.inLoop (sub [1,1,0,1,0,0,1,1,0,0,1,1,1,0,0,1,1,0,0,1,1,1,1,0,0] (bd f35)),.inBlock 4,.inBlock 3,.code (sub [1,1,0,1,0,0,1,1,0,0,1,1,1,0,0,1,1,1] (bd f35)),.inLoop (sub [1,1,0,1,0,0,1,1,0,0,1,1,1,0,0] (bd f35)),.inBlock 2,.inBlock 1,.code (sub [1,1,0,1,0,0,1,1,1] (bd f35)),.inLoop (sub [1,1,0,1,0,0] (bd f35)),.inBlock 0,.code (sub [1,1,1] (bd f35))] ⟨[dD,vI i50,.ref 8 (.root 0),dD,.ref 16 (.root 0),.ref 20 (.root 0),dD,vI i51,vI i52,dD,.ref 40 (.root 0),vI i53,vI i54,dD,dD,dD,dD,dD,dD,dD,dD,dD,dD,dD,dD,dD,dD,dD,dD,.view 116 (.root 0) 1 false,vI i55,vI i56,dD,dD,dD,dD,dD,dD,dD,dD,.view 160 (.root 0) 1 false,vI i57,vI i58,dD,dD,dD,dD,dD,dD,dD,dD,dD,dD,dD,dD,dD,dD,dD,vI i59,vI i60]++a9B 37,[(8,⟨true,[cQ x61,cI i62,cL x63,⟨(.sl TMatrix),.sh,x64⟩]⟩),(16,⟨true,[cI i65,cI i66,cI i67,dL x68]⟩),(20,⟨true,[cI i69,cI i70,cI i71,dL x72]⟩),(40,⟨true,[cI i73,cI i74,cI i75,cL x76]⟩),(116,⟨false,[dL x77]⟩),(160,⟨false,[dL x78]⟩)]⟩
variable (i79 i80 i81 i82 i83 i84 i85 i86 i87 i88 i89 i90 i91 i92:Int) (x93:LL) (i94:Int) (x95:LI) (x96:LM) (i97 i98 i99:Int) (x100:LI) (i101 i102 i103:Int) (x104:LI) (i105 i106 i107:Int) (x108 x109 x110:LI)
noncomputable def l15:OM:=Vm.runT cfg fin k [.inLoop (sub [1,1,0,1,0,0,1,1,0,0,1,1,1,0,0,1,1,0,0,1,1,1,1,0,0,1,1,0,0,1,1,0,0] (bd f35)),.inBlock 6,.inBlock 5,.code (sub [1,1,0,1,0,0,1,1,0,0,1,1,1,0,0,1,1,0,0,1,1,1,1,0,0,1,1,1] (bd f35)),.inLoop (sub [1,1,0,1,0,0,1,1,0,0,1,1,1,0,0,1,1,0,0,1,1,1,1,0,0] (bd f35)),.inBlock 4,.inBlock 3,.code (sub [1,1,0,1,0,0,1,1,0,0,1,1,1,0,0,1,1,1] (bd f35)),.inLoop (sub [1,1,0,1,0,0,1,1,0,0,1,1,1,0,0] (bd f35)),.inBlock 2,.inBlock 1,.code (sub [1,1,0,1,0,0,1,1,1] (bd f35)),.inLoop (sub [1,1,0,1,0,0] (bd f35)),.inBlock 0,.code (sub [1,1,1] (bd f35))] ⟨[dD,vI i79,.ref 8 (.root 0),dD,.ref 16 (.root 0),.ref 20 (.root 0),dD,vI i80,vI i81,dD,.ref 40 (.root 0),vI i82,vI i83,vI i84,dD,dD,dD,dD,dD,dD,dD,dD,dD,dD,dD,dD,dD,dD,dD,.view 116 (.root 0) 1 false,vI i85,vI i86,dD,dD,dD,dD,dD,dD,dD,dD,.view 160 (.root 0) 1 false,vI i87,vI i88,dD,dD,dD,dD,dD,dD,dD,dD,dD,dD,dD,dD,dD,dD,dD,vI i89,vI i90,dD,dD,dD,vI i91,vI i92]++a9B 32,[(8,⟨true,[cQ x93,cI i94,cL x95,⟨(.sl TMatrix),.sh,x96⟩]⟩),(16,⟨true,[cI i97,cI i98,cI i99,dL x100]⟩),(20,⟨true,[cI i101,cI i102,cI i103,dL x104]⟩),(40,⟨true,[cI i105,cI i106,cI i107,cL x108]⟩),(116,⟨false,[dL x109]⟩),(160,⟨false,[dL x110]⟩)]⟩
theorem l3_eq:l3 (k+1) i10 i11 i12 x13 i14 x15 x16 i17 i18 i19 x20 i21 i22 i23 x24 x25=if (decide (i12<i11))=true then if 0≤i12∧i12<(x25.length:Int)then if (decide (i10<0))=true then some (((i21,(i22,(i23,x24))),()),())else(Ab7.F (x13,(x25.getD i12.toNat 0:Int),())).bind fun r26=>l7 k i10 (x25.getD i12.toNat 0:Int) i11 i12 (r26.1.1.length:Int) (0:Int) x13 i14 x15 x16 i17 i18 i19 x20 i21 i22 i23 x24 x25 r26.1.1 else none else some (((i21,(i22,(i23,x24))),()),()):=by kernel_rfl
theorem l7_eq:l7 (k+1) i27 i28 i29 i30 i31 i32 x33 i34 x35 x36 i37 i38 i39 x40 i41 i42 i43 x44 x45 x46=if (decide (i32<i31))=true then if 0≤i32∧i32<(x46.length:Int)then(Ac2.F ((x33,(i34,(x35,x36))),i28,i32,())).bind fun r47=>(Ac6.F ((x33,(i34,(x35,x36))),i28,())).bind fun r48=>(Ac6.F ((x33,(i34,(x35,x36))),(x46.getD i32.toNat 0:Int),())).bind fun r49=>l12 k i27 i28 i32 r48.1.1 r49.1.1 i29 i30 i31 i32 r47.1.1.2.1 (0:Int) x33 i34 x35 x36 i37 i38 i39 x40 i41 i42 i43 x44 r47.1.1.1 r47.1.1.2.1 r47.1.1.2.2.1 r47.1.1.2.2.2 x45 x46 else none else l3 k i27 i29 (za.wrap (i30+1)) x33 i34 x35 x36 i37 i38 i39 x40 i41 i42 i43 x44 x45:=by kernel_rfl
theorem l12_eq:l12 (k+1) i50 i51 i52 i53 i54 i55 i56 i57 i58 i59 i60 x61 i62 x63 x64 i65 i66 i67 x68 i69 i70 i71 x72 i73 i74 i75 x76 x77 x78=if (decide (i60<i59))=true then l15 k i50 i51 i52 i53 i54 i60 i55 i56 i57 i58 i59 i60 i75 (0:Int) x61 i62 x63 x64 i65 i66 i67 x68 i69 i70 i71 x72 i73 i74 i75 x76 x77 x78 else l7 k i50 i51 i55 i56 i57 (za.wrap (i58+1)) x61 i62 x63 x64 i65 i66 i67 x68 i69 i70 i71 x72 x77 x78:=by kernel_rfl
theorem l15_eq:l15 (k+1) i79 i80 i81 i82 i83 i84 i85 i86 i87 i88 i89 i90 i91 i92 x93 i94 x95 x96 i97 i98 i99 x100 i101 i102 i103 x104 i105 i106 i107 x108 x109 x110=if (decide (i92<i91))=true then(Aj6.F ((i105,(i106,(i107,x108))),i84,i92,())).bind fun r111=>(Ap0.F (i81,i94,())).bind fun r112=>if i94=0 then none else if 0≤(za.wrap ((za.wrap ((za.wrap ((za.wrap (i82+i84))*i103))+i83))+i92))∧(za.wrap ((za.wrap ((za.wrap ((za.wrap (i82+i84))*i103))+i83))+i92))<(x104.length:Int)then let y113:LI:=x104.set (za.wrap ((za.wrap ((za.wrap ((za.wrap (i82+i84))*i103))+i83))+i92)).toNat ((za.wrap (r111.1.1*r112.1.1)).tmod i94);l15 k i79 i80 i81 i82 i83 i84 i85 i86 i87 i88 i89 i90 i91 (za.wrap (i92+1)) x93 i94 x95 x96 i97 i98 i99 x100 i101 i102 i103 y113 i105 i106 i107 x108 x109 x110 else none else l12 k i79 i80 i81 i82 i83 i85 i86 i87 i88 i89 (za.wrap (i90+1)) x93 i94 x95 x96 i97 i98 i99 x100 i101 i102 i103 x104 i105 i106 i107 x108 x109 x110:=by kernel_rfl
variable (t_1:LL) (t_2:Int) (t_3:LI) (t_4:LM) (a_5:Int)
noncomputable def T:OM:=(Aa4.F ((t_1,(t_2,(t_3,t_4))),za.wrap (a_5+(1:Int)),())).bind fun r6=>(Aa4.F ((t_1,(t_2,(t_3,t_4))),a_5,())).bind fun r7=>(Aq0.F (t_2,r6.1.1,r7.1.1,())).bind fun r8=>(Ae5.F (t_1,za.wrap (a_5+(1:Int)),())).bind fun r9=>l3 k a_5 (r9.1.1.length:Int) (0:Int) t_1 t_2 t_3 t_4 0 0 0 ([]) r8.1.1.1 r8.1.1.2.1 r8.1.1.2.2.1 r8.1.1.2.2.2 r9.1.1
theorem of {r} (h:Ev (fun k=>T k t_1 t_2 t_3 t_4 a_5) r):F ((t_1,(t_2,(t_3,t_4))),a_5,())=some r:=Ev.run (fun k=>by kernel_rfl) h
theorem S:a3P prog ⟨35,sig,F⟩:=sound_k (res:=[.cell 4 65]) func35 (cok (cM ⟨Ae5.S,cM ⟨Aa4.S,cM ⟨Ac6.S,cM ⟨Aq0.S,cM ⟨Ab7.S,cM ⟨Ac2.S,cM ⟨Aj6.S,cM ⟨Ap0.S,nM⟩⟩⟩⟩⟩⟩⟩⟩))
end Ab1
namespace Ap5
noncomputable def sig:Sig:=⟨[pL,pI,pI],[oB]⟩
noncomputable def cfg:Cfg:=cf (cx [⟨81,Ab8.sig,Ab8.F⟩,⟨148,Ai4.sig,Ai4.F⟩])
noncomputable def fin:=finK cfg.c sig [.tmp 6]
noncomputable def F (d:LI×Int×Int×Unit):OB:=anyK (a9u cfg fin (bd f108) (a6P sig.ps d 16))
variable (x_1:LI) (length_2 p_3:Int)
noncomputable def T:OB:=(Ab8.F (x_1,())).bind fun r4=>if (r4.1.1==length_2)=true then(Ai4.F (x_1,p_3,())).bind fun r5=>some ((r5.1.1,()),())else some ((false,()),())
theorem eq:F (x_1,length_2,p_3,())=T x_1 length_2 p_3:=eq_any fun k=>by kernel_rfl
theorem S:a3P prog ⟨108,sig,F⟩:=sound_k (res:=[.tmp 6]) func108 (cok (cM ⟨Ab8.S,cM ⟨Ai4.S,nM⟩⟩))
end Ap5
namespace As1
noncomputable def sig:Sig:=⟨[pI],[oB]⟩
noncomputable def cfg:Cfg:=cf (cx [])
noncomputable def fin:=finK cfg.c sig [.tmp 2]
noncomputable def F (d:Int×Unit):OB:=anyK (a9u cfg fin (bd f150) (a6P sig.ps d 5))
variable (x_1:Int)
noncomputable def T:OB:=some ((x_1 !=(0:Int),()),())
theorem eq:F (x_1,())=T x_1:=eq_any fun k=>by kernel_rfl
theorem S:a3P prog ⟨150,sig,F⟩:=sound_k (res:=[.tmp 2]) func150 (cok nM)
noncomputable def cloG (y:Unit) (d:Int×Unit):Option (Bool×Unit):=(F (b0b [] [(false,tI)] d y)).map (·.1)
noncomputable def clo:Clo:=⟨150,⟨[(false,tI)],[(.val false,.bool,.deep)]⟩,[],cloG⟩
theorem cloS:a2t prog clo:=sound_clo (s:=⟨[(false,tI)],[(.val false,.bool,.deep)]⟩) (caps:=[]) rfl S
end As1
namespace As0
noncomputable def sig:Sig:=⟨[pL],[oB]⟩
noncomputable def cfg:Cfg:=cf ⟨a2n tabl,[⟨149,Ad6.sig,Ad6.F⟩],[As1.clo],[],[],[]⟩
noncomputable def fin:=finK cfg.c sig [.tmp 2]
noncomputable def F (d:LI×Unit):OB:=anyK (a9u cfg fin (bd f109) (a6P sig.ps d 6))
variable (list_1:LI)
noncomputable def T:OB:=(Ad6.F (list_1,As1.cloG (()),())).bind fun r2=>some ((!r2.1.1,()),())
theorem eq:F (list_1,())=T list_1:=eq_any fun k=>by kernel_rfl
theorem S:a3P prog ⟨109,sig,F⟩:=sound_k (res:=[.tmp 2]) func109 (⟨nM,mixed_ok,tab_ok tab_good,cM ⟨Ad6.S,nM⟩,cM ⟨As1.cloS,nM⟩,nM⟩)
end As0
namespace Am6
noncomputable def sig:Sig:=⟨[pS,pL],[oB]⟩
noncomputable def cfg:Cfg:=cf (cx [⟨34,Am1.sig,Am1.F⟩,⟨35,Ab1.sig,Ab1.F⟩,⟨50,Aa4.sig,Aa4.F⟩,⟨108,Ap5.sig,Ap5.F⟩,⟨109,As0.sig,As0.F⟩])
noncomputable def fin:=finK cfg.c sig [.tmp 4]
noncomputable def F (d:SF×LI×Unit):OB:=anyK (a9u cfg fin (bd f68) (a6P sig.ps d 18))
variable (s_1:LL) (s_2:Int) (s_3:LI) (s_4:LM) (x_5:LI)
noncomputable def T:OB:=(Aa4.F ((s_1,(s_2,(s_3,s_4))),(0:Int),())).bind fun r6=>(Ap5.F (x_5,r6.1.1,s_2,())).bind fun r7=>if r7.1.1=true then(Ab1.F ((s_1,(s_2,(s_3,s_4))),(0:Int),())).bind fun r8=>(Am1.F (r8.1.1,x_5,())).bind fun r9=>(As0.F (r9.1.1,())).bind fun r10=>some ((r10.1.1,()),())else some ((false,()),())
theorem eq:F ((s_1,(s_2,(s_3,s_4))),x_5,())=T s_1 s_2 s_3 s_4 x_5:=eq_any fun k=>by kernel_rfl
theorem S:a3P prog ⟨68,sig,F⟩:=sound_k (res:=[.tmp 4]) func68 (cok (cM ⟨Am1.S,cM ⟨Ab1.S,cM ⟨Aa4.S,cM ⟨Ap5.S,cM ⟨As0.S,nM⟩⟩⟩⟩⟩))
end Am6
namespace Ak3
noncomputable def sig:Sig:=⟨[pS,pC,pC,pL],[oI]⟩
noncomputable def cfg:Cfg:=cf (cx [⟨29,Ai7.sig,Ai7.F⟩,⟨30,Ag1.sig,Ag1.F⟩,⟨67,Ak4.sig,Ak4.F⟩,⟨68,Am6.sig,Am6.F⟩])
noncomputable def fin:=finK cfg.c sig [.tmp 8]
noncomputable def F (d:SF×LL×LL×LI×Unit):OI:=anyK (a9u cfg fin (bd f28) (a6P sig.ps d 25))
variable (s_1:LL) (s_2:Int) (s_3:LI) (s_4:LM) (a_5 b_6:LL) (z_7:LI)
noncomputable def T:OI:=(Ak4.F ((s_1,(s_2,(s_3,s_4))),a_5,b_6,())).bind fun r8=>if (r8.1.1 !=0)=true then some ((r8.1.1,()),())else(Ai7.F (a_5,b_6,())).bind fun r9=>(Ag1.F ((s_1,(s_2,(s_3,s_4))),r9.1.1,())).bind fun r10=>(Am6.F (r10.1.1,z_7,())).bind fun r11=>if (!r11.1.1)=true then some ((7,()),())else some ((0,()),())
theorem eq:F ((s_1,(s_2,(s_3,s_4))),a_5,b_6,z_7,())=T s_1 s_2 s_3 s_4 a_5 b_6 z_7:=eq_any fun k=>by kernel_rfl
theorem S:a3P prog ⟨28,sig,F⟩:=sound_k (res:=[.tmp 8]) func28 (cok (cM ⟨Ai7.S,cM ⟨Ag1.S,cM ⟨Ak4.S,cM ⟨Am6.S,nM⟩⟩⟩⟩))
end Ak3
namespace Ag7
noncomputable def sig:Sig:=⟨[pM,pI,pI],[oQ]⟩
noncomputable def cfg:Cfg:=cl (⟨a2n tabl,[⟨93,Ad8.sig,Ad8.F⟩],[],[],[],[22]⟩) fun id=>match id with|3=>([1,2,7,12,13,14],[28,48])|_=>([],[])
noncomputable def fin:=finK cfg.c sig [.tmp 6]
noncomputable def F (d:MX×Int×Int×Unit):OQ:=anyK (a9u cfg fin (bd f52) (a6P sig.ps d 31))
variable (k:Nat) (i8 i9 i10 i11:Int) (x12 x13:LL)
noncomputable def l3:OQ:=Vm.runT cfg fin k [.inLoop (sub [1,1,0,1,0,0] (bd f52)),.inBlock 0,.code (sub [1,1,1] (bd f52))] ⟨[dD,vI i8,vI i9,dD,dD,dD,dD,.view 28 (.root 0) 1 false,dD,dD,dD,dD,.view 48 (.root 0) 1 false,vI i10,vI i11]++a9B 16,[(28,⟨false,[dQ x12]⟩),(48,⟨false,[dQ x13]⟩)]⟩
theorem l3_eq:l3 (k+1) i8 i9 i10 i11 x12 x13=if (decide (i11<i10))=true then if 0≤i11∧i11<(x13.length:Int)then if 0≤i9∧i9≤(bigN:Int)then if 0≤i8∧i8≤((zb i9.toNat (0:Int)).length:Int)∧((zb i9.toNat (0:Int)).length:Int)≤((zb i9.toNat (0:Int)).length:Int)then if 0≤i8∧i8≤((zb i9.toNat (0:Int)).length:Int)∧((zb i9.toNat (0:Int)).length:Int)≤((zb i9.toNat (0:Int)).length:Int)then if x12.length+[a8G (zb i9.toNat (0:Int)) i8 ((zb i9.toNat (0:Int)).length:Int) (x13.getD i11.toNat ([]:LI))].length≤bigA then l3 k i8 i9 i10 (za.wrap (i11+1)) (x12++[a8G (zb i9.toNat (0:Int)) i8 ((zb i9.toNat (0:Int)).length:Int) (x13.getD i11.toNat ([]:LI))]) x13 else none else none else none else none else none else some ((x12,()),()):=by kernel_rfl
variable (m_1 m_2 m_3:Int) (m_4:LI) (from_5 columns_6:Int)
noncomputable def T:OQ:=(Ad8.F ((m_1,(m_2,(m_3,m_4))),())).bind fun r7=>l3 k from_5 columns_6 (r7.1.1.length:Int) (0:Int) ([]) r7.1.1
theorem of {r} (h:Ev (fun k=>T k m_1 m_2 m_3 m_4 from_5 columns_6) r):F ((m_1,(m_2,(m_3,m_4))),from_5,columns_6,())=some r:=Ev.run (fun k=>by kernel_rfl) h
theorem S:a3P prog ⟨52,sig,F⟩:=sound_k (res:=[.tmp 6]) func52 (⟨nM,mixed_ok,tab_ok tab_good,cM ⟨Ad8.S,nM⟩,nM,nM⟩)
end Ag7
namespace At0
noncomputable def sig:Sig:=⟨[pI,pI],[oI]⟩
noncomputable def cfg:Cfg:=cf (cx [])
noncomputable def fin:=finK cfg.c sig [.tmp 4]
noncomputable def F (d:Int×Int×Unit):OI:=anyK (a9u cfg fin (bd f132) (a6P sig.ps d 12))
variable (a_1 p_2:Int)
noncomputable def T:OI:=if p_2=0 then none else if p_2=0 then none else some (((za.wrap ((a_1.tmod p_2)+p_2)).tmod p_2,()),())
theorem eq:F (a_1,p_2,())=T a_1 p_2:=eq_any fun k=>by kernel_rfl
theorem S:a3P prog ⟨132,sig,F⟩:=sound_k (res:=[.tmp 4]) func132 (cok nM)
end At0
namespace Ai3
noncomputable def sig:Sig:=⟨[pL,pL,pI,pI],[oL]⟩
noncomputable def cfg:Cfg:=cl (cx []) fun id=>match id with|3=>([0,1,2,3,9,12,13],[36])|_=>([],[])
noncomputable def fin:=finK cfg.c sig [.tmp 8]
noncomputable def F (d:LI×LI×Int×Int×Unit):OL:=anyK (a9u cfg fin (bd f133) (a6P sig.ps d 34))
variable (k:Nat) (x5 x6:LI) (i7 i8 i9 i10:Int) (x11:LI)
noncomputable def l3:OL:=Vm.runT cfg fin k [.inLoop (sub [1,1,0,1,0,0] (bd f133)),.inBlock 0,.code (sub [1,1,1] (bd f133))] ⟨[vL x5,vL x6,vI i7,vI i8,dD,dD,dD,dD,dD,.view 36 (.root 0) 1 false,dD,dD,vI i9,vI i10]++a9B 20,[(36,⟨false,[dL x11]⟩)]⟩
theorem l3_eq:l3 (k+1) x5 x6 i7 i8 i9 i10 x11=if (decide (i10<i9))=true then if 0≤i10∧i10<(x5.length:Int)then if 0≤i10∧i10<(x6.length:Int)then if i8=0 then none else if x11.length+[(za.wrap ((x5.getD i10.toNat 0:Int)+(za.wrap (i7*(x6.getD i10.toNat 0:Int))))).tmod i8].length≤bigA then l3 k x5 x6 i7 i8 i9 (za.wrap (i10+1)) (x11++[(za.wrap ((x5.getD i10.toNat 0:Int)+(za.wrap (i7*(x6.getD i10.toNat 0:Int))))).tmod i8])else none else none else none else some ((x11,()),()):=by kernel_rfl
variable (a_1 b_2:LI) (c_3 p_4:Int)
noncomputable def T:OL:=l3 k a_1 b_2 c_3 p_4 (a_1.length:Int) (0:Int) ([])
theorem of {r} (h:Ev (fun k=>T k a_1 b_2 c_3 p_4) r):F (a_1,b_2,c_3,p_4,())=some r:=Ev.run (fun k=>by kernel_rfl) h
theorem S:a3P prog ⟨133,sig,F⟩:=sound_k (res:=[.tmp 8]) func133 (cok nM)
end Ai3
namespace Aj7
noncomputable def sig:Sig:=⟨[pI,pI,pI],[oI]⟩
noncomputable def cfg:Cfg:=cl (cx []) fun id=>match id with|2=>([0,1,2,7],[])|_=>([],[])
noncomputable def fin:=finK cfg.c sig [.tmp 6]
noncomputable def F (d:Int×Int×Int×Unit):OI:=anyK (a9u cfg fin (bd f170) (a6P sig.ps d 26))
variable (k:Nat) (i4 i5 i6 i7:Int)
noncomputable def l2:OI:=Vm.runT cfg fin k [.inLoop (sub [1,1,0,0,0] (bd f170)),.inBlock 0,.code (sub [1,1,1] (bd f170))] ⟨[vI i4,vI i5,vI i6,dD,dD,dD,dD,vI i7]++a9B 18,[]⟩
theorem l2_eq:l2 (k+1) i4 i5 i6 i7=if (decide (i5>0))=true then if (2:Int)=0 then none else if ((i5.tmod (2:Int))==1)=true then if i6=0 then none else if i6=0 then none else if (2:Int)=0 then none else l2 k ((za.wrap (i4*i4)).tmod i6) (za.wrap (i5.tdiv (2:Int))) i6 ((za.wrap (i7*i4)).tmod i6)else if i6=0 then none else if (2:Int)=0 then none else l2 k ((za.wrap (i4*i4)).tmod i6) (za.wrap (i5.tdiv (2:Int))) i6 i7 else some ((i7,()),()):=by kernel_rfl
variable (a_1 n_2 p_3:Int)
noncomputable def T:OI:=l2 k a_1 n_2 p_3 (1:Int)
theorem of {r} (h:Ev (fun k=>T k a_1 n_2 p_3) r):F (a_1,n_2,p_3,())=some r:=Ev.run (fun k=>by kernel_rfl) h
theorem S:a3P prog ⟨170,sig,F⟩:=sound_k (res:=[.tmp 6]) func170 (cok nM)
end Aj7
namespace Am5
noncomputable def sig:Sig:=⟨[pI,pI],[oI]⟩
noncomputable def cfg:Cfg:=cf (cx [⟨170,Aj7.sig,Aj7.F⟩])
noncomputable def fin:=finK cfg.c sig [.tmp 4]
noncomputable def F (d:Int×Int×Unit):OI:=anyK (a9u cfg fin (bd f134) (a6P sig.ps d 10))
variable (a_1 p_2:Int)
noncomputable def T:OI:=(Aj7.F (a_1,za.wrap (p_2-(2:Int)),p_2,())).bind fun r3=>some ((r3.1.1,()),())
theorem eq:F (a_1,p_2,())=T a_1 p_2:=eq_any fun k=>by kernel_rfl
theorem S:a3P prog ⟨134,sig,F⟩:=sound_k (res:=[.tmp 4]) func134 (cok (cM ⟨Aj7.S,nM⟩))
end Am5
namespace Ar9
noncomputable def sig:Sig:=⟨[pL,.rptr tI],[oB]⟩
noncomputable def cfg:Cfg:=cf (cx [])
noncomputable def fin:=finK cfg.c sig [.tmp 3]
noncomputable def F (d:LI×Int×Unit):OB:=anyK (a9u cfg fin (bd f131) (a6P sig.ps d 9))
variable (row_1:LI) (a_2:Int)
noncomputable def T:OB:=if 0≤a_2∧a_2<(row_1.length:Int)then some (((row_1.getD a_2.toNat 0:Int)!=(0:Int),()),())else none
theorem eq:F (row_1,a_2,())=T row_1 a_2:=eq_any fun k=>by kernel_rfl
theorem S:a3P prog ⟨131,sig,F⟩:=sound_k (res:=[.tmp 3]) func131 (cok nM)
noncomputable def cloG (y:Int×Unit) (d:LI×Unit):Option (Bool×Unit):=(F (b0b [.rptr tI] [(false,tL)] d y)).map (·.1)
noncomputable def clo:Clo:=⟨131,⟨[(false,tL)],[(.val false,.bool,.deep)]⟩,[.rptr tI],cloG⟩
theorem cloS:a2t prog clo:=sound_clo (s:=⟨[(false,tL)],[(.val false,.bool,.deep)]⟩) (caps:=[.rptr tI]) rfl S
end Ar9
namespace Ae0
noncomputable def sig:Sig:=⟨[.wr false tQ .shal,pI,pI],[oL,oI]⟩
noncomputable def cfg:Cfg:=⟨⟨a2n tabl,[⟨130,Ah2.sig,Ah2.F⟩,⟨132,At0.sig,At0.F⟩,⟨133,Ai3.sig,Ai3.F⟩,⟨134,Am5.sig,Am5.F⟩],[Ar9.clo],[],[],[24]⟩,[0],[],fun id=>match id with|4=>([0,1,2,8,9,16,17],[0,32])|17=>([0,1,2,8,9,10,11,16,17,79,80,81],[0,32,40])|_=>([],[]),fun _=>[]⟩
noncomputable def fin:=finK cfg.c sig [.tmp 6,.tmp 7]
noncomputable def F (d:LL×Int×Int×Unit):Option ((LI×Int×Unit)×(LL×Unit)):=anyK (a9u cfg fin (bd f95) (a6P sig.ps d 120))
variable (k:Nat) (i4 i5 i6 i7 i8:Int) (x9:LL) (x10:LI)
noncomputable def l4:Option ((LI×Int×Unit)×(LL×Unit)):=Vm.runT cfg fin k [.inLoop (sub [1,1,1,0,1,0,0] (bd f95)),.inBlock 0,.code (sub [1,1,1,1] (bd f95))] ⟨[.view 0 (.root 0) 1 false,vI i4,vI i5,dD,dD,dD,dD,dD,.view 32 (.root 0) 1 false,vI i6,dD,dD,dD,dD,dD,dD,vI i7,vI i8]++a9B 102,[(0,⟨false,[⟨tQ,.shal,x9⟩]⟩),(32,⟨false,[dL x10]⟩)]⟩
variable (i17 i18 i19 i20 i21 i22 i23 i24:Int) (x25:LL) (x26:LI) (i27:Int)
noncomputable def l17:Option ((LI×Int×Unit)×(LL×Unit)):=Vm.runT cfg fin k [.inLoop (sub [1,1,1,0,1,0,0,1,1,0,0,1,1,1,1,1,1,1,1,0,1,0,0] (bd f95)),.inBlock 2,.code (sub [1,1,1,0,1,0,0,1,1,0,0,1,1,1,1,1,1,1,1,1] (bd f95)),.inBlock 1,.code (sub [1,1,1,0,1,0,0,1,1,1] (bd f95)),.inLoop (sub [1,1,1,0,1,0,0] (bd f95)),.inBlock 0,.code (sub [1,1,1,1] (bd f95))] ⟨[.view 0 (.root 0) 1 false,vI i17,vI i18,dD,dD,dD,dD,dD,.view 32 (.root 0) 1 false,vI i19,.ref 40 (.root 0),vI i20,dD,dD,dD,dD,vI i21,vI i22,dD,dD,dD,dD,dD,dD,dD,dD,dD,dD,dD,dD,dD,dD,dD,dD,dD,dD,dD,dD,dD,dD,dD,dD,dD,dD,dD,dD,dD,dD,dD,dD,dD,dD,dD,dD,dD,dD,dD,dD,dD,dD,dD,dD,dD,dD,dD,dD,dD,dD,dD,dD,dD,dD,dD,dD,dD,dD,dD,dD,dD,.view 0 (.root 0) 1 false,vI i23,vI i24]++a9B 38,[(0,⟨false,[⟨tQ,.shal,x25⟩]⟩),(32,⟨false,[dL x26]⟩),(40,⟨true,[cI i27]⟩)]⟩
theorem l4_eq:l4 (k+1) i4 i5 i6 i7 i8 x9 x10=if (decide (i8<i7))=true then if 0≤(x10.length:Int)∧(x10.length:Int)≤(x9.length:Int)∧(x9.length:Int)≤(x9.length:Int)then(Ah2.F (cutL x9 (x10.length:Int) (x9.length:Int),Ar9.cloG (i8,()),())).bind fun r11=>if (decide (r11.1.1<0))=true then l4 k i4 i5 (0:Int) i7 (za.wrap (i8+1)) x9 x10 else if (decide (r11.1.1>0))=true then if 0≤(za.wrap ((x10.length:Int)+r11.1.1))∧(za.wrap ((x10.length:Int)+r11.1.1))<(x9.length:Int)then if 0≤(x10.length:Int)∧(x10.length:Int)<(x9.length:Int)then if 0≤(x10.length:Int)∧(x10.length:Int)<(x9.length:Int)then let y12:LL:=x9.set (x10.length:Int).toNat (x9.getD (za.wrap ((x10.length:Int)+r11.1.1)).toNat ([]:LI));if 0≤(za.wrap ((x10.length:Int)+r11.1.1))∧(za.wrap ((x10.length:Int)+r11.1.1))<(y12.length:Int)then let y13:LL:=y12.set (za.wrap ((x10.length:Int)+r11.1.1)).toNat (x9.getD (x10.length:Int).toNat ([]:LI));(At0.F (za.wrap (0-i6),i5,())).bind fun r14=>if 0≤(x10.length:Int)∧(x10.length:Int)<(y13.length:Int)then if 0≤i8∧i8<((y13.getD (x10.length:Int).toNat ([]:LI)).length:Int)then if i5=0 then none else if 0≤i4∧i4≤(bigN:Int)then if 0≤(x10.length:Int)∧(x10.length:Int)<(y13.length:Int)then(Am5.F ((y13.getD (x10.length:Int).toNat ([]:LI)).getD i8.toNat 0,i5,())).bind fun r15=>(Ai3.F (zb i4.toNat (0:Int),y13.getD (x10.length:Int).toNat ([]:LI),r15.1.1,i5,())).bind fun r16=>if 0≤(x10.length:Int)∧(x10.length:Int)<(y13.length:Int)then l17 k i4 i5 ((za.wrap (r14.1.1*((y13.getD (x10.length:Int).toNat ([]:LI)).getD i8.toNat 0))).tmod i5) (x10.length:Int) i7 i8 ((y13.set (x10.length:Int).toNat r16.1.1).length:Int) (0:Int) (y13.set (x10.length:Int).toNat r16.1.1) x10 i8 else none else none else none else none else none else none else none else none else none else if 0≤(x10.length:Int)∧(x10.length:Int)<(x9.length:Int)then if 0≤i8∧i8<((x9.getD (x10.length:Int).toNat ([]:LI)).length:Int)then if i5=0 then none else if 0≤i4∧i4≤(bigN:Int)then if 0≤(x10.length:Int)∧(x10.length:Int)<(x9.length:Int)then(Am5.F ((x9.getD (x10.length:Int).toNat ([]:LI)).getD i8.toNat 0,i5,())).bind fun r29=>(Ai3.F (zb i4.toNat (0:Int),x9.getD (x10.length:Int).toNat ([]:LI),r29.1.1,i5,())).bind fun r30=>if 0≤(x10.length:Int)∧(x10.length:Int)<(x9.length:Int)then l17 k i4 i5 ((za.wrap (i6*((x9.getD (x10.length:Int).toNat ([]:LI)).getD i8.toNat 0))).tmod i5) (x10.length:Int) i7 i8 ((x9.set (x10.length:Int).toNat r30.1.1).length:Int) (0:Int) (x9.set (x10.length:Int).toNat r30.1.1) x10 i8 else none else none else none else none else none else none else some ((x10,(i6,())),(x9,())):=by kernel_rfl
theorem l17_eq:l17 (k+1) i17 i18 i19 i20 i21 i22 i23 i24 x25 x26 i27=if (decide (i24<i23))=true then if 0≤i24∧i24<(x25.length:Int)then if (i24 !=i20)=true then if 0≤i27∧i27<((x25.getD i24.toNat ([]:LI)).length:Int)then if (((x25.getD i24.toNat ([]:LI)).getD i27.toNat 0)!=0)=true then if 0≤i20∧i20<(x25.length:Int)then if 0≤i27∧i27<((x25.getD i24.toNat ([]:LI)).length:Int)then(Ai3.F (x25.getD i24.toNat ([]:LI),x25.getD i20.toNat ([]:LI),za.wrap (i18-((x25.getD i24.toNat ([]:LI)).getD i27.toNat 0)),i18,())).bind fun r28=>if 0≤i24∧i24<(x25.length:Int)then l17 k i17 i18 i19 i20 i21 i22 i23 (za.wrap (i24+1)) (x25.set i24.toNat r28.1.1) x26 i27 else none else none else none else l17 k i17 i18 i19 i20 i21 i22 i23 (za.wrap (i24+1)) x25 x26 i27 else none else l17 k i17 i18 i19 i20 i21 i22 i23 (za.wrap (i24+1)) x25 x26 i27 else none else if x26.length+[i27].length≤bigA then l4 k i17 i18 i19 i21 (za.wrap (i22+1)) x25 (x26++[i27])else none:=by kernel_rfl
variable (t_1:LL) (a_2 a_3:Int)
noncomputable def T:Option ((LI×Int×Unit)×(LL×Unit)):=l4 k a_2 a_3 (1:Int) a_2 (0:Int) t_1 ([])
theorem of {r} (h:Ev (fun k=>T k t_1 a_2 a_3) r):F (t_1,a_2,a_3,())=some r:=Ev.run (fun k=>by kernel_rfl) h
theorem S:a3P prog ⟨95,sig,F⟩:=sound_k (res:=[.tmp 6,.tmp 7]) func95 (⟨nM,mixed_ok,tab_ok tab_good,cM ⟨Ah2.S,cM ⟨At0.S,cM ⟨Ai3.S,cM ⟨Am5.S,nM⟩⟩⟩⟩,cM ⟨Ar9.cloS,nM⟩,nM⟩)
end Ae0
namespace Ae9
noncomputable def sig:Sig:=⟨[pM,pL],[oL,oB]⟩
noncomputable def cfg:Cfg:=cl (cx [⟨93,Ad8.sig,Ad8.F⟩,⟨95,Ae0.sig,Ae0.F⟩]) fun id=>match id with|3=>([1,2,6,16,17],[8,24])|10=>([2,6,10,47,48,49],[8,24,40,32])|_=>([],[])
noncomputable def fin:=finK cfg.c sig [.tmp 4,.tmp 5]
noncomputable def F (d:MX×LI×Unit):Option ((LI×Bool×Unit)×(Unit)):=anyK (a9u cfg fin (bd f55) (a6P sig.ps d 71))
variable (k:Nat) (x7:LI) (i8 i9 i10 i11 i12:Int) (x13:LI) (x14:LL)
noncomputable def l3:Option ((LI×Bool×Unit)×(Unit)):=Vm.runT cfg fin k [.inLoop (sub [1,1,0,1,0,0] (bd f55)),.inBlock 0,.code (sub [1,1,1] (bd f55))] ⟨[dD,vL x7,.ref 8 (.root 0),dD,dD,dD,.view 24 (.root 0) 1 false,dD,dD,dD,dD,dD,dD,dD,dD,dD,vI i8,vI i9]++a9B 53,[(8,⟨true,[cI i10,cI i11,cI i12,cL x13]⟩),(24,⟨false,[dQ x14]⟩)]⟩
variable (i16 i17 i18 i19 i20:Int) (x21:LI) (x22:LL) (x23 x24:LI)
noncomputable def l10:Option ((LI×Bool×Unit)×(Unit)):=Vm.runT cfg fin k [.inLoop (sub [1,1,1,1,1,0,1,0,0] (bd f55)),.inBlock 2,.code (sub [1,1,1,1,1,1] (bd f55))] ⟨[dD,dD,.ref 8 (.root 0),dD,dD,dD,.view 24 (.root 0) 1 false,dD,dD,dD,.view 40 (.root 0) 1 false,dD,dD,dD,dD,dD,dD,dD,dD,dD,dD,dD,dD,dD,dD,dD,dD,dD,dD,dD,dD,dD,dD,dD,dD,dD,dD,dD,dD,dD,dD,dD,dD,dD,dD,dD,dD,.view 32 (.root 0) 1 false,vI i16,vI i17]++a9B 21,[(8,⟨true,[cI i18,cI i19,cI i20,cL x21]⟩),(24,⟨false,[⟨tQ,.shal,x22⟩]⟩),(40,⟨false,[dL x23]⟩),(32,⟨false,[dL x24]⟩)]⟩
theorem l3_eq:l3 (k+1) x7 i8 i9 i10 i11 i12 x13 x14=if (decide (i9<i8))=true then if 0≤i9∧i9<(x14.length:Int)then if 0≤i9∧i9<(x7.length:Int)then if (x14.getD i9.toNat ([]:LI)).length+[(x7.getD i9.toNat 0:Int)].length≤bigA then if 0≤i9∧i9<(x14.length:Int)then if i9.toNat=i9.toNat then l3 k x7 i8 (za.wrap (i9+1)) i10 i11 i12 x13 (x14.set i9.toNat ((x14.getD i9.toNat ([]:LI))++[(x7.getD i9.toNat 0:Int)]))else none else none else none else none else none else(Ae0.F (x14,za.wrap (i12+1),i10,())).bind fun r15=>if 0≤i12∧i12≤(bigN:Int)then l10 k (r15.1.1.length:Int) (0:Int) i10 i11 i12 x13 r15.2.1 (zb i12.toNat (0:Int)) r15.1.1 else none:=by kernel_rfl
theorem l10_eq:l10 (k+1) i16 i17 i18 i19 i20 x21 x22 x23 x24=if (decide (i17<i16))=true then if 0≤i17∧i17<(x24.length:Int)then if ((x24.getD i17.toNat 0:Int)==i20)=true then some (([],(false,())),())else if 0≤i17∧i17<(x22.length:Int)then if 0≤i20∧i20<((x22.getD i17.toNat ([]:LI)).length:Int)then if 0≤(x24.getD i17.toNat 0:Int)∧(x24.getD i17.toNat 0:Int)<(x23.length:Int)then let y25:LI:=x23.set (x24.getD i17.toNat 0:Int).toNat ((x22.getD i17.toNat ([]:LI)).getD i20.toNat 0);l10 k i16 (za.wrap (i17+1)) i18 i19 i20 x21 x22 y25 x24 else none else none else none else none else some ((x23,(true,())),()):=by kernel_rfl
variable (t_1 t_2 t_3:Int) (t_4 a_5:LI)
noncomputable def T:Option ((LI×Bool×Unit)×(Unit)):=(Ad8.F ((t_1,(t_2,(t_3,t_4))),())).bind fun r6=>l3 k a_5 (r6.1.1.length:Int) (0:Int) t_1 t_2 t_3 t_4 r6.1.1
theorem of {r} (h:Ev (fun k=>T k t_1 t_2 t_3 t_4 a_5) r):F ((t_1,(t_2,(t_3,t_4))),a_5,())=some r:=Ev.run (fun k=>by kernel_rfl) h
theorem S:a3P prog ⟨55,sig,F⟩:=sound_k (res:=[.tmp 4,.tmp 5]) func55 (cok (cM ⟨Ad8.S,cM ⟨Ae0.S,nM⟩⟩))
end Ae9
namespace Ap6
noncomputable def sig:Sig:=⟨[pI,pI,pQ],[oM]⟩
noncomputable def cfg:Cfg:=cf (cx [⟨53,Aa8.sig,Aa8.F⟩,⟨96,Ak7.sig,Ak7.F⟩])
noncomputable def fin:=finK cfg.c sig [.cell 6 65]
noncomputable def F (d:Int×Int×LL×Unit):OM:=anyK (a9u cfg fin (bd f56) (a6P sig.ps d 14))
variable (p_1 columns_2:Int) (rows_3:LL)
noncomputable def T:OM:=(Ak7.F (rows_3,())).bind fun r4=>(Aa8.F (rows_3,())).bind fun r5=>some (((p_1,(r4.1.1,(columns_2,r5.1.1))),()),())
theorem eq:F (p_1,columns_2,rows_3,())=T p_1 columns_2 rows_3:=eq_any fun k=>by kernel_rfl
theorem S:a3P prog ⟨56,sig,F⟩:=sound_k (res:=[.cell 6 65]) func56 (cok (cM ⟨Aa8.S,cM ⟨Ak7.S,nM⟩⟩))
end Ap6
namespace Ad0
noncomputable def sig:Sig:=⟨[pS,pC,pC,pL],[oL,oL,oI]⟩
noncomputable def cfg:Cfg:=cl (⟨a2n tabl,[⟨28,Ak3.sig,Ak3.F⟩,⟨29,Ai7.sig,Ai7.F⟩,⟨30,Ag1.sig,Ag1.F⟩,⟨32,Ab3.sig,Ab3.F⟩,⟨35,Ab1.sig,Ab1.F⟩,⟨50,Aa4.sig,Aa4.F⟩,⟨51,Aa2.sig,Aa2.F⟩,⟨52,Ag7.sig,Ag7.F⟩,⟨53,Aa8.sig,Aa8.F⟩,⟨54,Ac6.sig,Ac6.F⟩,⟨55,Ae9.sig,Ae9.F⟩,⟨56,Ap6.sig,Ap6.F⟩,⟨57,Ab2.sig,Ab2.F⟩],[],[],[],[130,134]⟩) fun id=>match id with|10=>([4,5,6,12,13,14,15,16,17,66,67,68],[16,20,24,48,52,64,68,260])|15=>([4,5,6,12,13,14,15,16,17,20,21,66,67,68,85,86],[16,20,24,48,52,64,68,260])|_=>([],[])
noncomputable def fin:=finK cfg.c sig [.tmp 8,.tmp 9,.tmp 10]
noncomputable def F (d:SF×LL×LL×LI×Unit):Option ((LI×LI×Int×Unit)×(Unit)):=anyK (a9u cfg fin (bd f20) (a6P sig.ps d 136))
variable (k:Nat) (i20 i21 i22 i23:Int) (x24:LL) (i25:Int) (x26:LI) (x27:LM) (x28 x29 x30:LL) (i31:Int) (x32:LI) (x33:LM) (x34:LL) (i35:Int) (x36:LI) (x37:LM) (x38:LL) (x39:LI) (x40:LL)
noncomputable def l10:Option ((LI×LI×Int×Unit)×(Unit)):=Vm.runT cfg fin k [.inLoop (sub [1,1,1,1,1,1,1,0,1,0,0] (bd f20)),.inBlock 0,.code (sub [1,1,1,1,1,1,1,1] (bd f20))] ⟨[dD,dD,dD,dD,.ref 16 (.root 0),.ref 20 (.root 0),.ref 24 (.root 0),dD,dD,dD,dD,dD,.ref 48 (.root 0),.ref 52 (.root 0),vI i20,vI i21,.view 64 (.root 0) 1 false,.view 68 (.root 0) 1 false,dD,dD,dD,dD,dD,dD,dD,dD,dD,dD,dD,dD,dD,dD,dD,dD,dD,dD,dD,dD,dD,dD,dD,dD,dD,dD,dD,dD,dD,dD,dD,dD,dD,dD,dD,dD,dD,dD,dD,dD,dD,dD,dD,dD,dD,dD,dD,dD,.view 260 (.root 0) 1 false,vI i22,vI i23]++a9B 67,[(16,⟨true,[cQ x24,cI i25,cL x26,⟨(.sl TMatrix),.sh,x27⟩]⟩),(20,⟨true,[cQ x28]⟩),(24,⟨true,[cQ x29]⟩),(48,⟨true,[dQ x30,cI i31,dL x32,⟨(.sl TMatrix),.deep,x33⟩]⟩),(52,⟨true,[dQ x34,cI i35,dL x36,⟨(.sl TMatrix),.deep,x37⟩]⟩),(64,⟨false,[⟨tQ,.shal,x38⟩]⟩),(68,⟨false,[dL x39]⟩),(260,⟨false,[dQ x40]⟩)]⟩
variable (i47 i48 i49 i50 i51 i52 i53 i54:Int) (x55:LL) (i56:Int) (x57:LI) (x58:LM) (x59 x60 x61:LL) (i62:Int) (x63:LI) (x64:LM) (x65:LL) (i66:Int) (x67:LI) (x68:LM) (x69:LL) (x70:LI) (x71:LL)
noncomputable def l15:Option ((LI×LI×Int×Unit)×(Unit)):=Vm.runT cfg fin k [.inLoop (sub [1,1,1,1,1,1,1,0,1,0,0,1,1,0,0,1,1,1,1,0,0] (bd f20)),.inBlock 2,.inBlock 1,.code (sub [1,1,1,1,1,1,1,0,1,0,0,1,1,1] (bd f20)),.inLoop (sub [1,1,1,1,1,1,1,0,1,0,0] (bd f20)),.inBlock 0,.code (sub [1,1,1,1,1,1,1,1] (bd f20))] ⟨[dD,dD,dD,dD,.ref 16 (.root 0),.ref 20 (.root 0),.ref 24 (.root 0),dD,dD,dD,dD,dD,.ref 48 (.root 0),.ref 52 (.root 0),vI i47,vI i48,.view 64 (.root 0) 1 false,.view 68 (.root 0) 1 false,dD,dD,vI i49,vI i50,dD,dD,dD,dD,dD,dD,dD,dD,dD,dD,dD,dD,dD,dD,dD,dD,dD,dD,dD,dD,dD,dD,dD,dD,dD,dD,dD,dD,dD,dD,dD,dD,dD,dD,dD,dD,dD,dD,dD,dD,dD,dD,dD,dD,.view 260 (.root 0) 1 false,vI i51,vI i52,dD,dD,dD,dD,dD,dD,dD,dD,dD,dD,dD,dD,dD,dD,dD,dD,vI i53,vI i54]++a9B 49,[(16,⟨true,[cQ x55,cI i56,cL x57,⟨(.sl TMatrix),.sh,x58⟩]⟩),(20,⟨true,[cQ x59]⟩),(24,⟨true,[cQ x60]⟩),(48,⟨true,[dQ x61,cI i62,dL x63,⟨(.sl TMatrix),.deep,x64⟩]⟩),(52,⟨true,[dQ x65,cI i66,dL x67,⟨(.sl TMatrix),.deep,x68⟩]⟩),(64,⟨false,[⟨tQ,.shal,x69⟩]⟩),(68,⟨false,[dL x70]⟩),(260,⟨false,[dQ x71]⟩)]⟩
theorem l10_eq:l10 (k+1) i20 i21 i22 i23 x24 i25 x26 x27 x28 x29 x30 i31 x32 x33 x34 i35 x36 x37 x38 x39 x40=if (decide (i23<i22))=true then if 0≤i23∧i23<(x40.length:Int)then if (decide (((x40.getD i23.toNat ([]:LI)).length:Int)>1))=true then(Ap6.F (i25,i21,x38,())).bind fun r41=>(Ae9.F (r41.1.1,x39,())).bind fun r42=>if (!r42.1.2.1)=true then some (([],([],((3:Int),()))),())else if 0≤(0:Int)∧(0:Int)≤i20∧i20≤(r42.1.1.length:Int)then(Ab2.F (cutL r42.1.1 (0:Int) i20,())).bind fun r43=>if 0≤i20∧i20≤(r42.1.1.length:Int)∧(r42.1.1.length:Int)≤(r42.1.1.length:Int)then(Ab2.F (cutL r42.1.1 i20 (r42.1.1.length:Int),())).bind fun r44=>some ((r43.1.1,(r44.1.1,((0:Int),()))),())else none else none else(Ab3.F (x28,x40.getD i23.toNat ([]:LI),())).bind fun r45=>(Ab3.F (x29,x40.getD i23.toNat ([]:LI),())).bind fun r46=>if 0≤r45.1.1∧r45.1.1<(x32.length:Int)then l15 k i20 i21 r45.1.1 r46.1.1 i22 i23 (x32.getD r45.1.1.toNat 0) (0:Int) x24 i25 x26 x27 x28 x29 x30 i31 x32 x33 x34 i35 x36 x37 x38 x39 x40 else none else none else(Ap6.F (i25,i21,x38,())).bind fun r76=>(Ae9.F (r76.1.1,x39,())).bind fun r77=>if (!r77.1.2.1)=true then some (([],([],((3:Int),()))),())else if 0≤(0:Int)∧(0:Int)≤i20∧i20≤(r77.1.1.length:Int)then(Ab2.F (cutL r77.1.1 (0:Int) i20,())).bind fun r78=>if 0≤i20∧i20≤(r77.1.1.length:Int)∧(r77.1.1.length:Int)≤(r77.1.1.length:Int)then(Ab2.F (cutL r77.1.1 i20 (r77.1.1.length:Int),())).bind fun r79=>some ((r78.1.1,(r79.1.1,((0:Int),()))),())else none else none:=by kernel_rfl
theorem l15_eq:l15 (k+1) i47 i48 i49 i50 i51 i52 i53 i54 x55 i56 x57 x58 x59 x60 x61 i62 x63 x64 x65 i66 x67 x68 x69 x70 x71=if (decide (i54<i53))=true then if 0≤i48∧i48≤(bigN:Int)then(Ac6.F ((x61,(i62,(x63,x64))),i49,())).bind fun r72=>if 0≤(za.wrap (r72.1.1+i54))∧(za.wrap (r72.1.1+i54))<((zb i48.toNat (0:Int)).length:Int)then let y73:LI:=(zb i48.toNat (0:Int)).set (za.wrap (r72.1.1+i54)).toNat (1:Int);(Ac6.F ((x65,(i66,(x67,x68))),i50,())).bind fun r74=>if 0≤(za.wrap ((za.wrap (i47+r74.1.1))+i54))∧(za.wrap ((za.wrap (i47+r74.1.1))+i54))<(y73.length:Int)then let y75:LI:=y73.set (za.wrap ((za.wrap (i47+r74.1.1))+i54)).toNat (za.wrap (i56-1));if x69.length+[y75].length≤bigA then l15 k i47 i48 i49 i50 i51 i52 i53 (za.wrap (i54+1)) x55 i56 x57 x58 x59 x60 x61 i62 x63 x64 x65 i66 x67 x68 (x69++[y75]) x70 x71 else none else none else none else none else l10 k i47 i48 i51 (za.wrap (i52+1)) x55 i56 x57 x58 x59 x60 x61 i62 x63 x64 x65 i66 x67 x68 x69 x70 x71:=by kernel_rfl
variable (t_1:LL) (t_2:Int) (t_3:LI) (t_4:LM) (a_5 a_6:LL) (a_7:LI)
noncomputable def T:Option ((LI×LI×Int×Unit)×(Unit)):=(Ak3.F ((t_1,(t_2,(t_3,t_4))),a_5,a_6,a_7,())).bind fun r8=>if (r8.1.1 !=0)=true then some (([],([],(r8.1.1,()))),())else(Ag1.F ((t_1,(t_2,(t_3,t_4))),a_5,())).bind fun r9=>(Ag1.F ((t_1,(t_2,(t_3,t_4))),a_6,())).bind fun r10=>(Aa4.F (r9.1.1,(0:Int),())).bind fun r11=>(Aa4.F (r10.1.1,(0:Int),())).bind fun r12=>(Ab1.F (r9.1.1,(0:Int),())).bind fun r13=>(Ag7.F (r13.1.1,(0:Int),za.wrap (r11.1.1+r12.1.1),())).bind fun r14=>(Ab1.F (r10.1.1,(0:Int),())).bind fun r15=>(Ag7.F (r15.1.1,r11.1.1,za.wrap (r11.1.1+r12.1.1),())).bind fun r16=>(Aa2.F ([r14.1.1,r16.1.1],())).bind fun r17=>if 0≤(r17.1.1.length:Int)∧(r17.1.1.length:Int)≤(bigN:Int)then(Aa8.F ([zb (r17.1.1.length:Int).toNat (0:Int),a_7],())).bind fun r18=>(Ai7.F (a_5,a_6,())).bind fun r19=>l10 k r11.1.1 (za.wrap (r11.1.1+r12.1.1)) (r19.1.1.length:Int) (0:Int) t_1 t_2 t_3 t_4 a_5 a_6 r9.1.1.1 r9.1.1.2.1 r9.1.1.2.2.1 r9.1.1.2.2.2 r10.1.1.1 r10.1.1.2.1 r10.1.1.2.2.1 r10.1.1.2.2.2 r17.1.1 r18.1.1 r19.1.1 else none
theorem of {r} (h:Ev (fun k=>T k t_1 t_2 t_3 t_4 a_5 a_6 a_7) r):F ((t_1,(t_2,(t_3,t_4))),a_5,a_6,a_7,())=some r:=Ev.run (fun k=>by kernel_rfl) h
theorem S:a3P prog ⟨20,sig,F⟩:=sound_k (res:=[.tmp 8,.tmp 9,.tmp 10]) func20 (⟨nM,mixed_ok,tab_ok tab_good,cM ⟨Ak3.S,cM ⟨Ai7.S,cM ⟨Ag1.S,cM ⟨Ab3.S,cM ⟨Ab1.S,cM ⟨Aa4.S,cM ⟨Aa2.S,cM ⟨Ag7.S,cM ⟨Aa8.S,cM ⟨Ac6.S,cM ⟨Ae9.S,cM ⟨Ap6.S,cM ⟨Ab2.S,nM⟩⟩⟩⟩⟩⟩⟩⟩⟩⟩⟩⟩⟩,nM,nM⟩)
end Ad0
namespace An8
noncomputable def sig:Sig:=⟨[pS,pC,pC,pL],[oB]⟩
noncomputable def cfg:Cfg:=cf ⟨a2n tabl,[⟨5,An9.sig,An9.F⟩,⟨6,Ah1.sig,Ah1.F⟩,⟨8,Ak0.sig,Ak0.F⟩,⟨9,Ae2.sig,Ae2.F⟩,⟨10,Ac0.sig,Ac0.F⟩,⟨12,Aa5.sig,Aa5.F⟩,⟨13,Aq2.sig,Aq2.F⟩,⟨14,Ag9.sig,Ag9.F⟩,⟨15,Aq3.sig,Aq3.F⟩,⟨16,Ah0.sig,Ah0.F⟩,⟨17,Ab4.sig,Ab4.F⟩,⟨18,Ah8.sig,Ah8.F⟩,⟨19,Ac1.sig,Ac1.F⟩,⟨20,Ad0.sig,Ad0.F⟩],[],[],[],[10,11,23,24]⟩
noncomputable def fin:=finK cfg.c sig [.tmp 8]
noncomputable def F (d:SF×LL×LL×LI×Unit):OB:=anyK (a9u cfg fin (bd f4) (a6P sig.ps d 200))
variable (t_1:LL) (t_2:Int) (t_3:LI) (t_4:LM) (a_5 a_6:LL) (a_7:LI)
noncomputable def T:OB:=if (decide ((a_7.length:Int)>1048576))=true then some ((true,()),())else(An9.F ((t_1,(t_2,(t_3,t_4))),(1048576:Int),())).bind fun r8=>if (decide (r8.1.1<0))=true then some ((true,()),())else(Ah1.F (a_5,r8.1.1,())).bind fun r9=>if (decide (r9.1.1<0))=true then some ((true,()),())else(Ah1.F (a_6,r9.1.1,())).bind fun r10=>if (decide (r10.1.1<0))=true then some ((true,()),())else(Ak0.F ((t_1,(t_2,(t_3,t_4))),())).bind fun r11=>(Ae2.F (a_5,())).bind fun r12=>(Ae2.F (a_6,())).bind fun r13=>(Ac0.F (a_7,())).bind fun r14=>(Ac1.F (r11.1.1,r12.1.1,r13.1.1,r14.1.1,())).bind fun r15=>(Ak0.F ((t_1,(t_2,(t_3,t_4))),())).bind fun r16=>(Ae2.F (a_5,())).bind fun r17=>(Ae2.F (a_6,())).bind fun r18=>(Ac0.F (a_7,())).bind fun r19=>(Ad0.F (r16.1.1,r17.1.1,r18.1.1,r19.1.1,())).bind fun r20=>(Aa5.F (r20.1.1,r15.1.1,())).bind fun r21=>if (!r21.1.1)=true then some ((false,()),())else(Aa5.F (r20.1.2.1,r15.1.2.1,())).bind fun r22=>if (!r22.1.1)=true then some ((false,()),())else if (r20.1.2.2.1 !=r15.1.2.2.1)=true then some ((false,()),())else(Ak0.F ((t_1,(t_2,(t_3,t_4))),())).bind fun r23=>(Aq2.F (r16.1.1,r23.1.1,())).bind fun r24=>if (!r24.1.1)=true then some ((false,()),())else(Ae2.F (a_5,())).bind fun r25=>(Ag9.F (r17.1.1,r25.1.1,())).bind fun r26=>if (!r26.1.1)=true then some ((false,()),())else(Ae2.F (a_6,())).bind fun r27=>(Ag9.F (r18.1.1,r27.1.1,())).bind fun r28=>if (!r28.1.1)=true then some ((false,()),())else(Ac0.F (a_7,())).bind fun r29=>(Aa5.F (r19.1.1,r29.1.1,())).bind fun r30=>if (!r30.1.1)=true then some ((false,()),())else(Aq3.F (r16.1.1,(1:Int),())).bind fun r31=>(Ah0.F (r17.1.1,r31.1.1,())).bind fun r32=>(Ah0.F (r18.1.1,r32.1.1,())).bind fun r33=>(Ab4.F (r19.1.1,r33.1.1,())).bind fun r34=>if (decide (r34.1.1<0))=true then some ((false,()),())else(Aa5.F (r20.1.1,r15.1.1,())).bind fun r35=>if (!r35.1.1)=true then some ((false,()),())else(Aa5.F (r20.1.2.1,r15.1.2.1,())).bind fun r36=>if (!r36.1.1)=true then some ((false,()),())else if (r20.1.2.2.1 !=r15.1.2.2.1)=true then some ((false,()),())else(Ab4.F (r20.1.1,(1:Int),())).bind fun r37=>(Ab4.F (r20.1.2.1,r37.1.1,())).bind fun r38=>(Ah8.F (r37.2.1,(1:Int),())).bind fun r39=>if (decide (r39.1.1<0))=true then some ((false,()),())else(Ah8.F (r38.2.1,r39.1.1,())).bind fun r40=>if (decide (r40.1.1<0))=true then some ((false,()),())else if (r40.1.1 !=r38.1.1)=true then some ((false,()),())else(Ak0.F ((t_1,(t_2,(t_3,t_4))),())).bind fun r41=>(Ae2.F (a_5,())).bind fun r42=>(Ae2.F (a_6,())).bind fun r43=>(Ac0.F (a_7,())).bind fun r44=>(Ad0.F (r41.1.1,r42.1.1,r43.1.1,r44.1.1,())).bind fun r45=>(Aa5.F (r45.1.1,r15.1.1,())).bind fun r46=>if (!r46.1.1)=true then some ((false,()),())else(Aa5.F (r45.1.2.1,r15.1.2.1,())).bind fun r47=>if (!r47.1.1)=true then some ((false,()),())else if (r45.1.2.2.1 !=r15.1.2.2.1)=true then some ((false,()),())else(Ah8.F (r37.2.1,(1:Int),())).bind fun r48=>if (decide (r48.1.1<0))=true then some ((false,()),())else(Ah8.F (r38.2.1,r48.1.1,())).bind fun r49=>if (decide (r49.1.1<0))=true then some ((false,()),())else if (r49.1.1 !=r38.1.1)=true then some ((false,()),())else some ((true,()),())
theorem eq:F ((t_1,(t_2,(t_3,t_4))),a_5,a_6,a_7,())=T t_1 t_2 t_3 t_4 a_5 a_6 a_7:=eq_any fun k=>by kernel_rfl
theorem S:a3P prog ⟨4,sig,F⟩:=sound_k (res:=[.tmp 8]) func4 (⟨nM,mixed_ok,tab_ok tab_good,cM ⟨An9.S,cM ⟨Ah1.S,cM ⟨Ak0.S,cM ⟨Ae2.S,cM ⟨Ac0.S,cM ⟨Aa5.S,cM ⟨Aq2.S,cM ⟨Ag9.S,cM ⟨Aq3.S,cM ⟨Ah0.S,cM ⟨Ab4.S,cM ⟨Ah8.S,cM ⟨Ac1.S,cM ⟨Ad0.S,nM⟩⟩⟩⟩⟩⟩⟩⟩⟩⟩⟩⟩⟩⟩,nM,nM⟩)
end An8
end Go.Proofs.YtpdlhcgmejadnaaGreat
