/- The functions, as the machine runs them. -/
import Derived.Test.YtanmmcfiogamfaaGreatDifferenceOfG1
import Derived.Test.YtanmmcfiogamfaaGreatProg
import Derived.KernelRfl
import Derived.WalkKit
import Derived.Lib.Walk
import Derived.Lib.AppendZeros
import Derived.Sort.WalkA
import Derived.Sort.WalkB2
import Derived.Sort.WalkB12
import Derived.Deep.LoopGhost
import Derived.Shelf.RegionOpenPlain
import Derived.Lib.SliceRun
namespace Go.Proofs.YtanmmcfiogamfaaGreat
open Go Go.Vm
set_option linter.unusedVariables false
set_option linter.unusedSimpArgs false
open Go.Proofs.Tryz
namespace Ao2
noncomputable def sig : Sig := ⟨[pI, pI], [oI]⟩
noncomputable def cfg : Cfg := cf (cx [])
noncomputable def fin := finK cfg.c sig [.tmp 4]
noncomputable def F (d : Int × Int × Unit) : OI := anyK (a8N cfg fin (bd f110) (a5B sig.ps d 10))
variable (k_1 p_2 : Int)
noncomputable def T : OI := if (2 : Int) = 0 then none else if ((k_1.tmod (2 : Int)) == 0) = true then some ((1, ()), ()) else some ((IntKind.i64.wrap (p_2 - (1 : Int)), ()), ())
theorem eq : F (k_1, p_2, ()) = T k_1 p_2 := eq_any fun k => by kernel_rfl
theorem S : a2Z prog ⟨110, sig, F⟩ := sound_k (res := [.tmp 4]) func110 (cok nM)
end Ao2
namespace Ac2
noncomputable def sig : Sig := ⟨[pS, pI], [oM]⟩
noncomputable def cfg : Cfg := cl (cx [⟨65, Ac3.sig, Ac3.F⟩, ⟨97, Ab9.sig, Ab9.F⟩, ⟨105, Ap2.sig, Ap2.F⟩, ⟨106, Aa9.sig, Aa9.F⟩, ⟨107, Ab2.sig, Ab2.F⟩, ⟨108, Ab6.sig, Ab6.F⟩, ⟨109, Ai7.sig, Ai7.F⟩, ⟨110, Ao2.sig, Ao2.F⟩]) fun id => match id with | 3 => ([1, 2, 4, 5, 29, 30, 31], [8, 16, 20, 116]) | 7 => ([1, 2, 4, 5, 7, 29, 30, 31, 40, 41, 42], [8, 16, 20, 116, 160]) | 12 => ([1, 2, 4, 5, 7, 8, 10, 11, 12, 29, 30, 31, 40, 41, 42, 58, 59], [8, 16, 20, 40, 116, 160]) | 15 => ([1, 2, 4, 5, 7, 8, 10, 11, 12, 13, 29, 30, 31, 40, 41, 42, 58, 59, 63, 64], [8, 16, 20, 40, 116, 160]) | _ => ([], [])
noncomputable def fin := finK cfg.c sig [.cell 4 86]
noncomputable def F (d : SF × Int × Unit) : OM := anyK (a8N cfg fin (bd f64) (a5B sig.ps d 97))
variable (k : Nat) (i10 i11 i12 : Int) (x13 : LL) (i14 : Int) (x15 : LI) (x16 : LM) (i17 i18 i19 : Int) (x20 : LI) (i21 i22 i23 : Int) (x24 x25 : LI)
noncomputable def l3 : OM := Vm.runT cfg fin k [.inLoop (sub [1, 1, 0, 1, 0, 0] (bd f64)), .inBlock 0, .code (sub [1, 1, 1] (bd f64))] ⟨[dD, vI i10, .ref 8 (.root 0), dD, .ref 16 (.root 0), .ref 20 (.root 0), dD, dD, dD, dD, dD, dD, dD, dD, dD, dD, dD, dD, dD, dD, dD, dD, dD, dD, dD, dD, dD, dD, dD, .view 116 (.root 0) 1 false, vI i11, vI i12] ++ a7W 65, [(8, ⟨true, [cQ x13, cI i14, cL x15, ⟨(.sl TMatrix), .sh, x16⟩]⟩), (16, ⟨true, [cI i17, cI i18, cI i19, dL x20]⟩), (20, ⟨true, [cI i21, cI i22, cI i23, dL x24]⟩), (116, ⟨false, [dL x25]⟩)]⟩
variable (i27 i28 i29 i30 i31 i32 : Int) (x33 : LL) (i34 : Int) (x35 : LI) (x36 : LM) (i37 i38 i39 : Int) (x40 : LI) (i41 i42 i43 : Int) (x44 x45 x46 : LI)
noncomputable def l7 : OM := Vm.runT cfg fin k [.inLoop (sub [1, 1, 0, 1, 0, 0, 1, 1, 0, 0, 1, 1, 1, 0, 0] (bd f64)), .inBlock 2, .inBlock 1, .code (sub [1, 1, 0, 1, 0, 0, 1, 1, 1] (bd f64)), .inLoop (sub [1, 1, 0, 1, 0, 0] (bd f64)), .inBlock 0, .code (sub [1, 1, 1] (bd f64))] ⟨[dD, vI i27, .ref 8 (.root 0), dD, .ref 16 (.root 0), .ref 20 (.root 0), dD, vI i28, dD, dD, dD, dD, dD, dD, dD, dD, dD, dD, dD, dD, dD, dD, dD, dD, dD, dD, dD, dD, dD, .view 116 (.root 0) 1 false, vI i29, vI i30, dD, dD, dD, dD, dD, dD, dD, dD, .view 160 (.root 0) 1 false, vI i31, vI i32] ++ a7W 54, [(8, ⟨true, [cQ x33, cI i34, cL x35, ⟨(.sl TMatrix), .sh, x36⟩]⟩), (16, ⟨true, [cI i37, cI i38, cI i39, dL x40]⟩), (20, ⟨true, [cI i41, cI i42, cI i43, dL x44]⟩), (116, ⟨false, [dL x45]⟩), (160, ⟨false, [dL x46]⟩)]⟩
variable (i50 i51 i52 i53 i54 i55 i56 i57 i58 i59 i60 : Int) (x61 : LL) (i62 : Int) (x63 : LI) (x64 : LM) (i65 i66 i67 : Int) (x68 : LI) (i69 i70 i71 : Int) (x72 : LI) (i73 i74 i75 : Int) (x76 x77 x78 : LI)
noncomputable def l12 : OM := Vm.runT cfg fin k [.inLoop (sub [1, 1, 0, 1, 0, 0, 1, 1, 0, 0, 1, 1, 1, 0, 0, 1, 1, 0, 0, 1, 1, 1, 1, 0, 0] (bd f64)), .inBlock 4, .inBlock 3, .code (sub [1, 1, 0, 1, 0, 0, 1, 1, 0, 0, 1, 1, 1, 0, 0, 1, 1, 1] (bd f64)), .inLoop (sub [1, 1, 0, 1, 0, 0, 1, 1, 0, 0, 1, 1, 1, 0, 0] (bd f64)), .inBlock 2, .inBlock 1, .code (sub [1, 1, 0, 1, 0, 0, 1, 1, 1] (bd f64)), .inLoop (sub [1, 1, 0, 1, 0, 0] (bd f64)), .inBlock 0, .code (sub [1, 1, 1] (bd f64))] ⟨[dD, vI i50, .ref 8 (.root 0), dD, .ref 16 (.root 0), .ref 20 (.root 0), dD, vI i51, vI i52, dD, .ref 40 (.root 0), vI i53, vI i54, dD, dD, dD, dD, dD, dD, dD, dD, dD, dD, dD, dD, dD, dD, dD, dD, .view 116 (.root 0) 1 false, vI i55, vI i56, dD, dD, dD, dD, dD, dD, dD, dD, .view 160 (.root 0) 1 false, vI i57, vI i58, dD, dD, dD, dD, dD, dD, dD, dD, dD, dD, dD, dD, dD, dD, dD, vI i59, vI i60] ++ a7W 37, [(8, ⟨true, [cQ x61, cI i62, cL x63, ⟨(.sl TMatrix), .sh, x64⟩]⟩), (16, ⟨true, [cI i65, cI i66, cI i67, dL x68]⟩), (20, ⟨true, [cI i69, cI i70, cI i71, dL x72]⟩), (40, ⟨true, [cI i73, cI i74, cI i75, cL x76]⟩), (116, ⟨false, [dL x77]⟩), (160, ⟨false, [dL x78]⟩)]⟩
variable (i79 i80 i81 i82 i83 i84 i85 i86 i87 i88 i89 i90 i91 i92 : Int) (x93 : LL) (i94 : Int) (x95 : LI) (x96 : LM) (i97 i98 i99 : Int) (x100 : LI) (i101 i102 i103 : Int) (x104 : LI) (i105 i106 i107 : Int) (x108 x109 x110 : LI)
noncomputable def l15 : OM := Vm.runT cfg fin k [.inLoop (sub [1, 1, 0, 1, 0, 0, 1, 1, 0, 0, 1, 1, 1, 0, 0, 1, 1, 0, 0, 1, 1, 1, 1, 0, 0, 1, 1, 0, 0, 1, 1, 0, 0] (bd f64)), .inBlock 6, .inBlock 5, .code (sub [1, 1, 0, 1, 0, 0, 1, 1, 0, 0, 1, 1, 1, 0, 0, 1, 1, 0, 0, 1, 1, 1, 1, 0, 0, 1, 1, 1] (bd f64)), .inLoop (sub [1, 1, 0, 1, 0, 0, 1, 1, 0, 0, 1, 1, 1, 0, 0, 1, 1, 0, 0, 1, 1, 1, 1, 0, 0] (bd f64)), .inBlock 4, .inBlock 3, .code (sub [1, 1, 0, 1, 0, 0, 1, 1, 0, 0, 1, 1, 1, 0, 0, 1, 1, 1] (bd f64)), .inLoop (sub [1, 1, 0, 1, 0, 0, 1, 1, 0, 0, 1, 1, 1, 0, 0] (bd f64)), .inBlock 2, .inBlock 1, .code (sub [1, 1, 0, 1, 0, 0, 1, 1, 1] (bd f64)), .inLoop (sub [1, 1, 0, 1, 0, 0] (bd f64)), .inBlock 0, .code (sub [1, 1, 1] (bd f64))] ⟨[dD, vI i79, .ref 8 (.root 0), dD, .ref 16 (.root 0), .ref 20 (.root 0), dD, vI i80, vI i81, dD, .ref 40 (.root 0), vI i82, vI i83, vI i84, dD, dD, dD, dD, dD, dD, dD, dD, dD, dD, dD, dD, dD, dD, dD, .view 116 (.root 0) 1 false, vI i85, vI i86, dD, dD, dD, dD, dD, dD, dD, dD, .view 160 (.root 0) 1 false, vI i87, vI i88, dD, dD, dD, dD, dD, dD, dD, dD, dD, dD, dD, dD, dD, dD, dD, vI i89, vI i90, dD, dD, dD, vI i91, vI i92] ++ a7W 32, [(8, ⟨true, [cQ x93, cI i94, cL x95, ⟨(.sl TMatrix), .sh, x96⟩]⟩), (16, ⟨true, [cI i97, cI i98, cI i99, dL x100]⟩), (20, ⟨true, [cI i101, cI i102, cI i103, dL x104]⟩), (40, ⟨true, [cI i105, cI i106, cI i107, cL x108]⟩), (116, ⟨false, [dL x109]⟩), (160, ⟨false, [dL x110]⟩)]⟩
theorem l3_eq : l3 (k + 1) i10 i11 i12 x13 i14 x15 x16 i17 i18 i19 x20 i21 i22 i23 x24 x25 = if (decide (i12 < i11)) = true then if 0 ≤ i12 ∧ i12 < (x25.length : Int) then if (decide (i10 < 0)) = true then some (((i21, (i22, (i23, x24))), ()), ()) else (Ab2.F (x13, (x25.getD i12.toNat 0 : Int), ())).bind fun r26 => l7 k i10 (x25.getD i12.toNat 0 : Int) i11 i12 (r26.1.1.length : Int) (0 : Int) x13 i14 x15 x16 i17 i18 i19 x20 i21 i22 i23 x24 x25 r26.1.1 else none else some (((i21, (i22, (i23, x24))), ()), ()) := by kernel_rfl
theorem l7_eq : l7 (k + 1) i27 i28 i29 i30 i31 i32 x33 i34 x35 x36 i37 i38 i39 x40 i41 i42 i43 x44 x45 x46 = if (decide (i32 < i31)) = true then if 0 ≤ i32 ∧ i32 < (x46.length : Int) then (Ab6.F ((x33, (i34, (x35, x36))), i28, i32, ())).bind fun r47 => (Ab9.F ((x33, (i34, (x35, x36))), i28, ())).bind fun r48 => (Ab9.F ((x33, (i34, (x35, x36))), (x46.getD i32.toNat 0 : Int), ())).bind fun r49 => l12 k i27 i28 i32 r48.1.1 r49.1.1 i29 i30 i31 i32 r47.1.1.2.1 (0 : Int) x33 i34 x35 x36 i37 i38 i39 x40 i41 i42 i43 x44 r47.1.1.1 r47.1.1.2.1 r47.1.1.2.2.1 r47.1.1.2.2.2 x45 x46 else none else l3 k i27 i29 (IntKind.i64.wrap (i30 + 1)) x33 i34 x35 x36 i37 i38 i39 x40 i41 i42 i43 x44 x45 := by kernel_rfl
theorem l12_eq : l12 (k + 1) i50 i51 i52 i53 i54 i55 i56 i57 i58 i59 i60 x61 i62 x63 x64 i65 i66 i67 x68 i69 i70 i71 x72 i73 i74 i75 x76 x77 x78 = if (decide (i60 < i59)) = true then l15 k i50 i51 i52 i53 i54 i60 i55 i56 i57 i58 i59 i60 i75 (0 : Int) x61 i62 x63 x64 i65 i66 i67 x68 i69 i70 i71 x72 i73 i74 i75 x76 x77 x78 else l7 k i50 i51 i55 i56 i57 (IntKind.i64.wrap (i58 + 1)) x61 i62 x63 x64 i65 i66 i67 x68 i69 i70 i71 x72 x77 x78 := by kernel_rfl
theorem l15_eq : l15 (k + 1) i79 i80 i81 i82 i83 i84 i85 i86 i87 i88 i89 i90 i91 i92 x93 i94 x95 x96 i97 i98 i99 x100 i101 i102 i103 x104 i105 i106 i107 x108 x109 x110 = if (decide (i92 < i91)) = true then (Ai7.F ((i105, (i106, (i107, x108))), i84, i92, ())).bind fun r111 => (Ao2.F (i81, i94, ())).bind fun r112 => if i94 = 0 then none else if 0 ≤ (IntKind.i64.wrap ((IntKind.i64.wrap ((IntKind.i64.wrap ((IntKind.i64.wrap (i82 + i84)) * i103)) + i83)) + i92)) ∧ (IntKind.i64.wrap ((IntKind.i64.wrap ((IntKind.i64.wrap ((IntKind.i64.wrap (i82 + i84)) * i103)) + i83)) + i92)) < (x104.length : Int) then let y113 : LI := x104.set (IntKind.i64.wrap ((IntKind.i64.wrap ((IntKind.i64.wrap ((IntKind.i64.wrap (i82 + i84)) * i103)) + i83)) + i92)).toNat ((IntKind.i64.wrap (r111.1.1 * r112.1.1)).tmod i94); l15 k i79 i80 i81 i82 i83 i84 i85 i86 i87 i88 i89 i90 i91 (IntKind.i64.wrap (i92 + 1)) x93 i94 x95 x96 i97 i98 i99 x100 i101 i102 i103 y113 i105 i106 i107 x108 x109 x110 else none else l12 k i79 i80 i81 i82 i83 i85 i86 i87 i88 i89 (IntKind.i64.wrap (i90 + 1)) x93 i94 x95 x96 i97 i98 i99 x100 i101 i102 i103 x104 i105 i106 i107 x108 x109 x110 := by kernel_rfl
variable (toArray_1 : LL) (toArray_2 : Int) (toArray_3 : LI) (toArray_4 : LM) (a_5 : Int)
noncomputable def T : OM := (Aa9.F ((toArray_1, (toArray_2, (toArray_3, toArray_4))), IntKind.i64.wrap (a_5 + (1 : Int)), ())).bind fun r6 => (Aa9.F ((toArray_1, (toArray_2, (toArray_3, toArray_4))), a_5, ())).bind fun r7 => (Ap2.F (toArray_2, r6.1.1, r7.1.1, ())).bind fun r8 => (Ac3.F (toArray_1, IntKind.i64.wrap (a_5 + (1 : Int)), ())).bind fun r9 => l3 k a_5 (r9.1.1.length : Int) (0 : Int) toArray_1 toArray_2 toArray_3 toArray_4 0 0 0 ([]) r8.1.1.1 r8.1.1.2.1 r8.1.1.2.2.1 r8.1.1.2.2.2 r9.1.1
theorem of {r} (h : Ev (fun k => T k toArray_1 toArray_2 toArray_3 toArray_4 a_5) r) : F ((toArray_1, (toArray_2, (toArray_3, toArray_4))), a_5, ()) = some r := Ev.run (fun k => by kernel_rfl) h
theorem S : a2Z prog ⟨64, sig, F⟩ := sound_k (res := [.cell 4 86]) func64 (cok (cM ⟨Ac3.S, cM ⟨Ab9.S, cM ⟨Ap2.S, cM ⟨Aa9.S, cM ⟨Ab2.S, cM ⟨Ab6.S, cM ⟨Ai7.S, cM ⟨Ao2.S, nM⟩⟩⟩⟩⟩⟩⟩⟩))
end Ac2
namespace Ao7
noncomputable def sig : Sig := ⟨[pL, pI, pI], [oB]⟩
noncomputable def cfg : Cfg := cf (cx [⟨111, Ab3.sig, Ab3.F⟩, ⟨182, Ah5.sig, Ah5.F⟩])
noncomputable def fin := finK cfg.c sig [.tmp 6]
noncomputable def F (d : LI × Int × Int × Unit) : OB := anyK (a8N cfg fin (bd f143) (a5B sig.ps d 16))
variable (x_1 : LI) (length_2 p_3 : Int)
noncomputable def T : OB := (Ab3.F (x_1, ())).bind fun r4 => if (r4.1.1 == length_2) = true then (Ah5.F (x_1, p_3, ())).bind fun r5 => some ((r5.1.1, ()), ()) else some ((false, ()), ())
theorem eq : F (x_1, length_2, p_3, ()) = T x_1 length_2 p_3 := eq_any fun k => by kernel_rfl
theorem S : a2Z prog ⟨143, sig, F⟩ := sound_k (res := [.tmp 6]) func143 (cok (cM ⟨Ab3.S, cM ⟨Ah5.S, nM⟩⟩))
end Ao7
namespace Af7
noncomputable def sig : Sig := ⟨[pS, pL], [oB]⟩
noncomputable def cfg : Cfg := cf (cx [⟨55, Ar1.sig, Ar1.F⟩, ⟨63, Al4.sig, Al4.F⟩, ⟨64, Ac2.sig, Ac2.F⟩, ⟨106, Aa9.sig, Aa9.F⟩, ⟨143, Ao7.sig, Ao7.F⟩])
noncomputable def fin := finK cfg.c sig [.tmp 4]
noncomputable def F (d : SF × LI × Unit) : OB := anyK (a8N cfg fin (bd f90) (a5B sig.ps d 18))
variable (s_1 : LL) (s_2 : Int) (s_3 : LI) (s_4 : LM) (x_5 : LI)
noncomputable def T : OB := (Aa9.F ((s_1, (s_2, (s_3, s_4))), (0 : Int), ())).bind fun r6 => (Ao7.F (x_5, r6.1.1, s_2, ())).bind fun r7 => if r7.1.1 = true then (Ac2.F ((s_1, (s_2, (s_3, s_4))), (0 : Int), ())).bind fun r8 => (Al4.F (r8.1.1, x_5, ())).bind fun r9 => (Ar1.F (r9.1.1, ())).bind fun r10 => some ((r10.1.1, ()), ()) else some ((false, ()), ())
theorem eq : F ((s_1, (s_2, (s_3, s_4))), x_5, ()) = T s_1 s_2 s_3 s_4 x_5 := eq_any fun k => by kernel_rfl
theorem S : a2Z prog ⟨90, sig, F⟩ := sound_k (res := [.tmp 4]) func90 (cok (cM ⟨Ar1.S, cM ⟨Al4.S, cM ⟨Ac2.S, cM ⟨Aa9.S, cM ⟨Ao7.S, nM⟩⟩⟩⟩⟩))
end Af7
namespace Aj6
noncomputable def sig : Sig := ⟨[pS, pC, pC, pL, pL], [oI]⟩
noncomputable def cfg : Cfg := cf (cx [⟨39, Ae2.sig, Ae2.F⟩, ⟨89, Aj7.sig, Aj7.F⟩, ⟨90, Af7.sig, Af7.F⟩])
noncomputable def fin := finK cfg.c sig [.tmp 10]
noncomputable def F (d : SF × LL × LL × LI × LI × Unit) : OI := anyK (a8N cfg fin (bd f48) (a5B sig.ps d 33))
variable (s_1 : LL) (s_2 : Int) (s_3 : LI) (s_4 : LM) (a_5 b_6 : LL) (x_7 y_8 : LI)
noncomputable def T : OI := (Aj7.F ((s_1, (s_2, (s_3, s_4))), a_5, b_6, ())).bind fun r9 => if (r9.1.1 != 0) = true then some ((r9.1.1, ()), ()) else (Ae2.F ((s_1, (s_2, (s_3, s_4))), a_5, ())).bind fun r10 => (Af7.F (r10.1.1, x_7, ())).bind fun r11 => if (!r11.1.1) = true then some ((7, ()), ()) else (Ae2.F ((s_1, (s_2, (s_3, s_4))), b_6, ())).bind fun r12 => (Af7.F (r12.1.1, y_8, ())).bind fun r13 => if (!r13.1.1) = true then some ((7, ()), ()) else some ((0, ()), ())
theorem eq : F ((s_1, (s_2, (s_3, s_4))), a_5, b_6, x_7, y_8, ()) = T s_1 s_2 s_3 s_4 a_5 b_6 x_7 y_8 := eq_any fun k => by kernel_rfl
theorem S : a2Z prog ⟨48, sig, F⟩ := sound_k (res := [.tmp 10]) func48 (cok (cM ⟨Ae2.S, cM ⟨Aj7.S, cM ⟨Af7.S, nM⟩⟩⟩))
end Aj6
namespace Al5
noncomputable def sig : Sig := ⟨[pC, .fnx ⟨[(false, tL)], [oB]⟩], [oC]⟩
noncomputable def cfg : Cfg := ⟨cx [⟨151, Ad2.sig, Ad2.F⟩], [], [], fun id => match id with | 3 => ([1, 4, 5, 9, 10, 11], [16, 20]) | _ => ([], []), fun id => match id with | 3 => [20] | _ => []⟩
noncomputable def fin := finK cfg.c sig [.cell 4 31]
noncomputable def F (d : LL × ((LI × Unit) → Option (Bool × Unit)) × Unit) : OQ := anyK (a8N cfg fin (bd f101) (a5B sig.ps d 25))
variable (k : Nat) (f3 : (LI × Unit) → Option (Bool × Unit)) (x4 : LL) (i5 i6 : Int) (x7 x8 : LL)
noncomputable def l3 : OQ := Vm.runT cfg fin k [.inLoop (sub [1, 1, 0, 1, 0, 0] (bd f101)), .inBlock 0, .code (sub [1, 1, 1] (bd f101))] ⟨[dD, .fnx ⟨[(false, tL)], [(.val false, .bool, .deep)]⟩ f3, dD, dD, .ref 16 (.root 0), .view 20 (.root 0) 1 false, dD, dD, dD, vQ x4, vI i5, vI i6] ++ a7W 13, [(16, ⟨true, [dQ x7]⟩), (20, ⟨false, [⟨tQ, .shal, x8⟩]⟩)]⟩
theorem l3_eq : l3 (k + 1) f3 x4 i5 i6 x7 x8 = if (decide (i6 < i5)) = true then if 0 ≤ i6 ∧ i6 < (x4.length : Int) then (f3 (x4.getD i6.toNat ([] : LI), ())).bind fun r9 => if r9.1 = true then if x8.length + [x4.getD i6.toNat ([] : LI)].length ≤ bigA then l3 k f3 x4 i5 (IntKind.i64.wrap (i6 + 1)) x7 (x8 ++ [x4.getD i6.toNat ([] : LI)]) else none else l3 k f3 x4 i5 (IntKind.i64.wrap (i6 + 1)) x7 x8 else none else (Ad2.F (x8, ())).bind fun r10 => some ((r10.1.1, ()), ()) := by kernel_rfl
variable (c_1 : LL) (f_2 : (LI × Unit) → Option (Bool × Unit))
noncomputable def T : OQ := l3 k f_2 c_1 (c_1.length : Int) (0 : Int) ([] : LL) ([])
theorem of {r} (h : Ev (fun k => T k c_1 f_2) r) : F (c_1, f_2, ()) = some r := Ev.run (fun k => by kernel_rfl) h
theorem S : a2Z prog ⟨101, sig, F⟩ := sound_k (res := [.cell 4 31]) func101 (cok (cM ⟨Ad2.S, nM⟩))
end Al5
namespace Ar8
noncomputable def sig : Sig := ⟨[pL, qC], [oB]⟩
noncomputable def cfg : Cfg := cf (cx [⟨57, Aa8.sig, Aa8.F⟩])
noncomputable def fin := finK cfg.c sig [.tmp 3]
noncomputable def F (d : LI × LL × Unit) : OB := anyK (a8N cfg fin (bd f102) (a5B sig.ps d 8))
variable (s_1 : LI) (a_2 : LL)
noncomputable def T : OB := (Aa8.F (a_2, s_1, ())).bind fun r3 => some ((decide (r3.1.1 ≥ 0), ()), ())
theorem eq : F (s_1, a_2, ()) = T s_1 a_2 := eq_any fun k => by kernel_rfl
theorem S : a2Z prog ⟨102, sig, F⟩ := sound_k (res := [.tmp 3]) func102 (cok (cM ⟨Aa8.S, nM⟩))
noncomputable def cloG (y : LL × Unit) (d : LI × Unit) : Option (Bool × Unit) := (F (a8s [.rptr tQ] [(false, tL)] d y)).map (·.1)
noncomputable def clo : Clo := ⟨102, ⟨[(false, tL)], [(.val false, .bool, .deep)]⟩, [.rptr tQ], cloG⟩
theorem cloS : a4i prog clo := sound_clo (s := ⟨[(false, tL)], [(.val false, .bool, .deep)]⟩) (caps := [.rptr tQ]) rfl S
end Ar8
namespace Ao8
noncomputable def sig : Sig := ⟨[pC, pC], [oC]⟩
noncomputable def cfg : Cfg := cf ⟨a2H tabl, [⟨101, Al5.sig, Al5.F⟩], [Ar8.clo], [], [], []⟩
noncomputable def fin := finK cfg.c sig [.cell 4 31]
noncomputable def F (d : LL × LL × Unit) : OQ := anyK (a8N cfg fin (bd f62) (a5B sig.ps d 8))
variable (a_1 b_2 : LL)
noncomputable def T : OQ := (Al5.F (a_1, Ar8.cloG (b_2, ()), ())).bind fun r3 => some ((r3.1.1, ()), ())
theorem eq : F (a_1, b_2, ()) = T a_1 b_2 := eq_any fun k => by kernel_rfl
theorem S : a2Z prog ⟨62, sig, F⟩ := sound_k (res := [.cell 4 31]) func62 (⟨nM, mixed_ok, tab_ok tab_good, cM ⟨Al5.S, nM⟩, cM ⟨Ar8.cloS, nM⟩, nM⟩)
end Ao8
namespace Af2
noncomputable def sig : Sig := ⟨[pS, pL, pI], [oL]⟩
noncomputable def cfg : Cfg := cf (cx [⟨97, Ab9.sig, Ab9.F⟩, ⟨98, Ab5.sig, Ab5.F⟩])
noncomputable def fin := finK cfg.c sig [.tmp 6]
noncomputable def F (d : SF × LI × Int × Unit) : OL := anyK (a8N cfg fin (bd f58) (a5B sig.ps d 22))
variable (s_1 : LL) (s_2 : Int) (s_3 : LI) (s_4 : LM) (x_5 : LI) (simplex_6 : Int)
noncomputable def T : OL := (Ab9.F ((s_1, (s_2, (s_3, s_4))), simplex_6, ())).bind fun r7 => if 0 ≤ simplex_6 ∧ simplex_6 < (s_3.length : Int) then if 0 ≤ r7.1.1 ∧ r7.1.1 ≤ (IntKind.i64.wrap (r7.1.1 + (s_3.getD simplex_6.toNat 0 : Int))) ∧ (IntKind.i64.wrap (r7.1.1 + (s_3.getD simplex_6.toNat 0 : Int))) ≤ (x_5.length : Int) then (Ab5.F (cutL x_5 r7.1.1 (IntKind.i64.wrap (r7.1.1 + (s_3.getD simplex_6.toNat 0 : Int))), ())).bind fun r8 => some ((r8.1.1, ()), ()) else none else none
theorem eq : F ((s_1, (s_2, (s_3, s_4))), x_5, simplex_6, ()) = T s_1 s_2 s_3 s_4 x_5 simplex_6 := eq_any fun k => by kernel_rfl
theorem S : a2Z prog ⟨58, sig, F⟩ := sound_k (res := [.tmp 6]) func58 (cok (cM ⟨Ab9.S, cM ⟨Ab5.S, nM⟩⟩))
end Af2
namespace Ae8
noncomputable def sig : Sig := ⟨[pS, pC, pI, pL], [oL]⟩
noncomputable def cfg : Cfg := cl (cx [⟨57, Aa8.sig, Aa8.F⟩, ⟨58, Af2.sig, Af2.F⟩, ⟨65, Ac3.sig, Ac3.F⟩]) fun id => match id with | 3 => ([3, 4, 5, 9, 14, 15, 16], [16, 20, 36, 56]) | _ => ([], [])
noncomputable def fin := finK cfg.c sig [.tmp 8]
noncomputable def F (d : SF × LL × Int × LI × Unit) : OL := anyK (a8N cfg fin (bd f91) (a5B sig.ps d 35))
variable (k : Nat) (x9 : LI) (i10 i11 : Int) (x12 : LL) (i13 : Int) (x14 : LI) (x15 : LM) (x16 : LL) (x17 x18 : LI)
noncomputable def l3 : OL := Vm.runT cfg fin k [.inLoop (sub [1, 1, 0, 1, 0, 0] (bd f91)), .inBlock 0, .code (sub [1, 1, 1] (bd f91))] ⟨[dD, dD, dD, vL x9, .ref 16 (.root 0), .ref 20 (.root 0), dD, dD, dD, .view 36 (.root 0) 1 false, dD, dD, dD, dD, .view 56 (.root 0) 1 false, vI i10, vI i11] ++ a7W 18, [(16, ⟨true, [cQ x12, cI i13, cL x14, ⟨(.sl TMatrix), .sh, x15⟩]⟩), (20, ⟨true, [cQ x16]⟩), (36, ⟨false, [dL x17]⟩), (56, ⟨false, [dL x18]⟩)]⟩
theorem l3_eq : l3 (k + 1) x9 i10 i11 x12 i13 x14 x15 x16 x17 x18 = if (decide (i11 < i10)) = true then if 0 ≤ i11 ∧ i11 < (x18.length : Int) then if 0 ≤ (x18.getD i11.toNat 0 : Int) ∧ (x18.getD i11.toNat 0 : Int) < (x16.length : Int) then (Aa8.F (x12, x16.getD (x18.getD i11.toNat 0 : Int).toNat ([] : LI), ())).bind fun r19 => (Af2.F ((x12, (i13, (x14, x15))), x9, r19.1.1, ())).bind fun r20 => if x17.length + r20.1.1.length ≤ bigA then l3 k x9 i10 (IntKind.i64.wrap (i11 + 1)) x12 i13 x14 x15 x16 (x17 ++ r20.1.1) x18 else none else none else none else some ((x17, ()), ()) := by kernel_rfl
variable (s_1 : LL) (s_2 : Int) (s_3 : LI) (s_4 : LM) (p_5 : LL) (k_6 : Int) (x_7 : LI)
noncomputable def T : OL := (Ac3.F (p_5, k_6, ())).bind fun r8 => l3 k x_7 (r8.1.1.length : Int) (0 : Int) s_1 s_2 s_3 s_4 p_5 ([]) r8.1.1
theorem of {r} (h : Ev (fun k => T k s_1 s_2 s_3 s_4 p_5 k_6 x_7) r) : F ((s_1, (s_2, (s_3, s_4))), p_5, k_6, x_7, ()) = some r := Ev.run (fun k => by kernel_rfl) h
theorem S : a2Z prog ⟨91, sig, F⟩ := sound_k (res := [.tmp 8]) func91 (cok (cM ⟨Aa8.S, cM ⟨Af2.S, cM ⟨Ac3.S, nM⟩⟩⟩))
end Ae8
namespace Al3
noncomputable def sig : Sig := ⟨[pL, pL, pI, pI], [oL]⟩
noncomputable def cfg : Cfg := cl (cx []) fun id => match id with | 3 => ([0, 1, 2, 3, 9, 12, 13], [36]) | _ => ([], [])
noncomputable def fin := finK cfg.c sig [.tmp 8]
noncomputable def F (d : LI × LI × Int × Int × Unit) : OL := anyK (a8N cfg fin (bd f92) (a5B sig.ps d 34))
variable (k : Nat) (x5 x6 : LI) (i7 i8 i9 i10 : Int) (x11 : LI)
noncomputable def l3 : OL := Vm.runT cfg fin k [.inLoop (sub [1, 1, 0, 1, 0, 0] (bd f92)), .inBlock 0, .code (sub [1, 1, 1] (bd f92))] ⟨[vL x5, vL x6, vI i7, vI i8, dD, dD, dD, dD, dD, .view 36 (.root 0) 1 false, dD, dD, vI i9, vI i10] ++ a7W 20, [(36, ⟨false, [dL x11]⟩)]⟩
theorem l3_eq : l3 (k + 1) x5 x6 i7 i8 i9 i10 x11 = if (decide (i10 < i9)) = true then if 0 ≤ i10 ∧ i10 < (x5.length : Int) then if 0 ≤ i10 ∧ i10 < (x6.length : Int) then if i8 = 0 then none else if x11.length + [(IntKind.i64.wrap ((x5.getD i10.toNat 0 : Int) + (IntKind.i64.wrap (i7 * (x6.getD i10.toNat 0 : Int))))).tmod i8].length ≤ bigA then l3 k x5 x6 i7 i8 i9 (IntKind.i64.wrap (i10 + 1)) (x11 ++ [(IntKind.i64.wrap ((x5.getD i10.toNat 0 : Int) + (IntKind.i64.wrap (i7 * (x6.getD i10.toNat 0 : Int))))).tmod i8]) else none else none else none else some ((x11, ()), ()) := by kernel_rfl
variable (a_1 b_2 : LI) (c_3 p_4 : Int)
noncomputable def T : OL := l3 k a_1 b_2 c_3 p_4 (a_1.length : Int) (0 : Int) ([])
theorem of {r} (h : Ev (fun k => T k a_1 b_2 c_3 p_4) r) : F (a_1, b_2, c_3, p_4, ()) = some r := Ev.run (fun k => by kernel_rfl) h
theorem S : a2Z prog ⟨92, sig, F⟩ := sound_k (res := [.tmp 8]) func92 (cok nM)
end Al3
namespace Aj8
noncomputable def sig : Sig := ⟨[pS, pC, pC, pL, pL], [oL]⟩
noncomputable def cfg : Cfg := cf (cx [⟨39, Ae2.sig, Ae2.F⟩, ⟨62, Ao8.sig, Ao8.F⟩, ⟨91, Ae8.sig, Ae8.F⟩, ⟨92, Al3.sig, Al3.F⟩])
noncomputable def fin := finK cfg.c sig [.tmp 10]
noncomputable def F (d : SF × LL × LL × LI × LI × Unit) : OL := anyK (a8N cfg fin (bd f49) (a5B sig.ps d 37))
variable (s_1 : LL) (s_2 : Int) (s_3 : LI) (s_4 : LM) (a_5 b_6 : LL) (x_7 y_8 : LI)
noncomputable def T : OL := (Ao8.F (a_5, b_6, ())).bind fun r9 => (Ae2.F ((s_1, (s_2, (s_3, s_4))), a_5, ())).bind fun r10 => (Ae8.F (r10.1.1, r9.1.1, (0 : Int), x_7, ())).bind fun r11 => (Ae2.F ((s_1, (s_2, (s_3, s_4))), b_6, ())).bind fun r12 => (Ae8.F (r12.1.1, r9.1.1, (0 : Int), y_8, ())).bind fun r13 => (Al3.F (r11.1.1, r13.1.1, IntKind.i64.wrap (s_2 - (1 : Int)), s_2, ())).bind fun r14 => some ((r14.1.1, ()), ())
theorem eq : F ((s_1, (s_2, (s_3, s_4))), a_5, b_6, x_7, y_8, ()) = T s_1 s_2 s_3 s_4 a_5 b_6 x_7 y_8 := eq_any fun k => by kernel_rfl
theorem S : a2Z prog ⟨49, sig, F⟩ := sound_k (res := [.tmp 10]) func49 (cok (cM ⟨Ae2.S, cM ⟨Ao8.S, cM ⟨Ae8.S, cM ⟨Al3.S, nM⟩⟩⟩⟩))
end Aj8
namespace Aj4
noncomputable def sig : Sig := ⟨[pS, pC, pC, pL, pL], [oL, oI]⟩
noncomputable def cfg : Cfg := cf (cx [⟨48, Aj6.sig, Aj6.F⟩, ⟨49, Aj8.sig, Aj8.F⟩])
noncomputable def fin := finK cfg.c sig [.tmp 10, .tmp 11]
noncomputable def F (d : SF × LL × LL × LI × LI × Unit) : Option ((LI × Int × Unit) × (Unit)) := anyK (a8N cfg fin (bd f20) (a5B sig.ps d 28))
variable (s_1 : LL) (s_2 : Int) (s_3 : LI) (s_4 : LM) (a_5 b_6 : LL) (x_7 y_8 : LI)
noncomputable def T : Option ((LI × Int × Unit) × (Unit)) := (Aj6.F ((s_1, (s_2, (s_3, s_4))), a_5, b_6, x_7, y_8, ())).bind fun r9 => if (r9.1.1 != 0) = true then some (([], (r9.1.1, ())), ()) else (Aj8.F ((s_1, (s_2, (s_3, s_4))), a_5, b_6, x_7, y_8, ())).bind fun r10 => some ((r10.1.1, ((0 : Int), ())), ())
theorem eq : F ((s_1, (s_2, (s_3, s_4))), a_5, b_6, x_7, y_8, ()) = T s_1 s_2 s_3 s_4 a_5 b_6 x_7 y_8 := eq_any fun k => by kernel_rfl
theorem S : a2Z prog ⟨20, sig, F⟩ := sound_k (res := [.tmp 10, .tmp 11]) func20 (cok (cM ⟨Aj6.S, cM ⟨Aj8.S, nM⟩⟩))
end Aj4
namespace Aj0
noncomputable def sig : Sig := ⟨[pL, pI], [oI]⟩
noncomputable def cfg : Cfg := cl (cx []) fun id => match id with | 2 => ([0, 1, 5], []) | _ => ([], [])
noncomputable def fin := finK cfg.c sig [.tmp 4]
noncomputable def F (d : LI × Int × Unit) : OI := anyK (a8N cfg fin (bd f23) (a5B sig.ps d 21))
variable (k : Nat) (x3 : LI) (i4 i5 : Int)
noncomputable def l2 : OI := Vm.runT cfg fin k [.inLoop (sub [1, 0, 1, 0, 0] (bd f23)), .inBlock 0, .code (sub [1, 1] (bd f23))] ⟨[vL x3, vI i4, dD, dD, dD, vI i5] ++ a7W 15, []⟩
theorem l2_eq : l2 (k + 1) x3 i4 i5 = if (decide (i5 < (x3.length : Int))) = true then if 0 ≤ i5 ∧ i5 < (x3.length : Int) then if ((x3.getD i5.toNat 0 : Int) != i4) = true then some (((-1 : Int), ()), ()) else l2 k x3 (IntKind.i64.wrap (i4 + 1)) (IntKind.i64.wrap (i5 + 1)) else none else some ((i4, ()), ()) := by kernel_rfl
variable (a_1 : LI) (k_2 : Int)
noncomputable def T : OI := l2 k a_1 k_2 (0 : Int)
theorem of {r} (h : Ev (fun k => T k a_1 k_2) r) : F (a_1, k_2, ()) = some r := Ev.run (fun k => by kernel_rfl) h
theorem S : a2Z prog ⟨23, sig, F⟩ := sound_k (res := [.tmp 4]) func23 (cok nM)
end Aj0
namespace An0
noncomputable def sig : Sig := ⟨[pS, pC, pC, pL, pL], [oB]⟩
noncomputable def cfg : Cfg := cf ⟨a2H tabl, [⟨7, An1.sig, An1.F⟩, ⟨8, Ag2.sig, Ag2.F⟩, ⟨10, Aj1.sig, Aj1.F⟩, ⟨11, Ad3.sig, Ad3.F⟩, ⟨13, Ap4.sig, Ap4.F⟩, ⟨14, Ag0.sig, Ag0.F⟩, ⟨15, Ap5.sig, Ap5.F⟩, ⟨16, Ag1.sig, Ag1.F⟩, ⟨18, Am2.sig, Am2.F⟩, ⟨19, Aa6.sig, Aa6.F⟩, ⟨20, Aj4.sig, Aj4.F⟩, ⟨21, Aa2.sig, Aa2.F⟩, ⟨22, Aa7.sig, Aa7.F⟩, ⟨23, Aj0.sig, Aj0.F⟩], [], [], [], [12, 24]⟩
noncomputable def fin := finK cfg.c sig [.tmp 10]
noncomputable def F (d : SF × LL × LL × LI × LI × Unit) : OB := anyK (a8N cfg fin (bd f4) (a5B sig.ps d 184))
variable (toArray_1 : LL) (toArray_2 : Int) (toArray_3 : LI) (toArray_4 : LM) (a_5 a_6 : LL) (a_7 a_8 : LI)
noncomputable def T : OB := if (decide ((a_7.length : Int) > 1048576)) = true then some ((true, ()), ()) else if (decide ((a_8.length : Int) > 1048576)) = true then some ((true, ()), ()) else (An1.F ((toArray_1, (toArray_2, (toArray_3, toArray_4))), (1048576 : Int), ())).bind fun r9 => if (decide (r9.1.1 < 0)) = true then some ((true, ()), ()) else (Ag2.F (a_5, r9.1.1, ())).bind fun r10 => if (decide (r10.1.1 < 0)) = true then some ((true, ()), ()) else (Ag2.F (a_6, r10.1.1, ())).bind fun r11 => if (decide (r11.1.1 < 0)) = true then some ((true, ()), ()) else (Aj1.F ((toArray_1, (toArray_2, (toArray_3, toArray_4))), ())).bind fun r12 => (Ad3.F (a_5, ())).bind fun r13 => (Ad3.F (a_6, ())).bind fun r14 => (Aa6.F (a_7, ())).bind fun r15 => (Aa6.F (a_8, ())).bind fun r16 => (Am2.F (r12.1.1, r13.1.1, r14.1.1, r15.1.1, r16.1.1, ())).bind fun r17 => (Aj1.F ((toArray_1, (toArray_2, (toArray_3, toArray_4))), ())).bind fun r18 => (Ad3.F (a_5, ())).bind fun r19 => (Ad3.F (a_6, ())).bind fun r20 => (Aa6.F (a_7, ())).bind fun r21 => (Aa6.F (a_8, ())).bind fun r22 => (Aj4.F (r18.1.1, r19.1.1, r20.1.1, r21.1.1, r22.1.1, ())).bind fun r23 => (Aa2.F (r23.1.1, r17.1.1, ())).bind fun r24 => if (!r24.1.1) = true then some ((false, ()), ()) else if (r23.1.2.1 != r17.1.2.1) = true then some ((false, ()), ()) else (Aj1.F ((toArray_1, (toArray_2, (toArray_3, toArray_4))), ())).bind fun r25 => (Ap4.F (r18.1.1, r25.1.1, ())).bind fun r26 => if (!r26.1.1) = true then some ((false, ()), ()) else (Ad3.F (a_5, ())).bind fun r27 => (Ag0.F (r19.1.1, r27.1.1, ())).bind fun r28 => if (!r28.1.1) = true then some ((false, ()), ()) else (Ad3.F (a_6, ())).bind fun r29 => (Ag0.F (r20.1.1, r29.1.1, ())).bind fun r30 => if (!r30.1.1) = true then some ((false, ()), ()) else (Aa6.F (a_7, ())).bind fun r31 => (Aa2.F (r21.1.1, r31.1.1, ())).bind fun r32 => if (!r32.1.1) = true then some ((false, ()), ()) else (Aa6.F (a_8, ())).bind fun r33 => (Aa2.F (r22.1.1, r33.1.1, ())).bind fun r34 => if (!r34.1.1) = true then some ((false, ()), ()) else (Ap5.F (r18.1.1, (1 : Int), ())).bind fun r35 => (Ag1.F (r19.1.1, r35.1.1, ())).bind fun r36 => (Ag1.F (r20.1.1, r36.1.1, ())).bind fun r37 => (Aa7.F (r21.1.1, r37.1.1, ())).bind fun r38 => (Aa7.F (r22.1.1, r38.1.1, ())).bind fun r39 => if (decide (r39.1.1 < 0)) = true then some ((false, ()), ()) else (Aa2.F (r23.1.1, r17.1.1, ())).bind fun r40 => if (!r40.1.1) = true then some ((false, ()), ()) else if (r23.1.2.1 != r17.1.2.1) = true then some ((false, ()), ()) else (Aa7.F (r23.1.1, (1 : Int), ())).bind fun r41 => (Aj0.F (r41.2.1, (1 : Int), ())).bind fun r42 => if (decide (r42.1.1 < 0)) = true then some ((false, ()), ()) else if (r42.1.1 != r41.1.1) = true then some ((false, ()), ()) else (Aj1.F ((toArray_1, (toArray_2, (toArray_3, toArray_4))), ())).bind fun r43 => (Ad3.F (a_5, ())).bind fun r44 => (Ad3.F (a_6, ())).bind fun r45 => (Aa6.F (a_7, ())).bind fun r46 => (Aa6.F (a_8, ())).bind fun r47 => (Aj4.F (r43.1.1, r44.1.1, r45.1.1, r46.1.1, r47.1.1, ())).bind fun r48 => (Aa2.F (r48.1.1, r17.1.1, ())).bind fun r49 => if (!r49.1.1) = true then some ((false, ()), ()) else if (r48.1.2.1 != r17.1.2.1) = true then some ((false, ()), ()) else (Aj0.F (r41.2.1, (1 : Int), ())).bind fun r50 => if (decide (r50.1.1 < 0)) = true then some ((false, ()), ()) else if (r50.1.1 != r41.1.1) = true then some ((false, ()), ()) else some ((true, ()), ())
theorem eq : F ((toArray_1, (toArray_2, (toArray_3, toArray_4))), a_5, a_6, a_7, a_8, ()) = T toArray_1 toArray_2 toArray_3 toArray_4 a_5 a_6 a_7 a_8 := eq_any fun k => by kernel_rfl
theorem S : a2Z prog ⟨4, sig, F⟩ := sound_k (res := [.tmp 10]) func4 (⟨nM, mixed_ok, tab_ok tab_good, cM ⟨An1.S, cM ⟨Ag2.S, cM ⟨Aj1.S, cM ⟨Ad3.S, cM ⟨Ap4.S, cM ⟨Ag0.S, cM ⟨Ap5.S, cM ⟨Ag1.S, cM ⟨Am2.S, cM ⟨Aa6.S, cM ⟨Aj4.S, cM ⟨Aa2.S, cM ⟨Aa7.S, cM ⟨Aj0.S, nM⟩⟩⟩⟩⟩⟩⟩⟩⟩⟩⟩⟩⟩⟩, nM, nM⟩)
end An0
end Go.Proofs.YtanmmcfiogamfaaGreat
