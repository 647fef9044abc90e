/- The functions, as the machine runs them. -/
import Derived.Test.YtanmmcfiogamfaaGreatGlueSectionsG1
import Derived.Test.YtanmmcfiogamfaaGreatProg
import Derived.KernelRfl
import Derived.WalkKit
import Derived.Lib.Walk
import Derived.Lib.AppendZeros
import Derived.Sort.WalkA
import Derived.Sort.WalkB2
import Derived.Sort.WalkB12
import Derived.Deep.LoopGhost
import Derived.Shelf.RegionOpenPlain
import Derived.Lib.SliceRun
namespace Go.Proofs.YtanmmcfiogamfaaGreat
open Go Go.Vm
set_option linter.unusedVariables false
set_option linter.unusedSimpArgs false
open Go.Proofs.Tryz
namespace Al6
noncomputable def sig : Sig := ⟨[pM, pL], [oL]⟩
noncomputable def cfg : Cfg := cl (cx [⟨103, Ag0.sig, Ag0.F⟩, ⟨104, Ae5.sig, Ae5.F⟩]) fun id => match id with | 3 => ([1, 2, 5, 8, 9], [8, 20]) | _ => ([], [])
noncomputable def fin := finK cfg.c sig [.tmp 4]
noncomputable def F (d : MX × LI × Unit) : OL := anyK (a8N cfg fin (bd f63) (a5B sig.ps d 24))
variable (k : Nat) (x6 : LI) (i7 i8 i9 i10 i11 : Int) (x12 x13 : LI)
noncomputable def l3 : OL := Vm.runT cfg fin k [.inLoop (sub [1, 1, 0, 1, 0, 0] (bd f63)), .inBlock 0, .code (sub [1, 1, 1] (bd f63))] ⟨[dD, vL x6, .ref 8 (.root 0), dD, dD, .view 20 (.root 0) 1 false, dD, dD, vI i7, vI i8] ++ a7W 14, [(8, ⟨true, [cI i9, cI i10, cI i11, cL x12]⟩), (20, ⟨false, [dL x13]⟩)]⟩
theorem l3_eq : l3 (k + 1) x6 i7 i8 i9 i10 i11 x12 x13 = if (decide (i8 < i7)) = true then (Ae5.F ((i9, (i10, (i11, x12))), i8, ())).bind fun r14 => (Ag0.F (r14.1.1, x6, i9, ())).bind fun r15 => if x13.length + [r15.1.1].length ≤ bigA then l3 k x6 i7 (IntKind.i64.wrap (i8 + 1)) i9 i10 i11 x12 (x13 ++ [r15.1.1]) else none else some ((x13, ()), ()) := by kernel_rfl
variable (m_1 m_2 m_3 : Int) (m_4 v_5 : LI)
noncomputable def T : OL := l3 k v_5 m_2 (0 : Int) m_1 m_2 m_3 m_4 ([])
theorem of {r} (h : Ev (fun k => T k m_1 m_2 m_3 m_4 v_5) r) : F ((m_1, (m_2, (m_3, m_4))), v_5, ()) = some r := Ev.run (fun k => by kernel_rfl) h
theorem S : a2Z prog ⟨63, sig, F⟩ := sound_k (res := [.tmp 4]) func63 (cok (cM ⟨Ag0.S, cM ⟨Ae5.S, nM⟩⟩))
end Al6
namespace Ac0
noncomputable def sig : Sig := ⟨[pS, pI], [oI]⟩
noncomputable def cfg : Cfg := cl (cx [⟨65, Ac6.sig, Ac6.F⟩, ⟨111, Ab4.sig, Ab4.F⟩]) fun id => match id with | 3 => ([1, 2, 5, 18, 19, 20], [8, 72]) | _ => ([], [])
noncomputable def fin := finK cfg.c sig [.tmp 4]
noncomputable def F (d : SF × Int × Unit) : OI := anyK (a8N cfg fin (bd f97) (a5B sig.ps d 36))
variable (k : Nat) (i8 i9 i10 i11 : Int) (x12 : LL) (i13 : Int) (x14 : LI) (x15 : LM) (x16 : LI)
noncomputable def l3 : OI := Vm.runT cfg fin k [.inLoop (sub [1, 1, 0, 1, 0, 0] (bd f97)), .inBlock 0, .code (sub [1, 1, 1] (bd f97))] ⟨[dD, vI i8, .ref 8 (.root 0), dD, dD, vI i9, dD, dD, dD, dD, dD, dD, dD, dD, dD, dD, dD, dD, .view 72 (.root 0) 1 false, vI i10, vI i11] ++ a7W 15, [(8, ⟨true, [cQ x12, cI i13, cL x14, ⟨(.sl TMatrix), .sh, x15⟩]⟩), (72, ⟨false, [dL x16]⟩)]⟩
theorem l3_eq : l3 (k + 1) i8 i9 i10 i11 x12 i13 x14 x15 x16 = if (decide (i11 < i10)) = true then if 0 ≤ i11 ∧ i11 < (x16.length : Int) then if ((x16.getD i11.toNat 0 : Int) == i8) = true then some ((i9, ()), ()) else if 0 ≤ (x16.getD i11.toNat 0 : Int) ∧ (x16.getD i11.toNat 0 : Int) < (x14.length : Int) then l3 k i8 (IntKind.i64.wrap (i9 + (x14.getD (x16.getD i11.toNat 0 : Int).toNat 0))) i10 (IntKind.i64.wrap (i11 + 1)) x12 i13 x14 x15 x16 else none else none else some ((i9, ()), ()) := by kernel_rfl
variable (s_1 : LL) (s_2 : Int) (s_3 : LI) (s_4 : LM) (simplex_5 : Int)
noncomputable def T : OI := if 0 ≤ simplex_5 ∧ simplex_5 < (s_1.length : Int) then (Ab4.F (s_1.getD simplex_5.toNat ([] : LI), ())).bind fun r6 => (Ac6.F (s_1, IntKind.i64.wrap (r6.1.1 - 1), ())).bind fun r7 => l3 k simplex_5 (0 : Int) (r7.1.1.length : Int) (0 : Int) s_1 s_2 s_3 s_4 r7.1.1 else none
theorem of {r} (h : Ev (fun k => T k s_1 s_2 s_3 s_4 simplex_5) r) : F ((s_1, (s_2, (s_3, s_4))), simplex_5, ()) = some r := Ev.run (fun k => by kernel_rfl) h
theorem S : a2Z prog ⟨97, sig, F⟩ := sound_k (res := [.tmp 4]) func97 (cok (cM ⟨Ac6.S, cM ⟨Ab4.S, nM⟩⟩))
end Ac0
namespace As4
noncomputable def sig : Sig := ⟨[pI, pI], [oI]⟩
noncomputable def cfg : Cfg := cf (cx [])
noncomputable def fin := finK cfg.c sig [.tmp 4]
noncomputable def F (d : Int × Int × Unit) : OI := anyK (a8N cfg fin (bd f153) (a5B sig.ps d 5))
noncomputable def T (i_1 j_2 : Int) : OI := some ((0, ()), ())
theorem eq (i_1 j_2 : Int) : F (i_1, j_2, ()) = T i_1 j_2 := eq_any fun k => by kernel_rfl
theorem S : a2Z prog ⟨153, sig, F⟩ := sound_k (res := [.tmp 4]) func153 (cok nM)
noncomputable def cloG (y : Unit) (d : Int × Int × Unit) : Option (Int × Unit) := (F (a8s [] [(false, tI), (false, tI)] d y)).map (·.1)
noncomputable def clo : Clo := ⟨153, ⟨[(false, tI), (false, tI)], [(.val false, tI, .deep)]⟩, [], cloG⟩
theorem cloS : a4i prog clo := sound_clo (s := ⟨[(false, tI), (false, tI)], [(.val false, tI, .deep)]⟩) (caps := []) rfl S
end As4
namespace Ap5
noncomputable def sig : Sig := ⟨[pI, pI, pI], [oM]⟩
noncomputable def cfg : Cfg := cf ⟨a2H tabl, [⟨152, Ab8.sig, Ab8.F⟩], [As4.clo], [], [], []⟩
noncomputable def fin := finK cfg.c sig [.cell 6 86]
noncomputable def F (d : Int × Int × Int × Unit) : OM := anyK (a8N cfg fin (bd f105) (a5B sig.ps d 11))
variable (p_1 rows_2 columns_3 : Int)
noncomputable def T : OM := (Ab8.F (p_1, rows_2, columns_3, As4.cloG (()), ())).bind fun r4 => some ((r4.1.1, ()), ())
theorem eq : F (p_1, rows_2, columns_3, ()) = T p_1 rows_2 columns_3 := eq_any fun k => by kernel_rfl
theorem S : a2Z prog ⟨105, sig, F⟩ := sound_k (res := [.cell 6 86]) func105 (⟨nM, mixed_ok, tab_ok tab_good, cM ⟨Ab8.S, nM⟩, cM ⟨As4.cloS, nM⟩, nM⟩)
end Ap5
namespace Ao5
noncomputable def sig : Sig := ⟨[pI, pI], [oI]⟩
noncomputable def cfg : Cfg := cf (cx [])
noncomputable def fin := finK cfg.c sig [.tmp 4]
noncomputable def F (d : Int × Int × Unit) : OI := anyK (a8N cfg fin (bd f110) (a5B sig.ps d 10))
variable (k_1 p_2 : Int)
noncomputable def T : OI := if (2 : Int) = 0 then none else if ((k_1.tmod (2 : Int)) == 0) = true then some ((1, ()), ()) else some ((IntKind.i64.wrap (p_2 - (1 : Int)), ()), ())
theorem eq : F (k_1, p_2, ()) = T k_1 p_2 := eq_any fun k => by kernel_rfl
theorem S : a2Z prog ⟨110, sig, F⟩ := sound_k (res := [.tmp 4]) func110 (cok nM)
end Ao5
namespace Ac4
noncomputable def sig : Sig := ⟨[pS, pI], [oM]⟩
noncomputable def cfg : Cfg := cl (cx [⟨65, Ac6.sig, Ac6.F⟩, ⟨97, Ac0.sig, Ac0.F⟩, ⟨105, Ap5.sig, Ap5.F⟩, ⟨106, Ab0.sig, Ab0.F⟩, ⟨107, Ab3.sig, Ab3.F⟩, ⟨108, Ab7.sig, Ab7.F⟩, ⟨109, Aj1.sig, Aj1.F⟩, ⟨110, Ao5.sig, Ao5.F⟩]) fun id => match id with | 3 => ([1, 2, 4, 5, 29, 30, 31], [8, 16, 20, 116]) | 7 => ([1, 2, 4, 5, 7, 29, 30, 31, 40, 41, 42], [8, 16, 20, 116, 160]) | 12 => ([1, 2, 4, 5, 7, 8, 10, 11, 12, 29, 30, 31, 40, 41, 42, 58, 59], [8, 16, 20, 40, 116, 160]) | 15 => ([1, 2, 4, 5, 7, 8, 10, 11, 12, 13, 29, 30, 31, 40, 41, 42, 58, 59, 63, 64], [8, 16, 20, 40, 116, 160]) | _ => ([], [])
noncomputable def fin := finK cfg.c sig [.cell 4 86]
noncomputable def F (d : SF × Int × Unit) : OM := anyK (a8N cfg fin (bd f64) (a5B sig.ps d 97))
variable (k : Nat) (i10 i11 i12 : Int) (x13 : LL) (i14 : Int) (x15 : LI) (x16 : LM) (i17 i18 i19 : Int) (x20 : LI) (i21 i22 i23 : Int) (x24 x25 : LI)
noncomputable def l3 : OM := Vm.runT cfg fin k [.inLoop (sub [1, 1, 0, 1, 0, 0] (bd f64)), .inBlock 0, .code (sub [1, 1, 1] (bd f64))] ⟨[dD, vI i10, .ref 8 (.root 0), dD, .ref 16 (.root 0), .ref 20 (.root 0), dD, dD, dD, dD, dD, dD, dD, dD, dD, dD, dD, dD, dD, dD, dD, dD, dD, dD, dD, dD, dD, dD, dD, .view 116 (.root 0) 1 false, vI i11, vI i12] ++ a7W 65, [(8, ⟨true, [cQ x13, cI i14, cL x15, ⟨(.sl TMatrix), .sh, x16⟩]⟩), (16, ⟨true, [cI i17, cI i18, cI i19, dL x20]⟩), (20, ⟨true, [cI i21, cI i22, cI i23, dL x24]⟩), (116, ⟨false, [dL x25]⟩)]⟩
variable (i27 i28 i29 i30 i31 i32 : Int) (x33 : LL) (i34 : Int) (x35 : LI) (x36 : LM) (i37 i38 i39 : Int) (x40 : LI) (i41 i42 i43 : Int) (x44 x45 x46 : LI)
noncomputable def l7 : OM := Vm.runT cfg fin k [.inLoop (sub [1, 1, 0, 1, 0, 0, 1, 1, 0, 0, 1, 1, 1, 0, 0] (bd f64)), .inBlock 2, .inBlock 1, .code (sub [1, 1, 0, 1, 0, 0, 1, 1, 1] (bd f64)), .inLoop (sub [1, 1, 0, 1, 0, 0] (bd f64)), .inBlock 0, .code (sub [1, 1, 1] (bd f64))] ⟨[dD, vI i27, .ref 8 (.root 0), dD, .ref 16 (.root 0), .ref 20 (.root 0), dD, vI i28, dD, dD, dD, dD, dD, dD, dD, dD, dD, dD, dD, dD, dD, dD, dD, dD, dD, dD, dD, dD, dD, .view 116 (.root 0) 1 false, vI i29, vI i30, dD, dD, dD, dD, dD, dD, dD, dD, .view 160 (.root 0) 1 false, vI i31, vI i32] ++ a7W 54, [(8, ⟨true, [cQ x33, cI i34, cL x35, ⟨(.sl TMatrix), .sh, x36⟩]⟩), (16, ⟨true, [cI i37, cI i38, cI i39, dL x40]⟩), (20, ⟨true, [cI i41, cI i42, cI i43, dL x44]⟩), (116, ⟨false, [dL x45]⟩), (160, ⟨false, [dL x46]⟩)]⟩
variable (i50 i51 i52 i53 i54 i55 i56 i57 i58 i59 i60 : Int) (x61 : LL) (i62 : Int) (x63 : LI) (x64 : LM) (i65 i66 i67 : Int) (x68 : LI) (i69 i70 i71 : Int) (x72 : LI) (i73 i74 i75 : Int) (x76 x77 x78 : LI)
noncomputable def l12 : OM := Vm.runT cfg fin k [.inLoop (sub [1, 1, 0, 1, 0, 0, 1, 1, 0, 0, 1, 1, 1, 0, 0, 1, 1, 0, 0, 1, 1, 1, 1, 0, 0] (bd f64)), .inBlock 4, .inBlock 3, .code (sub [1, 1, 0, 1, 0, 0, 1, 1, 0, 0, 1, 1, 1, 0, 0, 1, 1, 1] (bd f64)), .inLoop (sub [1, 1, 0, 1, 0, 0, 1, 1, 0, 0, 1, 1, 1, 0, 0] (bd f64)), .inBlock 2, .inBlock 1, .code (sub [1, 1, 0, 1, 0, 0, 1, 1, 1] (bd f64)), .inLoop (sub [1, 1, 0, 1, 0, 0] (bd f64)), .inBlock 0, .code (sub [1, 1, 1] (bd f64))] ⟨[dD, vI i50, .ref 8 (.root 0), dD, .ref 16 (.root 0), .ref 20 (.root 0), dD, vI i51, vI i52, dD, .ref 40 (.root 0), vI i53, vI i54, dD, dD, dD, dD, dD, dD, dD, dD, dD, dD, dD, dD, dD, dD, dD, dD, .view 116 (.root 0) 1 false, vI i55, vI i56, dD, dD, dD, dD, dD, dD, dD, dD, .view 160 (.root 0) 1 false, vI i57, vI i58, dD, dD, dD, dD, dD, dD, dD, dD, dD, dD, dD, dD, dD, dD, dD, vI i59, vI i60] ++ a7W 37, [(8, ⟨true, [cQ x61, cI i62, cL x63, ⟨(.sl TMatrix), .sh, x64⟩]⟩), (16, ⟨true, [cI i65, cI i66, cI i67, dL x68]⟩), (20, ⟨true, [cI i69, cI i70, cI i71, dL x72]⟩), (40, ⟨true, [cI i73, cI i74, cI i75, cL x76]⟩), (116, ⟨false, [dL x77]⟩), (160, ⟨false, [dL x78]⟩)]⟩
variable (i79 i80 i81 i82 i83 i84 i85 i86 i87 i88 i89 i90 i91 i92 : Int) (x93 : LL) (i94 : Int) (x95 : LI) (x96 : LM) (i97 i98 i99 : Int) (x100 : LI) (i101 i102 i103 : Int) (x104 : LI) (i105 i106 i107 : Int) (x108 x109 x110 : LI)
noncomputable def l15 : OM := Vm.runT cfg fin k [.inLoop (sub [1, 1, 0, 1, 0, 0, 1, 1, 0, 0, 1, 1, 1, 0, 0, 1, 1, 0, 0, 1, 1, 1, 1, 0, 0, 1, 1, 0, 0, 1, 1, 0, 0] (bd f64)), .inBlock 6, .inBlock 5, .code (sub [1, 1, 0, 1, 0, 0, 1, 1, 0, 0, 1, 1, 1, 0, 0, 1, 1, 0, 0, 1, 1, 1, 1, 0, 0, 1, 1, 1] (bd f64)), .inLoop (sub [1, 1, 0, 1, 0, 0, 1, 1, 0, 0, 1, 1, 1, 0, 0, 1, 1, 0, 0, 1, 1, 1, 1, 0, 0] (bd f64)), .inBlock 4, .inBlock 3, .code (sub [1, 1, 0, 1, 0, 0, 1, 1, 0, 0, 1, 1, 1, 0, 0, 1, 1, 1] (bd f64)), .inLoop (sub [1, 1, 0, 1, 0, 0, 1, 1, 0, 0, 1, 1, 1, 0, 0] (bd f64)), .inBlock 2, .inBlock 1, .code (sub [1, 1, 0, 1, 0, 0, 1, 1, 1] (bd f64)), .inLoop (sub [1, 1, 0, 1, 0, 0] (bd f64)), .inBlock 0, .code (sub [1, 1, 1] (bd f64))] ⟨[dD, vI i79, .ref 8 (.root 0), dD, .ref 16 (.root 0), .ref 20 (.root 0), dD, vI i80, vI i81, dD, .ref 40 (.root 0), vI i82, vI i83, vI i84, dD, dD, dD, dD, dD, dD, dD, dD, dD, dD, dD, dD, dD, dD, dD, .view 116 (.root 0) 1 false, vI i85, vI i86, dD, dD, dD, dD, dD, dD, dD, dD, .view 160 (.root 0) 1 false, vI i87, vI i88, dD, dD, dD, dD, dD, dD, dD, dD, dD, dD, dD, dD, dD, dD, dD, vI i89, vI i90, dD, dD, dD, vI i91, vI i92] ++ a7W 32, [(8, ⟨true, [cQ x93, cI i94, cL x95, ⟨(.sl TMatrix), .sh, x96⟩]⟩), (16, ⟨true, [cI i97, cI i98, cI i99, dL x100]⟩), (20, ⟨true, [cI i101, cI i102, cI i103, dL x104]⟩), (40, ⟨true, [cI i105, cI i106, cI i107, cL x108]⟩), (116, ⟨false, [dL x109]⟩), (160, ⟨false, [dL x110]⟩)]⟩
theorem l3_eq : l3 (k + 1) i10 i11 i12 x13 i14 x15 x16 i17 i18 i19 x20 i21 i22 i23 x24 x25 = if (decide (i12 < i11)) = true then if 0 ≤ i12 ∧ i12 < (x25.length : Int) then if (decide (i10 < 0)) = true then some (((i21, (i22, (i23, x24))), ()), ()) else (Ab3.F (x13, (x25.getD i12.toNat 0 : Int), ())).bind fun r26 => l7 k i10 (x25.getD i12.toNat 0 : Int) i11 i12 (r26.1.1.length : Int) (0 : Int) x13 i14 x15 x16 i17 i18 i19 x20 i21 i22 i23 x24 x25 r26.1.1 else none else some (((i21, (i22, (i23, x24))), ()), ()) := by kernel_rfl
theorem l7_eq : l7 (k + 1) i27 i28 i29 i30 i31 i32 x33 i34 x35 x36 i37 i38 i39 x40 i41 i42 i43 x44 x45 x46 = if (decide (i32 < i31)) = true then if 0 ≤ i32 ∧ i32 < (x46.length : Int) then (Ab7.F ((x33, (i34, (x35, x36))), i28, i32, ())).bind fun r47 => (Ac0.F ((x33, (i34, (x35, x36))), i28, ())).bind fun r48 => (Ac0.F ((x33, (i34, (x35, x36))), (x46.getD i32.toNat 0 : Int), ())).bind fun r49 => l12 k i27 i28 i32 r48.1.1 r49.1.1 i29 i30 i31 i32 r47.1.1.2.1 (0 : Int) x33 i34 x35 x36 i37 i38 i39 x40 i41 i42 i43 x44 r47.1.1.1 r47.1.1.2.1 r47.1.1.2.2.1 r47.1.1.2.2.2 x45 x46 else none else l3 k i27 i29 (IntKind.i64.wrap (i30 + 1)) x33 i34 x35 x36 i37 i38 i39 x40 i41 i42 i43 x44 x45 := by kernel_rfl
theorem l12_eq : l12 (k + 1) i50 i51 i52 i53 i54 i55 i56 i57 i58 i59 i60 x61 i62 x63 x64 i65 i66 i67 x68 i69 i70 i71 x72 i73 i74 i75 x76 x77 x78 = if (decide (i60 < i59)) = true then l15 k i50 i51 i52 i53 i54 i60 i55 i56 i57 i58 i59 i60 i75 (0 : Int) x61 i62 x63 x64 i65 i66 i67 x68 i69 i70 i71 x72 i73 i74 i75 x76 x77 x78 else l7 k i50 i51 i55 i56 i57 (IntKind.i64.wrap (i58 + 1)) x61 i62 x63 x64 i65 i66 i67 x68 i69 i70 i71 x72 x77 x78 := by kernel_rfl
theorem l15_eq : l15 (k + 1) i79 i80 i81 i82 i83 i84 i85 i86 i87 i88 i89 i90 i91 i92 x93 i94 x95 x96 i97 i98 i99 x100 i101 i102 i103 x104 i105 i106 i107 x108 x109 x110 = if (decide (i92 < i91)) = true then (Aj1.F ((i105, (i106, (i107, x108))), i84, i92, ())).bind fun r111 => (Ao5.F (i81, i94, ())).bind fun r112 => if i94 = 0 then none else if 0 ≤ (IntKind.i64.wrap ((IntKind.i64.wrap ((IntKind.i64.wrap ((IntKind.i64.wrap (i82 + i84)) * i103)) + i83)) + i92)) ∧ (IntKind.i64.wrap ((IntKind.i64.wrap ((IntKind.i64.wrap ((IntKind.i64.wrap (i82 + i84)) * i103)) + i83)) + i92)) < (x104.length : Int) then let y113 : LI := x104.set (IntKind.i64.wrap ((IntKind.i64.wrap ((IntKind.i64.wrap ((IntKind.i64.wrap (i82 + i84)) * i103)) + i83)) + i92)).toNat ((IntKind.i64.wrap (r111.1.1 * r112.1.1)).tmod i94); l15 k i79 i80 i81 i82 i83 i84 i85 i86 i87 i88 i89 i90 i91 (IntKind.i64.wrap (i92 + 1)) x93 i94 x95 x96 i97 i98 i99 x100 i101 i102 i103 y113 i105 i106 i107 x108 x109 x110 else none else l12 k i79 i80 i81 i82 i83 i85 i86 i87 i88 i89 (IntKind.i64.wrap (i90 + 1)) x93 i94 x95 x96 i97 i98 i99 x100 i101 i102 i103 x104 i105 i106 i107 x108 x109 x110 := by kernel_rfl
variable (toArray_1 : LL) (toArray_2 : Int) (toArray_3 : LI) (toArray_4 : LM) (a_5 : Int)
noncomputable def T : OM := (Ab0.F ((toArray_1, (toArray_2, (toArray_3, toArray_4))), IntKind.i64.wrap (a_5 + (1 : Int)), ())).bind fun r6 => (Ab0.F ((toArray_1, (toArray_2, (toArray_3, toArray_4))), a_5, ())).bind fun r7 => (Ap5.F (toArray_2, r6.1.1, r7.1.1, ())).bind fun r8 => (Ac6.F (toArray_1, IntKind.i64.wrap (a_5 + (1 : Int)), ())).bind fun r9 => l3 k a_5 (r9.1.1.length : Int) (0 : Int) toArray_1 toArray_2 toArray_3 toArray_4 0 0 0 ([]) r8.1.1.1 r8.1.1.2.1 r8.1.1.2.2.1 r8.1.1.2.2.2 r9.1.1
theorem of {r} (h : Ev (fun k => T k toArray_1 toArray_2 toArray_3 toArray_4 a_5) r) : F ((toArray_1, (toArray_2, (toArray_3, toArray_4))), a_5, ()) = some r := Ev.run (fun k => by kernel_rfl) h
theorem S : a2Z prog ⟨64, sig, F⟩ := sound_k (res := [.cell 4 86]) func64 (cok (cM ⟨Ac6.S, cM ⟨Ac0.S, cM ⟨Ap5.S, cM ⟨Ab0.S, cM ⟨Ab3.S, cM ⟨Ab7.S, cM ⟨Aj1.S, cM ⟨Ao5.S, nM⟩⟩⟩⟩⟩⟩⟩⟩))
end Ac4
namespace Ap0
noncomputable def sig : Sig := ⟨[pL, pI, pI], [oB]⟩
noncomputable def cfg : Cfg := cf (cx [⟨111, Ab4.sig, Ab4.F⟩, ⟨182, Ah9.sig, Ah9.F⟩])
noncomputable def fin := finK cfg.c sig [.tmp 6]
noncomputable def F (d : LI × Int × Int × Unit) : OB := anyK (a8N cfg fin (bd f143) (a5B sig.ps d 16))
variable (x_1 : LI) (length_2 p_3 : Int)
noncomputable def T : OB := (Ab4.F (x_1, ())).bind fun r4 => if (r4.1.1 == length_2) = true then (Ah9.F (x_1, p_3, ())).bind fun r5 => some ((r5.1.1, ()), ()) else some ((false, ()), ())
theorem eq : F (x_1, length_2, p_3, ()) = T x_1 length_2 p_3 := eq_any fun k => by kernel_rfl
theorem S : a2Z prog ⟨143, sig, F⟩ := sound_k (res := [.tmp 6]) func143 (cok (cM ⟨Ab4.S, cM ⟨Ah9.S, nM⟩⟩))
end Ap0
namespace Ag1
noncomputable def sig : Sig := ⟨[pS, pL], [oB]⟩
noncomputable def cfg : Cfg := cf (cx [⟨55, Ag2.sig, Ag2.F⟩, ⟨63, Al6.sig, Al6.F⟩, ⟨64, Ac4.sig, Ac4.F⟩, ⟨106, Ab0.sig, Ab0.F⟩, ⟨143, Ap0.sig, Ap0.F⟩])
noncomputable def fin := finK cfg.c sig [.tmp 4]
noncomputable def F (d : SF × LI × Unit) : OB := anyK (a8N cfg fin (bd f90) (a5B sig.ps d 18))
variable (s_1 : LL) (s_2 : Int) (s_3 : LI) (s_4 : LM) (x_5 : LI)
noncomputable def T : OB := (Ab0.F ((s_1, (s_2, (s_3, s_4))), (0 : Int), ())).bind fun r6 => (Ap0.F (x_5, r6.1.1, s_2, ())).bind fun r7 => if r7.1.1 = true then (Ac4.F ((s_1, (s_2, (s_3, s_4))), (0 : Int), ())).bind fun r8 => (Al6.F (r8.1.1, x_5, ())).bind fun r9 => (Ag2.F (r9.1.1, ())).bind fun r10 => some ((r10.1.1, ()), ()) else some ((false, ()), ())
theorem eq : F ((s_1, (s_2, (s_3, s_4))), x_5, ()) = T s_1 s_2 s_3 s_4 x_5 := eq_any fun k => by kernel_rfl
theorem S : a2Z prog ⟨90, sig, F⟩ := sound_k (res := [.tmp 4]) func90 (cok (cM ⟨Ag2.S, cM ⟨Al6.S, cM ⟨Ac4.S, cM ⟨Ab0.S, cM ⟨Ap0.S, nM⟩⟩⟩⟩⟩))
end Ag1
namespace Aj9
noncomputable def sig : Sig := ⟨[pS, pC, pC, pL, pL], [oI]⟩
noncomputable def cfg : Cfg := cf (cx [⟨39, Ac5.sig, Ac5.F⟩, ⟨89, Ak0.sig, Ak0.F⟩, ⟨90, Ag1.sig, Ag1.F⟩])
noncomputable def fin := finK cfg.c sig [.tmp 10]
noncomputable def F (d : SF × LL × LL × LI × LI × Unit) : OI := anyK (a8N cfg fin (bd f48) (a5B sig.ps d 33))
variable (s_1 : LL) (s_2 : Int) (s_3 : LI) (s_4 : LM) (a_5 b_6 : LL) (x_7 y_8 : LI)
noncomputable def T : OI := (Ak0.F ((s_1, (s_2, (s_3, s_4))), a_5, b_6, ())).bind fun r9 => if (r9.1.1 != 0) = true then some ((r9.1.1, ()), ()) else (Ac5.F ((s_1, (s_2, (s_3, s_4))), a_5, ())).bind fun r10 => (Ag1.F (r10.1.1, x_7, ())).bind fun r11 => if (!r11.1.1) = true then some ((7, ()), ()) else (Ac5.F ((s_1, (s_2, (s_3, s_4))), b_6, ())).bind fun r12 => (Ag1.F (r12.1.1, y_8, ())).bind fun r13 => if (!r13.1.1) = true then some ((7, ()), ()) else some ((0, ()), ())
theorem eq : F ((s_1, (s_2, (s_3, s_4))), a_5, b_6, x_7, y_8, ()) = T s_1 s_2 s_3 s_4 a_5 b_6 x_7 y_8 := eq_any fun k => by kernel_rfl
theorem S : a2Z prog ⟨48, sig, F⟩ := sound_k (res := [.tmp 10]) func48 (cok (cM ⟨Ac5.S, cM ⟨Ak0.S, cM ⟨Ag1.S, nM⟩⟩⟩))
end Aj9
namespace Al7
noncomputable def sig : Sig := ⟨[pC, .fnx ⟨[(false, tL)], [oB]⟩], [oC]⟩
noncomputable def cfg : Cfg := ⟨cx [⟨151, Ad6.sig, Ad6.F⟩], [], [], fun id => match id with | 3 => ([1, 4, 5, 9, 10, 11], [16, 20]) | _ => ([], []), fun id => match id with | 3 => [20] | _ => []⟩
noncomputable def fin := finK cfg.c sig [.cell 4 31]
noncomputable def F (d : LL × ((LI × Unit) → Option (Bool × Unit)) × Unit) : OQ := anyK (a8N cfg fin (bd f101) (a5B sig.ps d 25))
variable (k : Nat) (f3 : (LI × Unit) → Option (Bool × Unit)) (x4 : LL) (i5 i6 : Int) (x7 x8 : LL)
noncomputable def l3 : OQ := Vm.runT cfg fin k [.inLoop (sub [1, 1, 0, 1, 0, 0] (bd f101)), .inBlock 0, .code (sub [1, 1, 1] (bd f101))] ⟨[dD, .fnx ⟨[(false, tL)], [(.val false, .bool, .deep)]⟩ f3, dD, dD, .ref 16 (.root 0), .view 20 (.root 0) 1 false, dD, dD, dD, vQ x4, vI i5, vI i6] ++ a7W 13, [(16, ⟨true, [dQ x7]⟩), (20, ⟨false, [⟨tQ, .shal, x8⟩]⟩)]⟩
theorem l3_eq : l3 (k + 1) f3 x4 i5 i6 x7 x8 = if (decide (i6 < i5)) = true then if 0 ≤ i6 ∧ i6 < (x4.length : Int) then (f3 (x4.getD i6.toNat ([] : LI), ())).bind fun r9 => if r9.1 = true then if x8.length + [x4.getD i6.toNat ([] : LI)].length ≤ bigA then l3 k f3 x4 i5 (IntKind.i64.wrap (i6 + 1)) x7 (x8 ++ [x4.getD i6.toNat ([] : LI)]) else none else l3 k f3 x4 i5 (IntKind.i64.wrap (i6 + 1)) x7 x8 else none else (Ad6.F (x8, ())).bind fun r10 => some ((r10.1.1, ()), ()) := by kernel_rfl
variable (c_1 : LL) (f_2 : (LI × Unit) → Option (Bool × Unit))
noncomputable def T : OQ := l3 k f_2 c_1 (c_1.length : Int) (0 : Int) ([] : LL) ([])
theorem of {r} (h : Ev (fun k => T k c_1 f_2) r) : F (c_1, f_2, ()) = some r := Ev.run (fun k => by kernel_rfl) h
theorem S : a2Z prog ⟨101, sig, F⟩ := sound_k (res := [.cell 4 31]) func101 (cok (cM ⟨Ad6.S, nM⟩))
end Al7
namespace Ar9
noncomputable def sig : Sig := ⟨[pL, qC], [oB]⟩
noncomputable def cfg : Cfg := cf (cx [⟨57, Aa1.sig, Aa1.F⟩])
noncomputable def fin := finK cfg.c sig [.tmp 3]
noncomputable def F (d : LI × LL × Unit) : OB := anyK (a8N cfg fin (bd f102) (a5B sig.ps d 8))
variable (s_1 : LI) (a_2 : LL)
noncomputable def T : OB := (Aa1.F (a_2, s_1, ())).bind fun r3 => some ((decide (r3.1.1 ≥ 0), ()), ())
theorem eq : F (s_1, a_2, ()) = T s_1 a_2 := eq_any fun k => by kernel_rfl
theorem S : a2Z prog ⟨102, sig, F⟩ := sound_k (res := [.tmp 3]) func102 (cok (cM ⟨Aa1.S, nM⟩))
noncomputable def cloG (y : LL × Unit) (d : LI × Unit) : Option (Bool × Unit) := (F (a8s [.rptr tQ] [(false, tL)] d y)).map (·.1)
noncomputable def clo : Clo := ⟨102, ⟨[(false, tL)], [(.val false, .bool, .deep)]⟩, [.rptr tQ], cloG⟩
theorem cloS : a4i prog clo := sound_clo (s := ⟨[(false, tL)], [(.val false, .bool, .deep)]⟩) (caps := [.rptr tQ]) rfl S
end Ar9
namespace Ap1
noncomputable def sig : Sig := ⟨[pC, pC], [oC]⟩
noncomputable def cfg : Cfg := cf ⟨a2H tabl, [⟨101, Al7.sig, Al7.F⟩], [Ar9.clo], [], [], []⟩
noncomputable def fin := finK cfg.c sig [.cell 4 31]
noncomputable def F (d : LL × LL × Unit) : OQ := anyK (a8N cfg fin (bd f62) (a5B sig.ps d 8))
variable (a_1 b_2 : LL)
noncomputable def T : OQ := (Al7.F (a_1, Ar9.cloG (b_2, ()), ())).bind fun r3 => some ((r3.1.1, ()), ())
theorem eq : F (a_1, b_2, ()) = T a_1 b_2 := eq_any fun k => by kernel_rfl
theorem S : a2Z prog ⟨62, sig, F⟩ := sound_k (res := [.cell 4 31]) func62 (⟨nM, mixed_ok, tab_ok tab_good, cM ⟨Al7.S, nM⟩, cM ⟨Ar9.cloS, nM⟩, nM⟩)
end Ap1
namespace Ac9
noncomputable def sig : Sig := ⟨[pS, pL, pI], [oL]⟩
noncomputable def cfg : Cfg := cf (cx [⟨97, Ac0.sig, Ac0.F⟩, ⟨98, Ab6.sig, Ab6.F⟩])
noncomputable def fin := finK cfg.c sig [.tmp 6]
noncomputable def F (d : SF × LI × Int × Unit) : OL := anyK (a8N cfg fin (bd f58) (a5B sig.ps d 22))
variable (s_1 : LL) (s_2 : Int) (s_3 : LI) (s_4 : LM) (x_5 : LI) (simplex_6 : Int)
noncomputable def T : OL := (Ac0.F ((s_1, (s_2, (s_3, s_4))), simplex_6, ())).bind fun r7 => if 0 ≤ simplex_6 ∧ simplex_6 < (s_3.length : Int) then if 0 ≤ r7.1.1 ∧ r7.1.1 ≤ (IntKind.i64.wrap (r7.1.1 + (s_3.getD simplex_6.toNat 0 : Int))) ∧ (IntKind.i64.wrap (r7.1.1 + (s_3.getD simplex_6.toNat 0 : Int))) ≤ (x_5.length : Int) then (Ab6.F (cutL x_5 r7.1.1 (IntKind.i64.wrap (r7.1.1 + (s_3.getD simplex_6.toNat 0 : Int))), ())).bind fun r8 => some ((r8.1.1, ()), ()) else none else none
theorem eq : F ((s_1, (s_2, (s_3, s_4))), x_5, simplex_6, ()) = T s_1 s_2 s_3 s_4 x_5 simplex_6 := eq_any fun k => by kernel_rfl
theorem S : a2Z prog ⟨58, sig, F⟩ := sound_k (res := [.tmp 6]) func58 (cok (cM ⟨Ac0.S, cM ⟨Ab6.S, nM⟩⟩))
end Ac9
namespace Af1
noncomputable def sig : Sig := ⟨[pS, pC, pI, pL], [oL]⟩
noncomputable def cfg : Cfg := cl (cx [⟨57, Aa1.sig, Aa1.F⟩, ⟨58, Ac9.sig, Ac9.F⟩, ⟨65, Ac6.sig, Ac6.F⟩]) fun id => match id with | 3 => ([3, 4, 5, 9, 14, 15, 16], [16, 20, 36, 56]) | _ => ([], [])
noncomputable def fin := finK cfg.c sig [.tmp 8]
noncomputable def F (d : SF × LL × Int × LI × Unit) : OL := anyK (a8N cfg fin (bd f91) (a5B sig.ps d 35))
variable (k : Nat) (x9 : LI) (i10 i11 : Int) (x12 : LL) (i13 : Int) (x14 : LI) (x15 : LM) (x16 : LL) (x17 x18 : LI)
noncomputable def l3 : OL := Vm.runT cfg fin k [.inLoop (sub [1, 1, 0, 1, 0, 0] (bd f91)), .inBlock 0, .code (sub [1, 1, 1] (bd f91))] ⟨[dD, dD, dD, vL x9, .ref 16 (.root 0), .ref 20 (.root 0), dD, dD, dD, .view 36 (.root 0) 1 false, dD, dD, dD, dD, .view 56 (.root 0) 1 false, vI i10, vI i11] ++ a7W 18, [(16, ⟨true, [cQ x12, cI i13, cL x14, ⟨(.sl TMatrix), .sh, x15⟩]⟩), (20, ⟨true, [cQ x16]⟩), (36, ⟨false, [dL x17]⟩), (56, ⟨false, [dL x18]⟩)]⟩
theorem l3_eq : l3 (k + 1) x9 i10 i11 x12 i13 x14 x15 x16 x17 x18 = if (decide (i11 < i10)) = true then if 0 ≤ i11 ∧ i11 < (x18.length : Int) then if 0 ≤ (x18.getD i11.toNat 0 : Int) ∧ (x18.getD i11.toNat 0 : Int) < (x16.length : Int) then (Aa1.F (x12, x16.getD (x18.getD i11.toNat 0 : Int).toNat ([] : LI), ())).bind fun r19 => (Ac9.F ((x12, (i13, (x14, x15))), x9, r19.1.1, ())).bind fun r20 => if x17.length + r20.1.1.length ≤ bigA then l3 k x9 i10 (IntKind.i64.wrap (i11 + 1)) x12 i13 x14 x15 x16 (x17 ++ r20.1.1) x18 else none else none else none else some ((x17, ()), ()) := by kernel_rfl
variable (s_1 : LL) (s_2 : Int) (s_3 : LI) (s_4 : LM) (p_5 : LL) (k_6 : Int) (x_7 : LI)
noncomputable def T : OL := (Ac6.F (p_5, k_6, ())).bind fun r8 => l3 k x_7 (r8.1.1.length : Int) (0 : Int) s_1 s_2 s_3 s_4 p_5 ([]) r8.1.1
theorem of {r} (h : Ev (fun k => T k s_1 s_2 s_3 s_4 p_5 k_6 x_7) r) : F ((s_1, (s_2, (s_3, s_4))), p_5, k_6, x_7, ()) = some r := Ev.run (fun k => by kernel_rfl) h
theorem S : a2Z prog ⟨91, sig, F⟩ := sound_k (res := [.tmp 8]) func91 (cok (cM ⟨Aa1.S, cM ⟨Ac9.S, cM ⟨Ac6.S, nM⟩⟩⟩))
end Af1
namespace Al5
noncomputable def sig : Sig := ⟨[pL, pL, pI, pI], [oL]⟩
noncomputable def cfg : Cfg := cl (cx []) fun id => match id with | 3 => ([0, 1, 2, 3, 9, 12, 13], [36]) | _ => ([], [])
noncomputable def fin := finK cfg.c sig [.tmp 8]
noncomputable def F (d : LI × LI × Int × Int × Unit) : OL := anyK (a8N cfg fin (bd f92) (a5B sig.ps d 34))
variable (k : Nat) (x5 x6 : LI) (i7 i8 i9 i10 : Int) (x11 : LI)
noncomputable def l3 : OL := Vm.runT cfg fin k [.inLoop (sub [1, 1, 0, 1, 0, 0] (bd f92)), .inBlock 0, .code (sub [1, 1, 1] (bd f92))] ⟨[vL x5, vL x6, vI i7, vI i8, dD, dD, dD, dD, dD, .view 36 (.root 0) 1 false, dD, dD, vI i9, vI i10] ++ a7W 20, [(36, ⟨false, [dL x11]⟩)]⟩
theorem l3_eq : l3 (k + 1) x5 x6 i7 i8 i9 i10 x11 = if (decide (i10 < i9)) = true then if 0 ≤ i10 ∧ i10 < (x5.length : Int) then if 0 ≤ i10 ∧ i10 < (x6.length : Int) then if i8 = 0 then none else if x11.length + [(IntKind.i64.wrap ((x5.getD i10.toNat 0 : Int) + (IntKind.i64.wrap (i7 * (x6.getD i10.toNat 0 : Int))))).tmod i8].length ≤ bigA then l3 k x5 x6 i7 i8 i9 (IntKind.i64.wrap (i10 + 1)) (x11 ++ [(IntKind.i64.wrap ((x5.getD i10.toNat 0 : Int) + (IntKind.i64.wrap (i7 * (x6.getD i10.toNat 0 : Int))))).tmod i8]) else none else none else none else some ((x11, ()), ()) := by kernel_rfl
variable (a_1 b_2 : LI) (c_3 p_4 : Int)
noncomputable def T : OL := l3 k a_1 b_2 c_3 p_4 (a_1.length : Int) (0 : Int) ([])
theorem of {r} (h : Ev (fun k => T k a_1 b_2 c_3 p_4) r) : F (a_1, b_2, c_3, p_4, ()) = some r := Ev.run (fun k => by kernel_rfl) h
theorem S : a2Z prog ⟨92, sig, F⟩ := sound_k (res := [.tmp 8]) func92 (cok nM)
end Al5
namespace Ak1
noncomputable def sig : Sig := ⟨[pS, pC, pC, pL, pL], [oL]⟩
noncomputable def cfg : Cfg := cf (cx [⟨39, Ac5.sig, Ac5.F⟩, ⟨62, Ap1.sig, Ap1.F⟩, ⟨91, Af1.sig, Af1.F⟩, ⟨92, Al5.sig, Al5.F⟩])
noncomputable def fin := finK cfg.c sig [.tmp 10]
noncomputable def F (d : SF × LL × LL × LI × LI × Unit) : OL := anyK (a8N cfg fin (bd f49) (a5B sig.ps d 37))
variable (s_1 : LL) (s_2 : Int) (s_3 : LI) (s_4 : LM) (a_5 b_6 : LL) (x_7 y_8 : LI)
noncomputable def T : OL := (Ap1.F (a_5, b_6, ())).bind fun r9 => (Ac5.F ((s_1, (s_2, (s_3, s_4))), a_5, ())).bind fun r10 => (Af1.F (r10.1.1, r9.1.1, (0 : Int), x_7, ())).bind fun r11 => (Ac5.F ((s_1, (s_2, (s_3, s_4))), b_6, ())).bind fun r12 => (Af1.F (r12.1.1, r9.1.1, (0 : Int), y_8, ())).bind fun r13 => (Al5.F (r11.1.1, r13.1.1, IntKind.i64.wrap (s_2 - (1 : Int)), s_2, ())).bind fun r14 => some ((r14.1.1, ()), ())
theorem eq : F ((s_1, (s_2, (s_3, s_4))), a_5, b_6, x_7, y_8, ()) = T s_1 s_2 s_3 s_4 a_5 b_6 x_7 y_8 := eq_any fun k => by kernel_rfl
theorem S : a2Z prog ⟨49, sig, F⟩ := sound_k (res := [.tmp 10]) func49 (cok (cM ⟨Ac5.S, cM ⟨Ap1.S, cM ⟨Af1.S, cM ⟨Al5.S, nM⟩⟩⟩⟩))
end Ak1
namespace Af5
noncomputable def sig : Sig := ⟨[pS, pC, pC, pL, pL], [oL, oI]⟩
noncomputable def cfg : Cfg := cl (cx [⟨39, Ac5.sig, Ac5.F⟩, ⟨48, Aj9.sig, Aj9.F⟩, ⟨49, Ak1.sig, Ak1.F⟩, ⟨55, Ag2.sig, Ag2.F⟩, ⟨56, Ae1.sig, Ae1.F⟩, ⟨57, Aa1.sig, Aa1.F⟩, ⟨58, Ac9.sig, Ac9.F⟩]) fun id => match id with | 9 => ([3, 4, 6, 7, 13, 14, 15, 44, 45, 46], [24, 28, 52, 56, 60, 176]) | _ => ([], [])
noncomputable def fin := finK cfg.c sig [.tmp 10, .tmp 11]
noncomputable def F (d : SF × LL × LL × LI × LI × Unit) : Option ((LI × Int × Unit) × (Unit)) := anyK (a8N cfg fin (bd f25) (a5B sig.ps d 73))
variable (k : Nat) (x15 x16 : LI) (i17 i18 : Int) (x19 x20 x21 : LL) (i22 : Int) (x23 : LI) (x24 : LM) (x25 : LL) (i26 : Int) (x27 : LI) (x28 : LM) (x29 x30 : LI)
noncomputable def l9 : Option ((LI × Int × Unit) × (Unit)) := Vm.runT cfg fin k [.inLoop (sub [1, 1, 1, 1, 1, 0, 1, 0, 0] (bd f25)), .inBlock 0, .code (sub [1, 1, 1, 1, 1, 1] (bd f25))] ⟨[dD, dD, dD, vL x15, vL x16, dD, .ref 24 (.root 0), .ref 28 (.root 0), dD, dD, dD, dD, dD, .ref 52 (.root 0), .ref 56 (.root 0), .view 60 (.root 0) 1 false, dD, dD, dD, dD, dD, dD, dD, dD, dD, dD, dD, dD, dD, dD, dD, dD, dD, dD, dD, dD, dD, dD, dD, dD, dD, dD, dD, dD, .view 176 (.root 0) 1 false, vI i17, vI i18] ++ a7W 26, [(24, ⟨true, [cQ x19]⟩), (28, ⟨true, [cQ x20]⟩), (52, ⟨true, [dQ x21, cI i22, dL x23, ⟨(.sl TMatrix), .deep, x24⟩]⟩), (56, ⟨true, [dQ x25, cI i26, dL x27, ⟨(.sl TMatrix), .deep, x28⟩]⟩), (60, ⟨false, [dL x29]⟩), (176, ⟨false, [dL x30]⟩)]⟩
theorem l9_eq : l9 (k + 1) x15 x16 i17 i18 x19 x20 x21 i22 x23 x24 x25 i26 x27 x28 x29 x30 = if (decide (i18 < i17)) = true then if 0 ≤ i18 ∧ i18 < (x30.length : Int) then (Aa1.F (x19, [(x30.getD i18.toNat 0 : Int)], ())).bind fun r31 => if (decide (r31.1.1 ≥ 0)) = true then (Ac9.F ((x21, (i22, (x23, x24))), x15, r31.1.1, ())).bind fun r32 => if x29.length + r32.1.1.length ≤ bigA then l9 k x15 x16 i17 (IntKind.i64.wrap (i18 + 1)) x19 x20 x21 i22 x23 x24 x25 i26 x27 x28 (x29 ++ r32.1.1) x30 else none else (Aa1.F (x20, [(x30.getD i18.toNat 0 : Int)], ())).bind fun r33 => (Ac9.F ((x25, (i26, (x27, x28))), x16, r33.1.1, ())).bind fun r34 => if x29.length + r34.1.1.length ≤ bigA then l9 k x15 x16 i17 (IntKind.i64.wrap (i18 + 1)) x19 x20 x21 i22 x23 x24 x25 i26 x27 x28 (x29 ++ r34.1.1) x30 else none else none else some ((x29, ((0 : Int), ())), ()) := by kernel_rfl
variable (toArray_1 : LL) (toArray_2 : Int) (toArray_3 : LI) (toArray_4 : LM) (a_5 a_6 : LL) (a_7 a_8 : LI)
noncomputable def T : Option ((LI × Int × Unit) × (Unit)) := (Aj9.F ((toArray_1, (toArray_2, (toArray_3, toArray_4))), a_5, a_6, a_7, a_8, ())).bind fun r9 => if (r9.1.1 != 0) = true then some (([], (r9.1.1, ())), ()) else (Ak1.F ((toArray_1, (toArray_2, (toArray_3, toArray_4))), a_5, a_6, a_7, a_8, ())).bind fun r10 => (Ag2.F (r10.1.1, ())).bind fun r11 => if (!r11.1.1) = true then some (([], ((3 : Int), ())), ()) else (Ac5.F ((toArray_1, (toArray_2, (toArray_3, toArray_4))), a_5, ())).bind fun r12 => (Ac5.F ((toArray_1, (toArray_2, (toArray_3, toArray_4))), a_6, ())).bind fun r13 => (Ae1.F (toArray_1, ())).bind fun r14 => l9 k a_7 a_8 (r14.1.1.length : Int) (0 : Int) a_5 a_6 r12.1.1.1 r12.1.1.2.1 r12.1.1.2.2.1 r12.1.1.2.2.2 r13.1.1.1 r13.1.1.2.1 r13.1.1.2.2.1 r13.1.1.2.2.2 ([]) r14.1.1
theorem of {r} (h : Ev (fun k => T k toArray_1 toArray_2 toArray_3 toArray_4 a_5 a_6 a_7 a_8) r) : F ((toArray_1, (toArray_2, (toArray_3, toArray_4))), a_5, a_6, a_7, a_8, ()) = some r := Ev.run (fun k => by kernel_rfl) h
theorem S : a2Z prog ⟨25, sig, F⟩ := sound_k (res := [.tmp 10, .tmp 11]) func25 (cok (cM ⟨Ac5.S, cM ⟨Aj9.S, cM ⟨Ak1.S, cM ⟨Ag2.S, cM ⟨Ae1.S, cM ⟨Aa1.S, cM ⟨Ac9.S, nM⟩⟩⟩⟩⟩⟩⟩))
end Af5
namespace An3
noncomputable def sig : Sig := ⟨[pS, pC, pC, pL, pL], [oB]⟩
noncomputable def cfg : Cfg := cf ⟨a2H tabl, [⟨7, An4.sig, An4.F⟩, ⟨8, Ag6.sig, Ag6.F⟩, ⟨10, Aj5.sig, Aj5.F⟩, ⟨11, Ad7.sig, Ad7.F⟩, ⟨13, Ap7.sig, Ap7.F⟩, ⟨14, Ag4.sig, Ag4.F⟩, ⟨15, Ap8.sig, Ap8.F⟩, ⟨16, Ag5.sig, Ag5.F⟩, ⟨19, Aa7.sig, Aa7.F⟩, ⟨21, Aa3.sig, Aa3.F⟩, ⟨22, Aa8.sig, Aa8.F⟩, ⟨23, Aj4.sig, Aj4.F⟩, ⟨24, Ah0.sig, Ah0.F⟩, ⟨25, Af5.sig, Af5.F⟩], [], [], [], [12, 24]⟩
noncomputable def fin := finK cfg.c sig [.tmp 10]
noncomputable def F (d : SF × LL × LL × LI × LI × Unit) : OB := anyK (a8N cfg fin (bd f5) (a5B sig.ps d 184))
variable (toArray_1 : LL) (toArray_2 : Int) (toArray_3 : LI) (toArray_4 : LM) (a_5 a_6 : LL) (a_7 a_8 : LI)
noncomputable def T : OB := if (decide ((a_7.length : Int) > 1048576)) = true then some ((true, ()), ()) else if (decide ((a_8.length : Int) > 1048576)) = true then some ((true, ()), ()) else (An4.F ((toArray_1, (toArray_2, (toArray_3, toArray_4))), (1048576 : Int), ())).bind fun r9 => if (decide (r9.1.1 < 0)) = true then some ((true, ()), ()) else (Ag6.F (a_5, r9.1.1, ())).bind fun r10 => if (decide (r10.1.1 < 0)) = true then some ((true, ()), ()) else (Ag6.F (a_6, r10.1.1, ())).bind fun r11 => if (decide (r11.1.1 < 0)) = true then some ((true, ()), ()) else (Aj5.F ((toArray_1, (toArray_2, (toArray_3, toArray_4))), ())).bind fun r12 => (Ad7.F (a_5, ())).bind fun r13 => (Ad7.F (a_6, ())).bind fun r14 => (Aa7.F (a_7, ())).bind fun r15 => (Aa7.F (a_8, ())).bind fun r16 => (Ah0.F (r12.1.1, r13.1.1, r14.1.1, r15.1.1, r16.1.1, ())).bind fun r17 => (Aj5.F ((toArray_1, (toArray_2, (toArray_3, toArray_4))), ())).bind fun r18 => (Ad7.F (a_5, ())).bind fun r19 => (Ad7.F (a_6, ())).bind fun r20 => (Aa7.F (a_7, ())).bind fun r21 => (Aa7.F (a_8, ())).bind fun r22 => (Af5.F (r18.1.1, r19.1.1, r20.1.1, r21.1.1, r22.1.1, ())).bind fun r23 => (Aa3.F (r23.1.1, r17.1.1, ())).bind fun r24 => if (!r24.1.1) = true then some ((false, ()), ()) else if (r23.1.2.1 != r17.1.2.1) = true then some ((false, ()), ()) else (Aj5.F ((toArray_1, (toArray_2, (toArray_3, toArray_4))), ())).bind fun r25 => (Ap7.F (r18.1.1, r25.1.1, ())).bind fun r26 => if (!r26.1.1) = true then some ((false, ()), ()) else (Ad7.F (a_5, ())).bind fun r27 => (Ag4.F (r19.1.1, r27.1.1, ())).bind fun r28 => if (!r28.1.1) = true then some ((false, ()), ()) else (Ad7.F (a_6, ())).bind fun r29 => (Ag4.F (r20.1.1, r29.1.1, ())).bind fun r30 => if (!r30.1.1) = true then some ((false, ()), ()) else (Aa7.F (a_7, ())).bind fun r31 => (Aa3.F (r21.1.1, r31.1.1, ())).bind fun r32 => if (!r32.1.1) = true then some ((false, ()), ()) else (Aa7.F (a_8, ())).bind fun r33 => (Aa3.F (r22.1.1, r33.1.1, ())).bind fun r34 => if (!r34.1.1) = true then some ((false, ()), ()) else (Ap8.F (r18.1.1, (1 : Int), ())).bind fun r35 => (Ag5.F (r19.1.1, r35.1.1, ())).bind fun r36 => (Ag5.F (r20.1.1, r36.1.1, ())).bind fun r37 => (Aa8.F (r21.1.1, r37.1.1, ())).bind fun r38 => (Aa8.F (r22.1.1, r38.1.1, ())).bind fun r39 => if (decide (r39.1.1 < 0)) = true then some ((false, ()), ()) else (Aa3.F (r23.1.1, r17.1.1, ())).bind fun r40 => if (!r40.1.1) = true then some ((false, ()), ()) else if (r23.1.2.1 != r17.1.2.1) = true then some ((false, ()), ()) else (Aa8.F (r23.1.1, (1 : Int), ())).bind fun r41 => (Aj4.F (r41.2.1, (1 : Int), ())).bind fun r42 => if (decide (r42.1.1 < 0)) = true then some ((false, ()), ()) else if (r42.1.1 != r41.1.1) = true then some ((false, ()), ()) else (Aj5.F ((toArray_1, (toArray_2, (toArray_3, toArray_4))), ())).bind fun r43 => (Ad7.F (a_5, ())).bind fun r44 => (Ad7.F (a_6, ())).bind fun r45 => (Aa7.F (a_7, ())).bind fun r46 => (Aa7.F (a_8, ())).bind fun r47 => (Af5.F (r43.1.1, r44.1.1, r45.1.1, r46.1.1, r47.1.1, ())).bind fun r48 => (Aa3.F (r48.1.1, r17.1.1, ())).bind fun r49 => if (!r49.1.1) = true then some ((false, ()), ()) else if (r48.1.2.1 != r17.1.2.1) = true then some ((false, ()), ()) else (Aj4.F (r41.2.1, (1 : Int), ())).bind fun r50 => if (decide (r50.1.1 < 0)) = true then some ((false, ()), ()) else if (r50.1.1 != r41.1.1) = true then some ((false, ()), ()) else some ((true, ()), ())
theorem eq : F ((toArray_1, (toArray_2, (toArray_3, toArray_4))), a_5, a_6, a_7, a_8, ()) = T toArray_1 toArray_2 toArray_3 toArray_4 a_5 a_6 a_7 a_8 := eq_any fun k => by kernel_rfl
theorem S : a2Z prog ⟨5, sig, F⟩ := sound_k (res := [.tmp 10]) func5 (⟨nM, mixed_ok, tab_ok tab_good, cM ⟨An4.S, cM ⟨Ag6.S, cM ⟨Aj5.S, cM ⟨Ad7.S, cM ⟨Ap7.S, cM ⟨Ag4.S, cM ⟨Ap8.S, cM ⟨Ag5.S, cM ⟨Aa7.S, cM ⟨Aa3.S, cM ⟨Aa8.S, cM ⟨Aj4.S, cM ⟨Ah0.S, cM ⟨Af5.S, nM⟩⟩⟩⟩⟩⟩⟩⟩⟩⟩⟩⟩⟩⟩, nM, nM⟩)
end An3
end Go.Proofs.YtanmmcfiogamfaaGreat
