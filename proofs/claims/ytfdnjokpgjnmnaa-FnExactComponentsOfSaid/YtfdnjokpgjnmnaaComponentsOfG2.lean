/- The functions, as the machine runs them. -/
import Derived.Test.YtfdnjokpgjnmnaaComponentsOfG1
import Derived.Test.YtfdnjokpgjnmnaaProg
import Derived.KernelRfl
import Derived.WalkKit
import Derived.Lib.Walk
import Derived.Lib.AppendZeros
namespace Go.Proofs.Ytfdnjokpgjnmnaa
open Go Go.Vm
set_option linter.unusedVariables false
set_option linter.unusedSimpArgs false
open Go.Proofs.Try
namespace Aa8
noncomputable def sig : Sig := ⟨[.wr false tL .deep, pI], [oI]⟩
noncomputable def cfg : Cfg := ⟨cx [], [0], [], fun id => match id with | 2 => ([0, 1, 5], [0]) | _ => ([], []), fun _ => []⟩
noncomputable def fin := finK cfg.c sig [.tmp 4]
noncomputable def F (d : LI × Int × Unit) : Option ((Int × Unit) × (LI × Unit)) := anyK (a9q cfg fin (bd f12) (a5e sig.ps d 19))
variable (k : Nat) (i3 i4 : Int) (x5 : LI)
noncomputable def l2 : Option ((Int × Unit) × (LI × Unit)) := Vm.runT cfg fin k [.inLoop (sub [1, 0, 1, 0, 0] (bd f12)), .inBlock 0, .code (sub [1, 1] (bd f12))] ⟨[.view 0 (.root 0) 1 false, vI i3, dD, dD, dD, vI i4] ++ a8I 13, [(0, ⟨false, [dL x5]⟩)]⟩
theorem l2_eq : l2 (k + 1) i3 i4 x5 = if (decide (i4 < (x5.length : Int))) = true then if 0 ≤ i4 ∧ i4 < (x5.length : Int) then l2 k (IntKind.i64.wrap (i3 + 1)) (IntKind.i64.wrap (i4 + 1)) (x5.set i4.toNat i3) else none else some ((i3, ()), (x5, ())) := by kernel_rfl
variable (a_1 : LI) (k_2 : Int)
noncomputable def T : Option ((Int × Unit) × (LI × Unit)) := l2 k k_2 (0 : Int) a_1
theorem of {r} (h : Ev (fun k => T k a_1 k_2) r) : F (a_1, k_2, ()) = some r := Ev.run (fun k => by kernel_rfl) h
theorem S : a3x prog ⟨12, sig, F⟩ := sound_k (res := [.tmp 4]) func12 (cok nM)
end Aa8
namespace Aa7
noncomputable def sig : Sig := ⟨[pL, pI], [oI]⟩
noncomputable def cfg : Cfg := cl (cx []) fun id => match id with | 2 => ([0, 1, 5], []) | _ => ([], [])
noncomputable def fin := finK cfg.c sig [.tmp 4]
noncomputable def F (d : LI × Int × Unit) : OI := anyK (a9q cfg fin (bd f13) (a5e sig.ps d 21))
variable (k : Nat) (x3 : LI) (i4 i5 : Int)
noncomputable def l2 : OI := Vm.runT cfg fin k [.inLoop (sub [1, 0, 1, 0, 0] (bd f13)), .inBlock 0, .code (sub [1, 1] (bd f13))] ⟨[vL x3, vI i4, dD, dD, dD, vI i5] ++ a8I 15, []⟩
theorem l2_eq : l2 (k + 1) x3 i4 i5 = if (decide (i5 < (x3.length : Int))) = true then if 0 ≤ i5 ∧ i5 < (x3.length : Int) then if ((x3.getD i5.toNat 0 : Int) != i4) = true then some (((-1 : Int), ()), ()) else l2 k x3 (IntKind.i64.wrap (i4 + 1)) (IntKind.i64.wrap (i5 + 1)) else none else some ((i4, ()), ()) := by kernel_rfl
variable (a_1 : LI) (k_2 : Int)
noncomputable def T : OI := l2 k a_1 k_2 (0 : Int)
theorem of {r} (h : Ev (fun k => T k a_1 k_2) r) : F (a_1, k_2, ()) = some r := Ev.run (fun k => by kernel_rfl) h
theorem S : a3x prog ⟨13, sig, F⟩ := sound_k (res := [.tmp 4]) func13 (cok nM)
end Aa7
namespace Ac6
noncomputable def sig : Sig := ⟨[.val true TGraph], [oB]⟩
noncomputable def cfg : Cfg := cf (cx [⟨5, Ac3.sig, Ac3.F⟩, ⟨6, Ac4.sig, Ac4.F⟩, ⟨7, Ab0.sig, Ab0.F⟩, ⟨8, Ab5.sig, Ab5.F⟩, ⟨9, Aa0.sig, Aa0.F⟩, ⟨10, Ac0.sig, Ac0.F⟩, ⟨11, Ac1.sig, Ac1.F⟩, ⟨12, Aa8.sig, Aa8.F⟩, ⟨13, Aa7.sig, Aa7.F⟩])
noncomputable def fin := finK cfg.c sig [.tmp 2]
noncomputable def F (d : (Int × List (Int × Int × Int)) × Unit) : OB := anyK (a9q cfg fin (bd f3) (a5e sig.ps d 96))
variable (toArray_1 : Int) (toArray_2 : List (Int × Int × Int))
noncomputable def T : OB := (Ac3.F ((toArray_1, toArray_2), (1048576 : Int), ())).bind fun r3 => if (decide (r3.1.1 < 0)) = true then some ((true, ()), ()) else (Ab0.F ((toArray_1, toArray_2), ())).bind fun r4 => (Ac4.F (r4.1.1, ())).bind fun r5 => (Ab0.F ((toArray_1, toArray_2), ())).bind fun r6 => (Ab5.F (r6.1.1, ())).bind fun r7 => (Aa0.F (r7.1.1, r5.1.1, ())).bind fun r8 => if (!r8.1.1) = true then some ((false, ()), ()) else if (r7.1.2.1 != r5.1.2.1) = true then some ((false, ()), ()) else (Ab0.F ((toArray_1, toArray_2), ())).bind fun r9 => (Ac0.F (r6.1.1, r9.1.1, ())).bind fun r10 => if (!r10.1.1) = true then some ((false, ()), ()) else (Ac1.F (r6.1.1, (1 : Int), ())).bind fun r11 => if (decide (r11.1.1 < 0)) = true then some ((false, ()), ()) else (Aa0.F (r7.1.1, r5.1.1, ())).bind fun r12 => if (!r12.1.1) = true then some ((false, ()), ()) else if (r7.1.2.1 != r5.1.2.1) = true then some ((false, ()), ()) else (Aa8.F (r7.1.1, (1 : Int), ())).bind fun r13 => (Aa7.F (r13.2.1, (1 : Int), ())).bind fun r14 => if (decide (r14.1.1 < 0)) = true then some ((false, ()), ()) else if (r14.1.1 != r13.1.1) = true then some ((false, ()), ()) else (Ab0.F ((toArray_1, toArray_2), ())).bind fun r15 => (Ab5.F (r15.1.1, ())).bind fun r16 => (Aa0.F (r16.1.1, r5.1.1, ())).bind fun r17 => if (!r17.1.1) = true then some ((false, ()), ()) else if (r16.1.2.1 != r5.1.2.1) = true then some ((false, ()), ()) else (Aa7.F (r13.2.1, (1 : Int), ())).bind fun r18 => if (decide (r18.1.1 < 0)) = true then some ((false, ()), ()) else if (r18.1.1 != r13.1.1) = true then some ((false, ()), ()) else some ((true, ()), ())
theorem eq : F ((toArray_1, toArray_2), ()) = T toArray_1 toArray_2 := eq_any fun k => by kernel_rfl
theorem S : a3x prog ⟨3, sig, F⟩ := sound_k (res := [.tmp 2]) func3 (cok (cM ⟨Ac3.S, cM ⟨Ac4.S, cM ⟨Ab0.S, cM ⟨Ab5.S, cM ⟨Aa0.S, cM ⟨Ac0.S, cM ⟨Ac1.S, cM ⟨Aa8.S, cM ⟨Aa7.S, nM⟩⟩⟩⟩⟩⟩⟩⟩⟩))
end Ac6
end Go.Proofs.Ytfdnjokpgjnmnaa
