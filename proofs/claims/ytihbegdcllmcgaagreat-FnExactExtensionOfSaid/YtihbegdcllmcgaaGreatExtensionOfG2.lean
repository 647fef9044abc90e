/- The functions, as the machine runs them. -/
import Derived.Test.YtihbegdcllmcgaaGreatExtensionOfG1
import Derived.Test.YtihbegdcllmcgaaGreatProg
import Derived.KernelRfl
import Derived.WalkKit
import Derived.Lib.Walk
import Derived.Lib.AppendZeros
namespace Go.Proofs.YtihbegdcllmcgaaGreat
open Go Go.Vm
set_option linter.unusedVariables false
set_option linter.unusedSimpArgs false
open Go.Proofs.Tryz
namespace laws_markCosheaf
noncomputable def sig : Sig := ⟨[.wr true TSheaf .deep, .val false (.int .i64)], [(.val false, (.int .i64), .deep)]⟩
noncomputable def ctx : Ctx := ⟨tabOf tabl, [⟨28, laws_markMatrixS.sig, laws_markMatrixS.F⟩, ⟨29, laws_markInt64S.sig, laws_markInt64S.F⟩, ⟨46, laws_markComplex.sig, laws_markComplex.F⟩], [], [], [], []⟩
noncomputable def cfg : Cfg := ⟨ctx, [0], [], fun _ => ([], []), fun _ => []⟩
noncomputable def code : Code := (f13).body.getD .skip
noncomputable def fin := finK ctx sig [.tmp 4]
noncomputable def F (d : (List (List Int) × Int × List Int × List (Int × Int × Int × List Int)) × Int × Unit) : Option ((Int × Unit) × ((List (List Int) × Int × List Int × List (Int × Int × Int × List Int)) × Unit)) := anyK (runFn cfg fin code (initSt sig.ps d 18))
noncomputable def T (a_1 : List (List Int)) (a_2 : Int) (a_3 : List Int) (a_4 : List (Int × Int × Int × List Int)) (k_5 : Int) : Option ((Int × Unit) × ((List (List Int) × Int × List Int × List (Int × Int × Int × List Int)) × Unit)) :=
  (laws_markComplex.F (a_1, k_5, ())).bind fun r6 =>
    (laws_markInt64S.F (a_3, (r6.1.1 : Int), ())).bind fun r7 =>
      (laws_markMatrixS.F (a_4, (r7.1.1 : Int), ())).bind fun r8 =>
        some (((r8.1.1 : Int), ()), ((r6.2.1, (a_2, (r7.2.1, r8.2.1))), ()))
theorem eq (a_1 : List (List Int)) (a_2 : Int) (a_3 : List Int) (a_4 : List (Int × Int × Int × List Int)) (k_5 : Int) : F ((a_1, (a_2, (a_3, a_4))), k_5, ()) = T a_1 a_2 a_3 a_4 k_5 := eq_any fun k => by kernel_rfl
theorem ok : CtxOK prog ctx := ⟨nilM, mixed_ok, tab_ok tab_good, consM ⟨laws_markMatrixS.S, consM ⟨laws_markInt64S.S, consM ⟨laws_markComplex.S, nilM⟩⟩⟩, nilM, nilM⟩
theorem S : Sound prog ⟨13, sig, F⟩ := sound_k (res := [.tmp 4]) func13 ok
end laws_markCosheaf
namespace laws_markMatrix
noncomputable def sig : Sig := ⟨[.wr true TMatrix .deep, .val false (.int .i64)], [(.val false, (.int .i64), .deep)]⟩
noncomputable def ctx : Ctx := ⟨tabOf tabl, [⟨29, laws_markInt64S.sig, laws_markInt64S.F⟩], [], [], [], []⟩
noncomputable def cfg : Cfg := ⟨ctx, [0], [], fun _ => ([], []), fun _ => []⟩
noncomputable def code : Code := (f14).body.getD .skip
noncomputable def fin := finK ctx sig [.tmp 4]
noncomputable def F (d : (Int × Int × Int × List Int) × Int × Unit) : Option ((Int × Unit) × ((Int × Int × Int × List Int) × Unit)) := anyK (runFn cfg fin code (initSt sig.ps d 10))
noncomputable def T (a_1 : Int) (a_2 : Int) (a_3 : Int) (a_4 : List Int) (k_5 : Int) : Option ((Int × Unit) × ((Int × Int × Int × List Int) × Unit)) :=
  (laws_markInt64S.F (a_4, k_5, ())).bind fun r6 =>
    some (((r6.1.1 : Int), ()), ((a_1, (a_2, (a_3, r6.2.1))), ()))
theorem eq (a_1 : Int) (a_2 : Int) (a_3 : Int) (a_4 : List Int) (k_5 : Int) : F ((a_1, (a_2, (a_3, a_4))), k_5, ()) = T a_1 a_2 a_3 a_4 k_5 := eq_any fun k => by kernel_rfl
theorem ok : CtxOK prog ctx := ⟨nilM, mixed_ok, tab_ok tab_good, consM ⟨laws_markInt64S.S, nilM⟩, nilM, nilM⟩
theorem S : Sound prog ⟨14, sig, F⟩ := sound_k (res := [.tmp 4]) func14 ok
end laws_markMatrix
namespace laws_heldInt64S
noncomputable def sig : Sig := ⟨[.val false (.sl (.int .i64)), .val false (.int .i64)], [(.val false, (.int .i64), .deep)]⟩
noncomputable def ctx : Ctx := ⟨tabOf tabl, [], [], [], [], []⟩
noncomputable def cfg : Cfg := ⟨ctx, [], [], fun id => match id with | 2 => ([0, 1, 5], []) | _ => ([], []), fun _ => []⟩
noncomputable def code : Code := (f30).body.getD .skip
noncomputable def fin := finK ctx sig [.tmp 4]
noncomputable def F (d : List Int × Int × Unit) : Option ((Int × Unit) × (Unit)) := anyK (runFn cfg fin code (initSt sig.ps d 21))
noncomputable def l2 (k : Nat) (x3 : List Int) (i4 : Int) (i5 : Int) : Option ((Int × Unit) × (Unit)) :=
  Go.Vm.runT cfg fin k [.inLoop (sub [1, 0, 1, 0, 0] code), .inBlock 0, .code (sub [1, 1] code)]
    ⟨[.val false [⟨(.sl (.int .i64)), .sh, x3⟩], .val false [⟨(.int .i64), .sh, i4⟩], .dead, .dead, .dead, .val false [⟨(.int .i64), .sh, i5⟩]] ++ deads 15, []⟩
theorem l2_eq (k : Nat) (x3 : List Int) (i4 : Int) (i5 : Int) : l2 (k + 1) x3 i4 i5 =
  if (decide (i5 < (x3.length : Int))) = true then
    if 0 ≤ i5 ∧ i5 < (x3.length : Int) then
      if ((x3.getD i5.toNat 0 : Int) != i4) = true then
        some (((-1 : Int), ()), ())
      else
        l2 k x3 (IntKind.i64.wrap (i4 + (1 : Int))) (IntKind.i64.wrap (i5 + (1 : Int)))
    else
      none
  else
    some ((i4, ()), ()) := by kernel_rfl
noncomputable def T (k : Nat) (a_1 : List Int) (k_2 : Int) : Option ((Int × Unit) × (Unit)) :=
  l2 k a_1 k_2 (0 : Int)
theorem of (a_1 : List Int) (k_2 : Int) {r : (Int × Unit) × (Unit)} (h : Ev (fun k => T k a_1 k_2) r) : F (a_1, k_2, ()) = some r := Ev.run (fun k => by kernel_rfl) h
theorem ok : CtxOK prog ctx := ⟨nilM, mixed_ok, tab_ok tab_good, nilM, nilM, nilM⟩
theorem S : Sound prog ⟨30, sig, F⟩ := sound_k (res := [.tmp 4]) func30 ok
end laws_heldInt64S
namespace laws_heldMatrix
noncomputable def sig : Sig := ⟨[.val true TMatrix, .val false (.int .i64)], [(.val false, (.int .i64), .deep)]⟩
noncomputable def ctx : Ctx := ⟨tabOf tabl, [⟨30, laws_heldInt64S.sig, laws_heldInt64S.F⟩], [], [], [], []⟩
noncomputable def cfg : Cfg := ⟨ctx, [], [], fun _ => ([], []), fun _ => []⟩
noncomputable def code : Code := (f15).body.getD .skip
noncomputable def fin := finK ctx sig [.tmp 4]
noncomputable def F (d : (Int × Int × Int × List Int) × Int × Unit) : Option ((Int × Unit) × (Unit)) := anyK (runFn cfg fin code (initSt sig.ps d 12))
noncomputable def T (a_1 : Int) (a_2 : Int) (a_3 : Int) (a_4 : List Int) (k_5 : Int) : Option ((Int × Unit) × (Unit)) :=
  (laws_heldInt64S.F (a_4, k_5, ())).bind fun r6 =>
    if (decide ((r6.1.1 : Int) < (0 : Int))) = true then
      some (((-1 : Int), ()), ())
    else
      some (((r6.1.1 : Int), ()), ())
theorem eq (a_1 : Int) (a_2 : Int) (a_3 : Int) (a_4 : List Int) (k_5 : Int) : F ((a_1, (a_2, (a_3, a_4))), k_5, ()) = T a_1 a_2 a_3 a_4 k_5 := eq_any fun k => by kernel_rfl
theorem ok : CtxOK prog ctx := ⟨nilM, mixed_ok, tab_ok tab_good, consM ⟨laws_heldInt64S.S, nilM⟩, nilM, nilM⟩
theorem S : Sound prog ⟨15, sig, F⟩ := sound_k (res := [.tmp 4]) func15 ok
end laws_heldMatrix
namespace laws_FnExactExtensionOf
noncomputable def sig : Sig := ⟨[.val true TSheaf, .val false (.int .i64), .val false (.int .i64)], [(.val false, .bool, .deep)]⟩
noncomputable def ctx : Ctx := ⟨tabOf tabl, [⟨7, laws_szCosheaf.sig, laws_szCosheaf.F⟩, ⟨8, spec_ExtensionOf.sig, spec_ExtensionOf.F⟩, ⟨9, laws_toCosheaf.sig, laws_toCosheaf.F⟩, ⟨10, impl_ExtensionOf.sig, impl_ExtensionOf.F⟩, ⟨11, laws_eqMatrix.sig, laws_eqMatrix.F⟩, ⟨12, laws_eqCosheaf.sig, laws_eqCosheaf.F⟩, ⟨13, laws_markCosheaf.sig, laws_markCosheaf.F⟩, ⟨14, laws_markMatrix.sig, laws_markMatrix.F⟩, ⟨15, laws_heldMatrix.sig, laws_heldMatrix.F⟩], [], [], [], []⟩
noncomputable def cfg : Cfg := ⟨ctx, [], [], fun _ => ([], []), fun _ => []⟩
noncomputable def code : Code := (f3).body.getD .skip
noncomputable def fin := finK ctx sig [.tmp 6]
noncomputable def F (d : (List (List Int) × Int × List Int × List (Int × Int × Int × List Int)) × Int × Int × Unit) : Option ((Bool × Unit) × (Unit)) := anyK (runFn cfg fin code (initSt sig.ps d 106))
noncomputable def T (toArray_1 : List (List Int)) (toArray_2 : Int) (toArray_3 : List Int) (toArray_4 : List (Int × Int × Int × List Int)) (a_5 : Int) (a_6 : Int) : Option ((Bool × Unit) × (Unit)) :=
  (laws_szCosheaf.F ((toArray_1, (toArray_2, (toArray_3, toArray_4))), (1048576 : Int), ())).bind fun r7 =>
    if (decide ((r7.1.1 : Int) < (0 : Int))) = true then
      some ((true, ()), ())
    else
      (laws_toCosheaf.F ((toArray_1, (toArray_2, (toArray_3, toArray_4))), ())).bind fun r8 =>
        (spec_ExtensionOf.F (r8.1.1, a_5, a_6, ())).bind fun r9 =>
          (laws_toCosheaf.F ((toArray_1, (toArray_2, (toArray_3, toArray_4))), ())).bind fun r10 =>
            (impl_ExtensionOf.F (r10.1.1, a_5, a_6, ())).bind fun r11 =>
              (laws_eqMatrix.F (r11.1.1, r9.1.1, ())).bind fun r12 =>
                if (!(r12.1.1 : Bool)) = true then
                  some ((false, ()), ())
                else
                  if ((r11.1.2.1 : Int) != (r9.1.2.1 : Int)) = true then
                    some ((false, ()), ())
                  else
                    (laws_toCosheaf.F ((toArray_1, (toArray_2, (toArray_3, toArray_4))), ())).bind fun r13 =>
                      (laws_eqCosheaf.F (r10.1.1, r13.1.1, ())).bind fun r14 =>
                        if (!(r14.1.1 : Bool)) = true then
                          some ((false, ()), ())
                        else
                          (laws_markCosheaf.F (r10.1.1, (1 : Int), ())).bind fun r15 =>
                            if (decide ((r15.1.1 : Int) < (0 : Int))) = true then
                              some ((false, ()), ())
                            else
                              (laws_eqMatrix.F (r11.1.1, r9.1.1, ())).bind fun r16 =>
                                if (!(r16.1.1 : Bool)) = true then
                                  some ((false, ()), ())
                                else
                                  if ((r11.1.2.1 : Int) != (r9.1.2.1 : Int)) = true then
                                    some ((false, ()), ())
                                  else
                                    (laws_markMatrix.F (r11.1.1, (1 : Int), ())).bind fun r17 =>
                                      (laws_heldMatrix.F (r17.2.1, (1 : Int), ())).bind fun r18 =>
                                        if (decide ((r18.1.1 : Int) < (0 : Int))) = true then
                                          some ((false, ()), ())
                                        else
                                          if ((r18.1.1 : Int) != (r17.1.1 : Int)) = true then
                                            some ((false, ()), ())
                                          else
                                            (laws_toCosheaf.F ((toArray_1, (toArray_2, (toArray_3, toArray_4))), ())).bind fun r19 =>
                                              (impl_ExtensionOf.F (r19.1.1, a_5, a_6, ())).bind fun r20 =>
                                                (laws_eqMatrix.F (r20.1.1, r9.1.1, ())).bind fun r21 =>
                                                  if (!(r21.1.1 : Bool)) = true then
                                                    some ((false, ()), ())
                                                  else
                                                    if ((r20.1.2.1 : Int) != (r9.1.2.1 : Int)) = true then
                                                      some ((false, ()), ())
                                                    else
                                                      (laws_heldMatrix.F (r17.2.1, (1 : Int), ())).bind fun r22 =>
                                                        if (decide ((r22.1.1 : Int) < (0 : Int))) = true then
                                                          some ((false, ()), ())
                                                        else
                                                          if ((r22.1.1 : Int) != (r17.1.1 : Int)) = true then
                                                            some ((false, ()), ())
                                                          else
                                                            some ((true, ()), ())
theorem eq (toArray_1 : List (List Int)) (toArray_2 : Int) (toArray_3 : List Int) (toArray_4 : List (Int × Int × Int × List Int)) (a_5 : Int) (a_6 : Int) : F ((toArray_1, (toArray_2, (toArray_3, toArray_4))), a_5, a_6, ()) = T toArray_1 toArray_2 toArray_3 toArray_4 a_5 a_6 := eq_any fun k => by kernel_rfl
theorem ok : CtxOK prog ctx := ⟨nilM, mixed_ok, tab_ok tab_good, consM ⟨laws_szCosheaf.S, consM ⟨spec_ExtensionOf.S, consM ⟨laws_toCosheaf.S, consM ⟨impl_ExtensionOf.S, consM ⟨laws_eqMatrix.S, consM ⟨laws_eqCosheaf.S, consM ⟨laws_markCosheaf.S, consM ⟨laws_markMatrix.S, consM ⟨laws_heldMatrix.S, nilM⟩⟩⟩⟩⟩⟩⟩⟩⟩, nilM, nilM⟩
theorem S : Sound prog ⟨3, sig, F⟩ := sound_k (res := [.tmp 6]) func3 ok
end laws_FnExactExtensionOf
end Go.Proofs.YtihbegdcllmcgaaGreat
