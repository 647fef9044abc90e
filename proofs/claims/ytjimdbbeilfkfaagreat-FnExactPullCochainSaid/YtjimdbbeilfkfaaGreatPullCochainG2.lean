/- The functions, as the machine runs them. -/
import Derived.Test.YtjimdbbeilfkfaaGreatPullCochainG1
import Derived.Test.YtjimdbbeilfkfaaGreatProg
import Derived.KernelRfl
import Derived.WalkKit
import Derived.Lib.Walk
import Derived.Lib.AppendZeros
import Derived.Sort.WalkA
import Derived.Sort.WalkB2
import Derived.Sort.WalkB12
import Derived.Deep.LoopGhost
import Derived.Shelf.RegionOpenPlain
import Derived.Lib.SliceRun
namespace Go.Proofs.YtjimdbbeilfkfaaGreat
open Go Go.Vm
set_option linter.unusedVariables false
set_option linter.unusedSimpArgs false
open Go.Proofs.Tryz
namespace impl_PullCochain
noncomputable def sig : Sig := ⟨[.val true TSheaf, .val true (.sl (.sl (.int .i64))), .val false (.sl (.int .i64)), .val false (.sl (.int .i64))], [(.val false, (.sl (.int .i64)), .deep), (.val false, (.int .i64), .deep)]⟩
noncomputable def ctx : Ctx := ⟨tabOf tabl, [⟨68, impl_stalkSum.sig, impl_stalkSum.F⟩, ⟨81, impl_part.sig, impl_part.F⟩, ⟨103, impl_IsSheaf.sig, impl_IsSheaf.F⟩, ⟨104, impl_ValidComplex.sig, impl_ValidComplex.F⟩, ⟨105, impl_isVector.sig, impl_isVector.F⟩, ⟨106, impl_isMap.sig, impl_isMap.F⟩, ⟨107, impl_indexOf.sig, impl_indexOf.F⟩], [], [], [], []⟩
noncomputable def cfg : Cfg := ⟨ctx, [], [], fun id => match id with | 9 => ([3, 4, 10, 37, 38, 39], [16, 40]) | _ => ([], []), fun _ => []⟩
noncomputable def code : Code := (f46).body.getD .skip
noncomputable def fin := finK ctx sig [.tmp 8, .tmp 9]
noncomputable def F (d : (List (List Int) × Int × List Int × List (Int × Int × Int × List Int)) × List (List Int) × List Int × List Int × Unit) : Option ((List Int × Int × Unit) × (Unit)) := anyK (runFn cfg fin code (initSt sig.ps d 55))
noncomputable def l9 (k : Nat) (x13 : List Int) (x14 : List Int) (i15 : Int) (i16 : Int) (x17 : List (List Int)) (i18 : Int) (x19 : List Int) (x20 : List (Int × Int × Int × List Int)) (x21 : List Int) : Option ((List Int × Int × Unit) × (Unit)) :=
  Go.Vm.runT cfg fin k [.inLoop (sub [1, 1, 1, 0, 1, 0, 0] code), .inBlock 1, .code (sub [1, 1, 1, 1] code)]
    ⟨[.dead, .dead, .dead, .val false [⟨(.sl (.int .i64)), .sh, x13⟩], .ref 16 (.root 0), .dead, .dead, .dead, .dead, .dead, .view 40 (.root 0) 1 false, .dead, .dead, .dead, .dead, .dead, .dead, .dead, .dead, .dead, .dead, .dead, .dead, .dead, .dead, .dead, .dead, .dead, .dead, .dead, .dead, .dead, .dead, .dead, .dead, .dead, .dead, .val false [⟨(.sl (.int .i64)), .sh, x14⟩], .val false [⟨(.int .i64), .sh, i15⟩], .val false [⟨(.int .i64), .sh, i16⟩]] ++ deads 15, [(16, ⟨true, [⟨(.sl (.sl (.int .i64))), .sh, x17⟩, ⟨(.int .i64), .sh, i18⟩, ⟨(.sl (.int .i64)), .sh, x19⟩, ⟨(.sl TMatrix), .sh, x20⟩]⟩), (40, ⟨false, [⟨(.sl (.int .i64)), .deep, x21⟩]⟩)]⟩
theorem l9_eq (k : Nat) (x13 : List Int) (x14 : List Int) (i15 : Int) (i16 : Int) (x17 : List (List Int)) (i18 : Int) (x19 : List Int) (x20 : List (Int × Int × Int × List Int)) (x21 : List Int) : l9 (k + 1) x13 x14 i15 i16 x17 i18 x19 x20 x21 =
  if (decide (i16 < i15)) = true then
    if 0 ≤ i16 ∧ i16 < (x14.length : Int) then
      (impl_indexOf.F (x17, [(x14.getD i16.toNat 0 : Int)], ())).bind fun r22 =>
        (impl_part.F ((x17, (i18, (x19, x20))), x13, (r22.1.1 : Int), ())).bind fun r23 =>
          if x21.length + r23.1.1.length ≤ bigA then
            l9 k x13 x14 i15 (IntKind.i64.wrap (i16 + (1 : Int))) x17 i18 x19 x20 (x21 ++ r23.1.1)
          else
            none
    else
      none
  else
    some ((x21, ((0 : Int), ())), ()) := by kernel_rfl
noncomputable def T (k : Nat) (s_1 : List (List Int)) (s_2 : Int) (s_3 : List Int) (s_4 : List (Int × Int × Int × List Int)) (c_5 : List (List Int)) (images_6 : List Int) (x_7 : List Int) : Option ((List Int × Int × Unit) × (Unit)) :=
  (impl_IsSheaf.F ((s_1, (s_2, (s_3, s_4))), ())).bind fun r8 =>
    if (!(r8.1.1 : Bool)) = true then
      some (([], ((1 : Int), ())), ())
    else
      (impl_ValidComplex.F (c_5, ())).bind fun r9 =>
        if (!(r9.1.1 : Bool)) = true then
          some (([], ((1 : Int), ())), ())
        else
          (impl_stalkSum.F ((s_1, (s_2, (s_3, s_4))), (0 : Int), ())).bind fun r10 =>
            (impl_isVector.F (x_7, (r10.1.1 : Int), s_2, ())).bind fun r11 =>
              if (!(r11.1.1 : Bool)) = true then
                some (([], ((7 : Int), ())), ())
              else
                (impl_isMap.F (c_5, s_1, images_6, ())).bind fun r12 =>
                  if (!(r12.1.1 : Bool)) = true then
                    some (([], ((6 : Int), ())), ())
                  else
                    l9 k x_7 images_6 (images_6.length : Int) (0 : Int) s_1 s_2 s_3 s_4 ([])
theorem of (s_1 : List (List Int)) (s_2 : Int) (s_3 : List Int) (s_4 : List (Int × Int × Int × List Int)) (c_5 : List (List Int)) (images_6 : List Int) (x_7 : List Int) {r : (List Int × Int × Unit) × (Unit)} (h : Ev (fun k => T k s_1 s_2 s_3 s_4 c_5 images_6 x_7) r) : F ((s_1, (s_2, (s_3, s_4))), c_5, images_6, x_7, ()) = some r := Ev.run (fun k => by kernel_rfl) h
theorem ok : CtxOK prog ctx := ⟨nilM, mixed_ok, tab_ok tab_good, consM ⟨impl_stalkSum.S, consM ⟨impl_part.S, consM ⟨impl_IsSheaf.S, consM ⟨impl_ValidComplex.S, consM ⟨impl_isVector.S, consM ⟨impl_isMap.S, consM ⟨impl_indexOf.S, nilM⟩⟩⟩⟩⟩⟩⟩, nilM, nilM⟩
theorem S : Sound prog ⟨46, sig, F⟩ := sound_k (res := [.tmp 8, .tmp 9]) func46 ok
end impl_PullCochain
namespace laws_FnExactPullCochain
noncomputable def sig : Sig := ⟨[.val true TSheaf, .val true (.sl (.sl (.int .i64))), .val false (.sl (.int .i64)), .val false (.sl (.int .i64))], [(.val false, .bool, .deep)]⟩
noncomputable def ctx : Ctx := ⟨tabOf tabl, [⟨19, laws_eqInt64S.sig, laws_eqInt64S.F⟩, ⟨22, laws_markInt64S.sig, laws_markInt64S.F⟩, ⟨23, laws_heldInt64S.sig, laws_heldInt64S.F⟩, ⟨24, laws_szSheaf.sig, laws_szSheaf.F⟩, ⟨27, laws_toSheaf.sig, laws_toSheaf.F⟩, ⟨29, laws_toInt64S.sig, laws_toInt64S.F⟩, ⟨31, laws_eqSheaf.sig, laws_eqSheaf.F⟩, ⟨33, laws_markSheaf.sig, laws_markSheaf.F⟩, ⟨35, laws_szComplex.sig, laws_szComplex.F⟩, ⟨37, laws_toComplex.sig, laws_toComplex.F⟩, ⟨39, laws_eqComplex.sig, laws_eqComplex.F⟩, ⟨40, laws_markComplex.sig, laws_markComplex.F⟩, ⟨45, spec_PullCochain.sig, spec_PullCochain.F⟩, ⟨46, impl_PullCochain.sig, impl_PullCochain.F⟩], [], [], [], [10, 21]⟩
noncomputable def cfg : Cfg := ⟨ctx, [], [], fun _ => ([], []), fun _ => []⟩
noncomputable def code : Code := (f7).body.getD .skip
noncomputable def fin := finK ctx sig [.tmp 8]
noncomputable def F (d : (List (List Int) × Int × List Int × List (Int × Int × Int × List Int)) × List (List Int) × List Int × List Int × Unit) : Option ((Bool × Unit) × (Unit)) := anyK (runFn cfg fin code (initSt sig.ps d 161))
noncomputable def T (toArray_1 : List (List Int)) (toArray_2 : Int) (toArray_3 : List Int) (toArray_4 : List (Int × Int × Int × List Int)) (a_5 : List (List Int)) (a_6 : List Int) (a_7 : List Int) : Option ((Bool × Unit) × (Unit)) :=
  if (decide ((a_6.length : Int) > (1048576 : Int))) = true then
    some ((true, ()), ())
  else
    if (decide ((a_7.length : Int) > (1048576 : Int))) = true then
      some ((true, ()), ())
    else
      (laws_szSheaf.F ((toArray_1, (toArray_2, (toArray_3, toArray_4))), (1048576 : Int), ())).bind fun r8 =>
        if (decide ((r8.1.1 : Int) < (0 : Int))) = true then
          some ((true, ()), ())
        else
          (laws_szComplex.F (a_5, (r8.1.1 : Int), ())).bind fun r9 =>
            if (decide ((r9.1.1 : Int) < (0 : Int))) = true then
              some ((true, ()), ())
            else
              (laws_toSheaf.F ((toArray_1, (toArray_2, (toArray_3, toArray_4))), ())).bind fun r10 =>
                (laws_toComplex.F (a_5, ())).bind fun r11 =>
                  (laws_toInt64S.F (a_6, ())).bind fun r12 =>
                    (laws_toInt64S.F (a_7, ())).bind fun r13 =>
                      (spec_PullCochain.F (r10.1.1, r11.1.1, r12.1.1, r13.1.1, ())).bind fun r14 =>
                        (laws_toSheaf.F ((toArray_1, (toArray_2, (toArray_3, toArray_4))), ())).bind fun r15 =>
                          (laws_toComplex.F (a_5, ())).bind fun r16 =>
                            (laws_toInt64S.F (a_6, ())).bind fun r17 =>
                              (laws_toInt64S.F (a_7, ())).bind fun r18 =>
                                (impl_PullCochain.F (r15.1.1, r16.1.1, r17.1.1, r18.1.1, ())).bind fun r19 =>
                                  (laws_eqInt64S.F (r19.1.1, r14.1.1, ())).bind fun r20 =>
                                    if (!(r20.1.1 : Bool)) = true then
                                      some ((false, ()), ())
                                    else
                                      if ((r19.1.2.1 : Int) != (r14.1.2.1 : Int)) = true then
                                        some ((false, ()), ())
                                      else
                                        (laws_toSheaf.F ((toArray_1, (toArray_2, (toArray_3, toArray_4))), ())).bind fun r21 =>
                                          (laws_eqSheaf.F (r15.1.1, r21.1.1, ())).bind fun r22 =>
                                            if (!(r22.1.1 : Bool)) = true then
                                              some ((false, ()), ())
                                            else
                                              (laws_toComplex.F (a_5, ())).bind fun r23 =>
                                                (laws_eqComplex.F (r16.1.1, r23.1.1, ())).bind fun r24 =>
                                                  if (!(r24.1.1 : Bool)) = true then
                                                    some ((false, ()), ())
                                                  else
                                                    (laws_toInt64S.F (a_6, ())).bind fun r25 =>
                                                      (laws_eqInt64S.F (r17.1.1, r25.1.1, ())).bind fun r26 =>
                                                        if (!(r26.1.1 : Bool)) = true then
                                                          some ((false, ()), ())
                                                        else
                                                          (laws_toInt64S.F (a_7, ())).bind fun r27 =>
                                                            (laws_eqInt64S.F (r18.1.1, r27.1.1, ())).bind fun r28 =>
                                                              if (!(r28.1.1 : Bool)) = true then
                                                                some ((false, ()), ())
                                                              else
                                                                (laws_markSheaf.F (r15.1.1, (1 : Int), ())).bind fun r29 =>
                                                                  (laws_markComplex.F (r16.1.1, (r29.1.1 : Int), ())).bind fun r30 =>
                                                                    (laws_markInt64S.F (r17.1.1, (r30.1.1 : Int), ())).bind fun r31 =>
                                                                      (laws_markInt64S.F (r18.1.1, (r31.1.1 : Int), ())).bind fun r32 =>
                                                                        if (decide ((r32.1.1 : Int) < (0 : Int))) = true then
                                                                          some ((false, ()), ())
                                                                        else
                                                                          (laws_eqInt64S.F (r19.1.1, r14.1.1, ())).bind fun r33 =>
                                                                            if (!(r33.1.1 : Bool)) = true then
                                                                              some ((false, ()), ())
                                                                            else
                                                                              if ((r19.1.2.1 : Int) != (r14.1.2.1 : Int)) = true then
                                                                                some ((false, ()), ())
                                                                              else
                                                                                (laws_markInt64S.F (r19.1.1, (1 : Int), ())).bind fun r34 =>
                                                                                  (laws_heldInt64S.F (r34.2.1, (1 : Int), ())).bind fun r35 =>
                                                                                    if (decide ((r35.1.1 : Int) < (0 : Int))) = true then
                                                                                      some ((false, ()), ())
                                                                                    else
                                                                                      if ((r35.1.1 : Int) != (r34.1.1 : Int)) = true then
                                                                                        some ((false, ()), ())
                                                                                      else
                                                                                        (laws_toSheaf.F ((toArray_1, (toArray_2, (toArray_3, toArray_4))), ())).bind fun r36 =>
                                                                                          (laws_toComplex.F (a_5, ())).bind fun r37 =>
                                                                                            (laws_toInt64S.F (a_6, ())).bind fun r38 =>
                                                                                              (laws_toInt64S.F (a_7, ())).bind fun r39 =>
                                                                                                (impl_PullCochain.F (r36.1.1, r37.1.1, r38.1.1, r39.1.1, ())).bind fun r40 =>
                                                                                                  (laws_eqInt64S.F (r40.1.1, r14.1.1, ())).bind fun r41 =>
                                                                                                    if (!(r41.1.1 : Bool)) = true then
                                                                                                      some ((false, ()), ())
                                                                                                    else
                                                                                                      if ((r40.1.2.1 : Int) != (r14.1.2.1 : Int)) = true then
                                                                                                        some ((false, ()), ())
                                                                                                      else
                                                                                                        (laws_heldInt64S.F (r34.2.1, (1 : Int), ())).bind fun r42 =>
                                                                                                          if (decide ((r42.1.1 : Int) < (0 : Int))) = true then
                                                                                                            some ((false, ()), ())
                                                                                                          else
                                                                                                            if ((r42.1.1 : Int) != (r34.1.1 : Int)) = true then
                                                                                                              some ((false, ()), ())
                                                                                                            else
                                                                                                              some ((true, ()), ())
theorem eq (toArray_1 : List (List Int)) (toArray_2 : Int) (toArray_3 : List Int) (toArray_4 : List (Int × Int × Int × List Int)) (a_5 : List (List Int)) (a_6 : List Int) (a_7 : List Int) : F ((toArray_1, (toArray_2, (toArray_3, toArray_4))), a_5, a_6, a_7, ()) = T toArray_1 toArray_2 toArray_3 toArray_4 a_5 a_6 a_7 := eq_any fun k => by kernel_rfl
theorem ok : CtxOK prog ctx := ⟨nilM, mixed_ok, tab_ok tab_good, consM ⟨laws_eqInt64S.S, consM ⟨laws_markInt64S.S, consM ⟨laws_heldInt64S.S, consM ⟨laws_szSheaf.S, consM ⟨laws_toSheaf.S, consM ⟨laws_toInt64S.S, consM ⟨laws_eqSheaf.S, consM ⟨laws_markSheaf.S, consM ⟨laws_szComplex.S, consM ⟨laws_toComplex.S, consM ⟨laws_eqComplex.S, consM ⟨laws_markComplex.S, consM ⟨spec_PullCochain.S, consM ⟨impl_PullCochain.S, nilM⟩⟩⟩⟩⟩⟩⟩⟩⟩⟩⟩⟩⟩⟩, nilM, nilM⟩
theorem S : Sound prog ⟨7, sig, F⟩ := sound_k (res := [.tmp 8]) func7 ok
end laws_FnExactPullCochain
end Go.Proofs.YtjimdbbeilfkfaaGreat
