/- The functions, as the machine runs them. -/
import Derived.Test.YtjimdbbeilfkfaaGreatPullSheafG1
import Derived.Test.YtjimdbbeilfkfaaGreatProg
import Derived.KernelRfl
import Derived.WalkKit
import Derived.Lib.Walk
import Derived.Lib.AppendZeros
import Derived.Sort.WalkA
import Derived.Sort.WalkB2
import Derived.Sort.WalkB12
import Derived.Deep.LoopGhost
import Derived.Shelf.RegionOpenPlain
import Derived.Lib.SliceRun
namespace Go.Proofs.YtjimdbbeilfkfaaGreat
open Go Go.Vm
set_option linter.unusedVariables false
set_option linter.unusedSimpArgs false
open Go.Proofs.Tryz
namespace impl_SameMatrix
noncomputable def sig : Sig := ⟨[.val true TMatrix, .val true TMatrix], [(.val false, .bool, .deep)]⟩
noncomputable def ctx : Ctx := ⟨tabOf tabl, [⟨259, slices_Equal_Lint64_int64.sig, slices_Equal_Lint64_int64.F⟩], [], [], [], []⟩
noncomputable def cfg : Cfg := ⟨ctx, [], [], fun _ => ([], []), fun _ => []⟩
noncomputable def code : Code := (f266).body.getD .skip
noncomputable def fin := finK ctx sig [.tmp 4]
noncomputable def F (d : (Int × Int × Int × List Int) × (Int × Int × Int × List Int) × Unit) : Option ((Bool × Unit) × (Unit)) := anyK (runFn cfg fin code (initSt sig.ps d 31))
noncomputable def T (a_1 : Int) (a_2 : Int) (a_3 : Int) (a_4 : List Int) (b_5 : Int) (b_6 : Int) (b_7 : Int) (b_8 : List Int) : Option ((Bool × Unit) × (Unit)) :=
  if (a_1 == b_5) = true then
    if (a_2 == b_6) = true then
      if (a_3 == b_7) = true then
        (slices_Equal_Lint64_int64.F (a_4, b_8, ())).bind fun r9 =>
          some (((r9.1.1 : Bool), ()), ())
      else
        some ((false, ()), ())
    else
      some ((false, ()), ())
  else
    some ((false, ()), ())
theorem eq (a_1 : Int) (a_2 : Int) (a_3 : Int) (a_4 : List Int) (b_5 : Int) (b_6 : Int) (b_7 : Int) (b_8 : List Int) : F ((a_1, (a_2, (a_3, a_4))), (b_5, (b_6, (b_7, b_8))), ()) = T a_1 a_2 a_3 a_4 b_5 b_6 b_7 b_8 := eq_any fun k => by kernel_rfl
theorem ok : CtxOK prog ctx := ⟨nilM, mixed_ok, tab_ok tab_good, consM ⟨slices_Equal_Lint64_int64.S, nilM⟩, nilM, nilM⟩
theorem S : Sound prog ⟨266, sig, F⟩ := sound_k (res := [.tmp 4]) func266 ok
end impl_SameMatrix
namespace impl_wrongSquare
noncomputable def sig : Sig := ⟨[.val true TSheaf], [(.val false, (.int .i64), .deep), (.val false, (.int .i64), .deep), (.val false, .bool, .deep)]⟩
noncomputable def ctx : Ctx := ⟨tabOf tabl, [⟨124, impl_direct.sig, impl_direct.F⟩, ⟨162, impl_faceIndices.sig, impl_faceIndices.F⟩, ⟨265, impl_product.sig, impl_product.F⟩, ⟨266, impl_SameMatrix.sig, impl_SameMatrix.F⟩], [], [], [], []⟩
noncomputable def cfg : Cfg := ⟨ctx, [], [], fun id => match id with | 2 => ([1, 15, 16, 17], [4]) | 8 => ([1, 6, 7, 8, 15, 16, 17, 31, 32], [4, 32]) | 11 => ([1, 6, 7, 8, 9, 10, 15, 16, 17, 31, 32], [4, 32]) | _ => ([], []), fun _ => []⟩
noncomputable def code : Code := (f193).body.getD .skip
noncomputable def fin := finK ctx sig [.tmp 2, .tmp 3, .tmp 4]
noncomputable def F (d : (List (List Int) × Int × List Int × List (Int × Int × Int × List Int)) × Unit) : Option ((Int × Int × Bool × Unit) × (Unit)) := anyK (runFn cfg fin code (initSt sig.ps d 86))
noncomputable def l2 (k : Nat) (x5 : List (List Int)) (i6 : Int) (i7 : Int) (x8 : List (List Int)) (i9 : Int) (x10 : List Int) (x11 : List (Int × Int × Int × List Int)) : Option ((Int × Int × Bool × Unit) × (Unit)) :=
  Go.Vm.runT cfg fin k [.inLoop (sub [1, 0, 1, 0, 0] code), .inBlock 0, .code (sub [1, 1] code)]
    ⟨[.dead, .ref 4 (.root 0), .dead, .dead, .dead, .dead, .dead, .dead, .dead, .dead, .dead, .dead, .dead, .dead, .dead, .val false [⟨(.sl (.sl (.int .i64))), .sh, x5⟩], .val false [⟨(.int .i64), .sh, i6⟩], .val false [⟨(.int .i64), .sh, i7⟩]] ++ deads 68, [(4, ⟨true, [⟨(.sl (.sl (.int .i64))), .sh, x8⟩, ⟨(.int .i64), .sh, i9⟩, ⟨(.sl (.int .i64)), .sh, x10⟩, ⟨(.sl TMatrix), .sh, x11⟩]⟩)]⟩
noncomputable def l8 (k : Nat) (x13 : List Int) (i14 : Int) (x15 : List (List Int)) (i16 : Int) (i17 : Int) (i18 : Int) (i19 : Int) (x20 : List (List Int)) (i21 : Int) (x22 : List Int) (x23 : List (Int × Int × Int × List Int)) (x24 : List Int) : Option ((Int × Int × Bool × Unit) × (Unit)) :=
  Go.Vm.runT cfg fin k [.inLoop (sub [1, 0, 1, 0, 0, 1, 1, 0, 0, 1, 1, 1, 1, 1, 0, 0] code), .inBlock 2, .inBlock 1, .code (sub [1, 0, 1, 0, 0, 1, 1, 1] code), .inLoop (sub [1, 0, 1, 0, 0] code), .inBlock 0, .code (sub [1, 1] code)]
    ⟨[.dead, .ref 4 (.root 0), .dead, .dead, .dead, .dead, .val false [⟨(.sl (.int .i64)), .sh, x13⟩], .val false [⟨(.int .i64), .sh, i14⟩], .view 32 (.root 0) 1 false, .dead, .dead, .dead, .dead, .dead, .dead, .val false [⟨(.sl (.sl (.int .i64))), .sh, x15⟩], .val false [⟨(.int .i64), .sh, i16⟩], .val false [⟨(.int .i64), .sh, i17⟩], .dead, .dead, .dead, .dead, .dead, .dead, .dead, .dead, .dead, .dead, .dead, .dead, .dead, .val false [⟨(.int .i64), .sh, i18⟩], .val false [⟨(.int .i64), .sh, i19⟩]] ++ deads 53, [(4, ⟨true, [⟨(.sl (.sl (.int .i64))), .sh, x20⟩, ⟨(.int .i64), .sh, i21⟩, ⟨(.sl (.int .i64)), .sh, x22⟩, ⟨(.sl TMatrix), .sh, x23⟩]⟩), (32, ⟨false, [⟨(.sl (.int .i64)), .deep, x24⟩]⟩)]⟩
noncomputable def l11 (k : Nat) (x25 : List Int) (i26 : Int) (i27 : Int) (i28 : Int) (x29 : List (List Int)) (i30 : Int) (i31 : Int) (i32 : Int) (i33 : Int) (x34 : List (List Int)) (i35 : Int) (x36 : List Int) (x37 : List (Int × Int × Int × List Int)) (x38 : List Int) : Option ((Int × Int × Bool × Unit) × (Unit)) :=
  Go.Vm.runT cfg fin k [.inLoop (sub [1, 0, 1, 0, 0, 1, 1, 0, 0, 1, 1, 1, 1, 1, 0, 0, 1, 1, 0, 0, 1, 1, 0, 0] code), .inBlock 4, .inBlock 3, .code (sub [1, 0, 1, 0, 0, 1, 1, 0, 0, 1, 1, 1, 1, 1, 0, 0, 1, 1, 1] code), .inLoop (sub [1, 0, 1, 0, 0, 1, 1, 0, 0, 1, 1, 1, 1, 1, 0, 0] code), .inBlock 2, .inBlock 1, .code (sub [1, 0, 1, 0, 0, 1, 1, 1] code), .inLoop (sub [1, 0, 1, 0, 0] code), .inBlock 0, .code (sub [1, 1] code)]
    ⟨[.dead, .ref 4 (.root 0), .dead, .dead, .dead, .dead, .val false [⟨(.sl (.int .i64)), .sh, x25⟩], .val false [⟨(.int .i64), .sh, i26⟩], .view 32 (.root 0) 1 false, .val false [⟨(.int .i64), .sh, i27⟩], .val false [⟨(.int .i64), .sh, i28⟩], .dead, .dead, .dead, .dead, .val false [⟨(.sl (.sl (.int .i64))), .sh, x29⟩], .val false [⟨(.int .i64), .sh, i30⟩], .val false [⟨(.int .i64), .sh, i31⟩], .dead, .dead, .dead, .dead, .dead, .dead, .dead, .dead, .dead, .dead, .dead, .dead, .dead, .val false [⟨(.int .i64), .sh, i32⟩], .val false [⟨(.int .i64), .sh, i33⟩]] ++ deads 53, [(4, ⟨true, [⟨(.sl (.sl (.int .i64))), .sh, x34⟩, ⟨(.int .i64), .sh, i35⟩, ⟨(.sl (.int .i64)), .sh, x36⟩, ⟨(.sl TMatrix), .sh, x37⟩]⟩), (32, ⟨false, [⟨(.sl (.int .i64)), .deep, x38⟩]⟩)]⟩
theorem l2_eq (k : Nat) (x5 : List (List Int)) (i6 : Int) (i7 : Int) (x8 : List (List Int)) (i9 : Int) (x10 : List Int) (x11 : List (Int × Int × Int × List Int)) : l2 (k + 1) x5 i6 i7 x8 i9 x10 x11 =
  if (decide (i7 < i6)) = true then
    if 0 ≤ i7 ∧ i7 < (x5.length : Int) then
      if (decide (((x5.getD i7.toNat ([] : List Int)).length : Int) < (3 : Int))) = true then
        l2 k x5 i6 (IntKind.i64.wrap (i7 + (1 : Int))) x8 i9 x10 x11
      else
        (impl_faceIndices.F (x8, i7, ())).bind fun r12 =>
          l8 k (x5.getD i7.toNat ([] : List Int)) i7 x5 i6 i7 ((x5.getD i7.toNat ([] : List Int)).length : Int) (0 : Int) x8 i9 x10 x11 r12.1.1
    else
      none
  else
    some (((0 : Int), ((0 : Int), (false, ()))), ()) := by kernel_rfl
theorem l8_eq (k : Nat) (x13 : List Int) (i14 : Int) (x15 : List (List Int)) (i16 : Int) (i17 : Int) (i18 : Int) (i19 : Int) (x20 : List (List Int)) (i21 : Int) (x22 : List Int) (x23 : List (Int × Int × Int × List Int)) (x24 : List Int) : l8 (k + 1) x13 i14 x15 i16 i17 i18 i19 x20 i21 x22 x23 x24 =
  if (decide (i19 < i18)) = true then
    l11 k x13 i14 i19 (IntKind.i64.wrap (i19 + (1 : Int))) x15 i16 i17 i18 i19 x20 i21 x22 x23 x24
  else
    l2 k x15 i16 (IntKind.i64.wrap (i17 + (1 : Int))) x20 i21 x22 x23 := by kernel_rfl
theorem l11_eq (k : Nat) (x25 : List Int) (i26 : Int) (i27 : Int) (i28 : Int) (x29 : List (List Int)) (i30 : Int) (i31 : Int) (i32 : Int) (i33 : Int) (x34 : List (List Int)) (i35 : Int) (x36 : List Int) (x37 : List (Int × Int × Int × List Int)) (x38 : List Int) : l11 (k + 1) x25 i26 i27 i28 x29 i30 i31 i32 i33 x34 i35 x36 x37 x38 =
  if (decide (i28 < (x25.length : Int))) = true then
    (impl_direct.F ((x34, (i35, (x36, x37))), i26, i27, ())).bind fun r39 =>
      if 0 ≤ i27 ∧ i27 < (x38.length : Int) then
        (impl_direct.F ((x34, (i35, (x36, x37))), (x38.getD i27.toNat 0 : Int), IntKind.i64.wrap (i28 - (1 : Int)), ())).bind fun r40 =>
          (impl_product.F (r39.1.1, r40.1.1, ())).bind fun r41 =>
            (impl_direct.F ((x34, (i35, (x36, x37))), i26, i28, ())).bind fun r42 =>
              if 0 ≤ i28 ∧ i28 < (x38.length : Int) then
                (impl_direct.F ((x34, (i35, (x36, x37))), (x38.getD i28.toNat 0 : Int), i27, ())).bind fun r43 =>
                  (impl_product.F (r42.1.1, r43.1.1, ())).bind fun r44 =>
                    (impl_SameMatrix.F (r41.1.1, r44.1.1, ())).bind fun r45 =>
                      if (!(r45.1.1 : Bool)) = true then
                        if 0 ≤ i27 ∧ i27 < (x38.length : Int) then
                          (impl_faceIndices.F (x34, (x38.getD i27.toNat 0 : Int), ())).bind fun r46 =>
                            if 0 ≤ (IntKind.i64.wrap (i28 - (1 : Int))) ∧ (IntKind.i64.wrap (i28 - (1 : Int))) < (r46.1.1.length : Int) then
                              some ((i26, (r46.1.1.getD (IntKind.i64.wrap (i28 - (1 : Int))).toNat 0, (true, ()))), ())
                            else
                              none
                        else
                          none
                      else
                        l11 k x25 i26 i27 (IntKind.i64.wrap (i28 + (1 : Int))) x29 i30 i31 i32 i33 x34 i35 x36 x37 x38
              else
                none
      else
        none
  else
    l8 k x25 i26 x29 i30 i31 i32 (IntKind.i64.wrap (i33 + (1 : Int))) x34 i35 x36 x37 x38 := by kernel_rfl
noncomputable def T (k : Nat) (toArray_1 : List (List Int)) (toArray_2 : Int) (toArray_3 : List Int) (toArray_4 : List (Int × Int × Int × List Int)) : Option ((Int × Int × Bool × Unit) × (Unit)) :=
  l2 k toArray_1 (toArray_1.length : Int) (0 : Int) toArray_1 toArray_2 toArray_3 toArray_4
theorem of (toArray_1 : List (List Int)) (toArray_2 : Int) (toArray_3 : List Int) (toArray_4 : List (Int × Int × Int × List Int)) {r : (Int × Int × Bool × Unit) × (Unit)} (h : Ev (fun k => T k toArray_1 toArray_2 toArray_3 toArray_4) r) : F ((toArray_1, (toArray_2, (toArray_3, toArray_4))), ()) = some r := Ev.run (fun k => by kernel_rfl) h
theorem ok : CtxOK prog ctx := ⟨nilM, mixed_ok, tab_ok tab_good, consM ⟨impl_direct.S, consM ⟨impl_faceIndices.S, consM ⟨impl_product.S, consM ⟨impl_SameMatrix.S, nilM⟩⟩⟩⟩, nilM, nilM⟩
theorem S : Sound prog ⟨193, sig, F⟩ := sound_k (res := [.tmp 2, .tmp 3, .tmp 4]) func193 ok
end impl_wrongSquare
namespace impl_IsSheaf
noncomputable def sig : Sig := ⟨[.val true TSheaf], [(.val false, .bool, .deep)]⟩
noncomputable def ctx : Ctx := ⟨tabOf tabl, [⟨192, impl_ValidSheaf.sig, impl_ValidSheaf.F⟩, ⟨193, impl_wrongSquare.sig, impl_wrongSquare.F⟩], [], [], [], []⟩
noncomputable def cfg : Cfg := ⟨ctx, [], [], fun _ => ([], []), fun _ => []⟩
noncomputable def code : Code := (f103).body.getD .skip
noncomputable def fin := finK ctx sig [.tmp 2]
noncomputable def F (d : (List (List Int) × Int × List Int × List (Int × Int × Int × List Int)) × Unit) : Option ((Bool × Unit) × (Unit)) := anyK (runFn cfg fin code (initSt sig.ps d 17))
noncomputable def T (s_1 : List (List Int)) (s_2 : Int) (s_3 : List Int) (s_4 : List (Int × Int × Int × List Int)) : Option ((Bool × Unit) × (Unit)) :=
  (impl_ValidSheaf.F ((s_1, (s_2, (s_3, s_4))), ())).bind fun r5 =>
    if (!(r5.1.1 : Bool)) = true then
      some ((false, ()), ())
    else
      (impl_wrongSquare.F ((s_1, (s_2, (s_3, s_4))), ())).bind fun r6 =>
        some ((!(r6.1.2.2.1 : Bool), ()), ())
theorem eq (s_1 : List (List Int)) (s_2 : Int) (s_3 : List Int) (s_4 : List (Int × Int × Int × List Int)) : F ((s_1, (s_2, (s_3, s_4))), ()) = T s_1 s_2 s_3 s_4 := eq_any fun k => by kernel_rfl
theorem ok : CtxOK prog ctx := ⟨nilM, mixed_ok, tab_ok tab_good, consM ⟨impl_ValidSheaf.S, consM ⟨impl_wrongSquare.S, nilM⟩⟩, nilM, nilM⟩
theorem S : Sound prog ⟨103, sig, F⟩ := sound_k (res := [.tmp 2]) func103 ok
end impl_IsSheaf
namespace impl_verticesOf
noncomputable def sig : Sig := ⟨[.val true (.sl (.sl (.int .i64)))], [(.val false, (.sl (.int .i64)), .deep)]⟩
noncomputable def ctx : Ctx := ⟨tabOf tabl, [], [], [], [], []⟩
noncomputable def cfg : Cfg := ⟨ctx, [], [], fun id => match id with | 3 => ([3, 7, 8, 9], [12]) | _ => ([], []), fun _ => []⟩
noncomputable def code : Code := (f200).body.getD .skip
noncomputable def fin := finK ctx sig [.tmp 2]
noncomputable def F (d : List (List Int) × Unit) : Option ((List Int × Unit) × (Unit)) := anyK (runFn cfg fin code (initSt sig.ps d 24))
noncomputable def l3 (k : Nat) (x2 : List (List Int)) (i3 : Int) (i4 : Int) (x5 : List Int) : Option ((List Int × Unit) × (Unit)) :=
  Go.Vm.runT cfg fin k [.inLoop (sub [1, 1, 0, 1, 0, 0] code), .inBlock 0, .code (sub [1, 1, 1] code)]
    ⟨[.dead, .dead, .dead, .view 12 (.root 0) 1 false, .dead, .dead, .dead, .val false [⟨(.sl (.sl (.int .i64))), .sh, x2⟩], .val false [⟨(.int .i64), .sh, i3⟩], .val false [⟨(.int .i64), .sh, i4⟩]] ++ deads 14, [(12, ⟨false, [⟨(.sl (.int .i64)), .deep, x5⟩]⟩)]⟩
theorem l3_eq (k : Nat) (x2 : List (List Int)) (i3 : Int) (i4 : Int) (x5 : List Int) : l3 (k + 1) x2 i3 i4 x5 =
  if (decide (i4 < i3)) = true then
    if 0 ≤ i4 ∧ i4 < (x2.length : Int) then
      if (((x2.getD i4.toNat ([] : List Int)).length : Int) == (1 : Int)) = true then
        if 0 ≤ (0 : Int) ∧ (0 : Int) < ((x2.getD i4.toNat ([] : List Int)).length : Int) then
          if x5.length + ([(x2.getD i4.toNat ([] : List Int)).getD (0 : Int).toNat 0] : List Int).length ≤ bigA then
            l3 k x2 i3 (IntKind.i64.wrap (i4 + (1 : Int))) (x5 ++ ([(x2.getD i4.toNat ([] : List Int)).getD (0 : Int).toNat 0]))
          else
            none
        else
          none
      else
        l3 k x2 i3 (IntKind.i64.wrap (i4 + (1 : Int))) x5
    else
      none
  else
    some ((x5, ()), ()) := by kernel_rfl
noncomputable def T (k : Nat) (c_1 : List (List Int)) : Option ((List Int × Unit) × (Unit)) :=
  l3 k c_1 (c_1.length : Int) (0 : Int) ([])
theorem of (c_1 : List (List Int)) {r : (List Int × Unit) × (Unit)} (h : Ev (fun k => T k c_1) r) : F (c_1, ()) = some r := Ev.run (fun k => by kernel_rfl) h
theorem ok : CtxOK prog ctx := ⟨nilM, mixed_ok, tab_ok tab_good, nilM, nilM, nilM⟩
theorem S : Sound prog ⟨200, sig, F⟩ := sound_k (res := [.tmp 2]) func200 ok
end impl_verticesOf
namespace slices_Index_Lint64_int64
noncomputable def sig : Sig := ⟨[.val false (.sl (.int .i64)), .val false (.int .i64)], [(.val false, (.int .i64), .deep)]⟩
noncomputable def ctx : Ctx := ⟨tabOf tabl, [], [], [], [], []⟩
noncomputable def cfg : Cfg := ⟨ctx, [], [], fun id => match id with | 2 => ([0, 1, 7, 8], []) | _ => ([], []), fun _ => []⟩
noncomputable def code : Code := (f254).body.getD .skip
noncomputable def fin := finK ctx sig [.tmp 4]
noncomputable def F (d : List Int × Int × Unit) : Option ((Int × Unit) × (Unit)) := anyK (runFn cfg fin code (initSt sig.ps d 19))
noncomputable def l2 (k : Nat) (x3 : List Int) (i4 : Int) (i5 : Int) (i6 : Int) : Option ((Int × Unit) × (Unit)) :=
  Go.Vm.runT cfg fin k [.inLoop (sub [1, 0, 1, 0, 0] code), .inBlock 0, .code (sub [1, 1] code)]
    ⟨[.val false [⟨(.sl (.int .i64)), .sh, x3⟩], .val false [⟨(.int .i64), .sh, i4⟩], .dead, .dead, .dead, .dead, .dead, .val false [⟨(.int .i64), .sh, i5⟩], .val false [⟨(.int .i64), .sh, i6⟩]] ++ deads 10, []⟩
theorem l2_eq (k : Nat) (x3 : List Int) (i4 : Int) (i5 : Int) (i6 : Int) : l2 (k + 1) x3 i4 i5 i6 =
  if (decide (i6 < i5)) = true then
    if 0 ≤ i6 ∧ i6 < (x3.length : Int) then
      if (i4 == (x3.getD i6.toNat 0 : Int)) = true then
        some ((i6, ()), ())
      else
        l2 k x3 i4 i5 (IntKind.i64.wrap (i6 + (1 : Int)))
    else
      none
  else
    some (((-1 : Int), ()), ()) := by kernel_rfl
noncomputable def T (k : Nat) (s_1 : List Int) (v_2 : Int) : Option ((Int × Unit) × (Unit)) :=
  l2 k s_1 v_2 (s_1.length : Int) (0 : Int)
theorem of (s_1 : List Int) (v_2 : Int) {r : (Int × Unit) × (Unit)} (h : Ev (fun k => T k s_1 v_2) r) : F (s_1, v_2, ()) = some r := Ev.run (fun k => by kernel_rfl) h
theorem ok : CtxOK prog ctx := ⟨nilM, mixed_ok, tab_ok tab_good, nilM, nilM, nilM⟩
theorem S : Sound prog ⟨254, sig, F⟩ := sound_k (res := [.tmp 4]) func254 ok
end slices_Index_Lint64_int64
namespace slices_Sort_Lint64_int64
noncomputable def sig : Sig := sortIS
noncomputable def F (d : List Int × Unit) : Option ((Unit) × (List Int × Unit)) := sortIF d
def ren : Go.Shelf.Ren := ⟨fun | 53 => 255 | 59 => 301 | 63 => 287 | 64 => 288 | 68 => 314 | 70 => 295 | 71 => 296 | 72 => 297 | 73 => 298 | 74 => 299 | 75 => 300 | 76 => 302 | 77 => 303 | 78 => 304 | 79 => 305 | 88 => 316 | 89 => 317 | 90 => 318 | 91 => 319 | 92 => 320 | 96 => 324 | n => n, fun | 0 => 0 | 3 => 3 | 4 => 4 | 5 => 5 | 9 => 9 | 22 => 25 | 23 => 2 | 44 => 193 | 51 => 235 | 60 => 246 | 61 => 247 | 67 => 253 | 69 => 255 | 75 => 262 | 79 => 266 | 83 => 270 | 84 => 271 | n => n, fun n => n⟩
theorem lays : Go.Proofs.SlLaysN.n53 prog ren where
  mixed := by kernel_rfl
  f53 := ⟨"slices.Sort[[]int64,int64]", by decide, func255.trans (congrArg some (by kernel_rfl))⟩
  f59 := ⟨"cmp.Less[int64]", by decide, func301.trans (congrArg some (by kernel_rfl))⟩
  f63 := ⟨"slices.pdqsortOrdered[int64]", by decide, func287.trans (congrArg some (by kernel_rfl))⟩
  f64 := func288.trans (congrArg some (by kernel_rfl))
  f68 := ⟨"cmp.isNaN[int64]", by decide, func314.trans (congrArg some (by kernel_rfl))⟩
  f70 := ⟨"slices.insertionSortOrdered[int64]", by decide, func295.trans (congrArg some (by kernel_rfl))⟩
  f71 := ⟨"slices.heapSortOrdered[int64]", by decide, func296.trans (congrArg some (by kernel_rfl))⟩
  f72 := ⟨"slices.breakPatternsOrdered[int64]", by decide, func297.trans (congrArg some (by kernel_rfl))⟩
  f73 := ⟨"slices.choosePivotOrdered[int64]", by decide, func298.trans (congrArg some (by kernel_rfl))⟩
  f74 := ⟨"slices.reverseRangeOrdered[int64]", by decide, func299.trans (congrArg some (by kernel_rfl))⟩
  f75 := ⟨"slices.partialInsertionSortOrdered[int64]", by decide, func300.trans (congrArg some (by kernel_rfl))⟩
  f76 := ⟨"slices.partitionEqualOrdered[int64]", by decide, func302.trans (congrArg some (by kernel_rfl))⟩
  f77 := ⟨"slices.partitionOrdered[int64]", by decide, func303.trans (congrArg some (by kernel_rfl))⟩
  f78 := func304.trans (congrArg some (by kernel_rfl))
  f79 := func305.trans (congrArg some (by kernel_rfl))
  f88 := ⟨"slices.siftDownOrdered[int64]", by decide, func316.trans (congrArg some (by kernel_rfl))⟩
  f89 := func317.trans (congrArg some (by kernel_rfl))
  f90 := func318.trans (congrArg some (by kernel_rfl))
  f91 := ⟨"slices.medianAdjacentOrdered[int64]", by decide, func319.trans (congrArg some (by kernel_rfl))⟩
  f92 := ⟨"slices.medianOrdered[int64]", by decide, func320.trans (congrArg some (by kernel_rfl))⟩
  f96 := ⟨"slices.order2Ordered[int64]", by decide, func324.trans (congrArg some (by kernel_rfl))⟩
  t0 := underlying0
  a0 := isAgg0
  z0 := sizeOf0
  v0 := zeroValue0
  t3 := underlying3
  a3 := isAgg3
  z3 := sizeOf3
  v3 := zeroValue3
  t4 := underlying4
  a4 := isAgg4
  z4 := sizeOf4
  v4 := zeroValue4
  t5 := underlying5
  a5 := isAgg5
  z5 := sizeOf5
  v5 := zeroValue5
  t9 := underlying9
  a9 := isAgg9
  z9 := sizeOf9
  v9 := zeroValue9
  t22 := underlying25
  a22 := isAgg25
  z22 := sizeOf25
  v22 := zeroValue25
  t23 := underlying2
  a23 := isAgg2
  z23 := sizeOf2
  v23 := zeroValue2
  t44 := underlying193
  a44 := isAgg193
  z44 := sizeOf193
  v44 := zeroValue193
  t51 := underlying235
  a51 := isAgg235
  z51 := sizeOf235
  v51 := zeroValue235
  t60 := underlying246
  a60 := isAgg246
  z60 := sizeOf246
  v60 := zeroValue246
  t61 := underlying247
  a61 := isAgg247
  z61 := sizeOf247
  v61 := zeroValue247
  t67 := underlying253
  a67 := isAgg253
  z67 := sizeOf253
  v67 := zeroValue253
  t69 := underlying255
  a69 := isAgg255
  z69 := sizeOf255
  v69 := zeroValue255
  t75 := underlying262
  a75 := isAgg262
  z75 := sizeOf262
  v75 := zeroValue262
  t79 := underlying266
  a79 := isAgg266
  z79 := sizeOf266
  v79 := zeroValue266
  t83 := underlying270
  a83 := isAgg270
  z83 := sizeOf270
  v83 := zeroValue270
  t84 := underlying271
  a84 := isAgg271
  z84 := sizeOf271
  v84 := zeroValue271
set_option maxRecDepth 100000 in
theorem S : Sound prog ⟨255, sig, F⟩ := sortI_sound lays
end slices_Sort_Lint64_int64
namespace slices_Compact_Lint64_int64
noncomputable def sig : Sig := compIS
noncomputable def F (d : List Int × Unit) : Option ((List Int × Unit) × (Unit)) := compIF d
def ren : Go.Shelf.Ren := ⟨fun | 43 => 256 | n => n, fun | 0 => 0 | 3 => 3 | 4 => 4 | 22 => 25 | 23 => 2 | n => n, fun n => n⟩
theorem lays : Go.Proofs.SlLaysN.n43 prog ren where
  mixed := by kernel_rfl
  f43 := ⟨"slices.Compact[[]int64,int64]", by decide, func256.trans (congrArg some (by kernel_rfl))⟩
  t0 := underlying0
  a0 := isAgg0
  z0 := sizeOf0
  v0 := zeroValue0
  t3 := underlying3
  a3 := isAgg3
  z3 := sizeOf3
  v3 := zeroValue3
  t4 := underlying4
  a4 := isAgg4
  z4 := sizeOf4
  v4 := zeroValue4
  t22 := underlying25
  a22 := isAgg25
  z22 := sizeOf25
  v22 := zeroValue25
  t23 := underlying2
  a23 := isAgg2
  z23 := sizeOf2
  v23 := zeroValue2
  i23 := by kernel_rfl
set_option maxRecDepth 100000 in
theorem S : Sound prog ⟨256, sig, F⟩ := compI_sound lays
end slices_Compact_Lint64_int64
namespace impl_imageOf
noncomputable def sig : Sig := ⟨[.val true (.sl (.sl (.int .i64))), .val false (.sl (.int .i64)), .val false (.sl (.int .i64))], [(.val false, (.sl (.int .i64)), .deep)]⟩
noncomputable def ctx : Ctx := ⟨tabOf tabl, [⟨200, impl_verticesOf.sig, impl_verticesOf.F⟩, ⟨254, slices_Index_Lint64_int64.sig, slices_Index_Lint64_int64.F⟩, ⟨255, slices_Sort_Lint64_int64.sig, slices_Sort_Lint64_int64.F⟩, ⟨256, slices_Compact_Lint64_int64.sig, slices_Compact_Lint64_int64.F⟩], [], [], [], []⟩
noncomputable def cfg : Cfg := ⟨ctx, [], [], fun id => match id with | 4 => ([1, 7, 8, 13, 14, 15], [28, 32]) | _ => ([], []), fun _ => []⟩
noncomputable def code : Code := (f187).body.getD .skip
noncomputable def fin := finK ctx sig [.tmp 6]
noncomputable def F (d : List (List Int) × List Int × List Int × Unit) : Option ((List Int × Unit) × (Unit)) := anyK (runFn cfg fin code (initSt sig.ps d 33))
noncomputable def l4 (k : Nat) (x5 : List Int) (x6 : List Int) (i7 : Int) (i8 : Int) (x9 : List Int) (x10 : List Int) : Option ((List Int × Unit) × (Unit)) :=
  Go.Vm.runT cfg fin k [.inLoop (sub [1, 1, 1, 0, 1, 0, 0] code), .inBlock 0, .code (sub [1, 1, 1, 1] code)]
    ⟨[.dead, .val false [⟨(.sl (.int .i64)), .sh, x5⟩], .dead, .dead, .dead, .dead, .dead, .view 28 (.root 0) 1 false, .view 32 (.root 0) 1 false, .dead, .dead, .dead, .dead, .val false [⟨(.sl (.int .i64)), .sh, x6⟩], .val false [⟨(.int .i64), .sh, i7⟩], .val false [⟨(.int .i64), .sh, i8⟩]] ++ deads 17, [(28, ⟨false, [⟨(.sl (.int .i64)), .deep, x9⟩]⟩), (32, ⟨false, [⟨(.sl (.int .i64)), .deep, x10⟩]⟩)]⟩
theorem l4_eq (k : Nat) (x5 : List Int) (x6 : List Int) (i7 : Int) (i8 : Int) (x9 : List Int) (x10 : List Int) : l4 (k + 1) x5 x6 i7 i8 x9 x10 =
  if (decide (i8 < i7)) = true then
    if 0 ≤ i8 ∧ i8 < (x6.length : Int) then
      (slices_Index_Lint64_int64.F (x9, (x6.getD i8.toNat 0 : Int), ())).bind fun r11 =>
        if 0 ≤ (r11.1.1 : Int) ∧ (r11.1.1 : Int) < (x5.length : Int) then
          if x10.length + ([x5.getD (r11.1.1 : Int).toNat 0] : List Int).length ≤ bigA then
            l4 k x5 x6 i7 (IntKind.i64.wrap (i8 + (1 : Int))) x9 (x10 ++ ([x5.getD (r11.1.1 : Int).toNat 0]))
          else
            none
        else
          none
    else
      none
  else
    (slices_Sort_Lint64_int64.F (x10, ())).bind fun r12 =>
      (slices_Compact_Lint64_int64.F (r12.2.1, ())).bind fun r13 =>
        some ((r13.1.1, ()), ()) := by kernel_rfl
noncomputable def T (k : Nat) (a_1 : List (List Int)) (images_2 : List Int) (s_3 : List Int) : Option ((List Int × Unit) × (Unit)) :=
  (impl_verticesOf.F (a_1, ())).bind fun r4 =>
    l4 k images_2 s_3 (s_3.length : Int) (0 : Int) r4.1.1 ([])
theorem of (a_1 : List (List Int)) (images_2 : List Int) (s_3 : List Int) {r : (List Int × Unit) × (Unit)} (h : Ev (fun k => T k a_1 images_2 s_3) r) : F (a_1, images_2, s_3, ()) = some r := Ev.run (fun k => by kernel_rfl) h
theorem ok : CtxOK prog ctx := ⟨nilM, mixed_ok, tab_ok tab_good, consM ⟨impl_verticesOf.S, consM ⟨slices_Index_Lint64_int64.S, consM ⟨slices_Sort_Lint64_int64.S, consM ⟨slices_Compact_Lint64_int64.S, nilM⟩⟩⟩⟩, nilM, nilM⟩
theorem S : Sound prog ⟨187, sig, F⟩ := sound_k (res := [.tmp 6]) func187 ok
end impl_imageOf
namespace impl_isMap_1
noncomputable def sig : Sig := ⟨[.val false (.sl (.int .i64)), .rptr (.sl (.sl (.int .i64))), .rptr (.sl (.sl (.int .i64))), .rptr (.sl (.int .i64))], [(.val false, .bool, .deep)]⟩
noncomputable def ctx : Ctx := ⟨tabOf tabl, [⟨107, impl_indexOf.sig, impl_indexOf.F⟩, ⟨187, impl_imageOf.sig, impl_imageOf.F⟩], [], [], [], []⟩
noncomputable def cfg : Cfg := ⟨ctx, [], [], fun _ => ([], []), fun _ => []⟩
noncomputable def code : Code := (f201).body.getD .skip
noncomputable def fin := finK ctx sig [.tmp 5]
noncomputable def F (d : List Int × List (List Int) × List (List Int) × List Int × Unit) : Option ((Bool × Unit) × (Unit)) := anyK (runFn cfg fin code (initSt sig.ps d 13))
noncomputable def T (s_1 : List Int) (a_2 : List (List Int)) (a_3 : List (List Int)) (a_4 : List Int) : Option ((Bool × Unit) × (Unit)) :=
  (impl_imageOf.F (a_3, a_4, s_1, ())).bind fun r5 =>
    (impl_indexOf.F (a_2, r5.1.1, ())).bind fun r6 =>
      some ((decide ((r6.1.1 : Int) < (0 : Int)), ()), ())
theorem eq (s_1 : List Int) (a_2 : List (List Int)) (a_3 : List (List Int)) (a_4 : List Int) : F (s_1, a_2, a_3, a_4, ()) = T s_1 a_2 a_3 a_4 := eq_any fun k => by kernel_rfl
theorem ok : CtxOK prog ctx := ⟨nilM, mixed_ok, tab_ok tab_good, consM ⟨impl_indexOf.S, consM ⟨impl_imageOf.S, nilM⟩⟩, nilM, nilM⟩
theorem S : Sound prog ⟨201, sig, F⟩ := sound_k (res := [.tmp 5]) func201 ok
noncomputable def cloG (y : List (List Int) × List (List Int) × List Int × Unit) (d : List Int × Unit) : Option (Bool × Unit) := (F (joinIns [.rptr (.sl (.sl (.int .i64))), .rptr (.sl (.sl (.int .i64))), .rptr (.sl (.int .i64))] [(false, (.sl (.int .i64)))] d y)).map (·.1)
noncomputable def clo : Clo := ⟨201, ⟨[(false, (.sl (.int .i64)))], [(.val false, .bool, .deep)]⟩, [.rptr (.sl (.sl (.int .i64))), .rptr (.sl (.sl (.int .i64))), .rptr (.sl (.int .i64))], cloG⟩
theorem cloS : SoundClo prog clo := sound_clo (s := ⟨[(false, (.sl (.int .i64)))], [(.val false, .bool, .deep)]⟩) (caps := [.rptr (.sl (.sl (.int .i64))), .rptr (.sl (.sl (.int .i64))), .rptr (.sl (.int .i64))]) rfl S
end impl_isMap_1
namespace impl_isMap
noncomputable def sig : Sig := ⟨[.val true (.sl (.sl (.int .i64))), .val true (.sl (.sl (.int .i64))), .val false (.sl (.int .i64))], [(.val false, .bool, .deep)]⟩
noncomputable def ctx : Ctx := ⟨tabOf tabl, [⟨196, slices_ContainsFunc_LLint64_Lint64.sig, slices_ContainsFunc_LLint64_Lint64.F⟩, ⟨200, impl_verticesOf.sig, impl_verticesOf.F⟩], [impl_isMap_1.clo], [], [], []⟩
noncomputable def cfg : Cfg := ⟨ctx, [], [], fun _ => ([], []), fun _ => []⟩
noncomputable def code : Code := (f106).body.getD .skip
noncomputable def fin := finK ctx sig [.tmp 6]
noncomputable def F (d : List (List Int) × List (List Int) × List Int × Unit) : Option ((Bool × Unit) × (Unit)) := anyK (runFn cfg fin code (initSt sig.ps d 18))
noncomputable def T (a_1 : List (List Int)) (b_2 : List (List Int)) (images_3 : List Int) : Option ((Bool × Unit) × (Unit)) :=
  (impl_verticesOf.F (a_1, ())).bind fun r4 =>
    if ((images_3.length : Int) != (r4.1.1.length : Int)) = true then
      some ((false, ()), ())
    else
      (slices_ContainsFunc_LLint64_Lint64.F (a_1, impl_isMap_1.cloG (b_2, a_1, images_3, ()), ())).bind fun r5 =>
        some ((!(r5.1.1 : Bool), ()), ())
theorem eq (a_1 : List (List Int)) (b_2 : List (List Int)) (images_3 : List Int) : F (a_1, b_2, images_3, ()) = T a_1 b_2 images_3 := eq_any fun k => by kernel_rfl
theorem ok : CtxOK prog ctx := ⟨nilM, mixed_ok, tab_ok tab_good, consM ⟨slices_ContainsFunc_LLint64_Lint64.S, consM ⟨impl_verticesOf.S, nilM⟩⟩, consM ⟨impl_isMap_1.cloS, nilM⟩, nilM⟩
theorem S : Sound prog ⟨106, sig, F⟩ := sound_k (res := [.tmp 6]) func106 ok
end impl_isMap
namespace impl_copyLists
noncomputable def sig : Sig := ⟨[.val false (.sl (.sl (.int .i64)))], [(.val false, (.sl (.sl (.int .i64))), .deep)]⟩
noncomputable def ctx : Ctx := ⟨tabOf tabl, [⟨157, slices_Clone_Lint64_int64.sig, slices_Clone_Lint64_int64.F⟩], [], [], [], []⟩
noncomputable def cfg : Cfg := ⟨ctx, [], [], fun id => match id with | 3 => ([3, 6, 7, 8], [12]) | _ => ([], []), fun _ => []⟩
noncomputable def code : Code := (f156).body.getD .skip
noncomputable def fin := finK ctx sig [.tmp 2]
noncomputable def F (d : List (List Int) × Unit) : Option ((List (List Int) × Unit) × (Unit)) := anyK (runFn cfg fin code (initSt sig.ps d 19))
noncomputable def l3 (k : Nat) (x2 : List (List Int)) (i3 : Int) (i4 : Int) (x5 : List (List Int)) : Option ((List (List Int) × Unit) × (Unit)) :=
  Go.Vm.runT cfg fin k [.inLoop (sub [1, 1, 0, 1, 0, 0] code), .inBlock 0, .code (sub [1, 1, 1] code)]
    ⟨[.dead, .dead, .dead, .view 12 (.root 0) 1 false, .dead, .dead, .val false [⟨(.sl (.sl (.int .i64))), .sh, x2⟩], .val false [⟨(.int .i64), .sh, i3⟩], .val false [⟨(.int .i64), .sh, i4⟩]] ++ deads 10, [(12, ⟨false, [⟨(.sl (.sl (.int .i64))), .deep, x5⟩]⟩)]⟩
theorem l3_eq (k : Nat) (x2 : List (List Int)) (i3 : Int) (i4 : Int) (x5 : List (List Int)) : l3 (k + 1) x2 i3 i4 x5 =
  if (decide (i4 < i3)) = true then
    if 0 ≤ i4 ∧ i4 < (x2.length : Int) then
      (slices_Clone_Lint64_int64.F (x2.getD i4.toNat ([] : List Int), ())).bind fun r6 =>
        if x5.length + ([r6.1.1] : List (List Int)).length ≤ bigA then
          l3 k x2 i3 (IntKind.i64.wrap (i4 + (1 : Int))) (x5 ++ ([r6.1.1]))
        else
          none
    else
      none
  else
    some ((x5, ()), ()) := by kernel_rfl
noncomputable def T (k : Nat) (lists_1 : List (List Int)) : Option ((List (List Int) × Unit) × (Unit)) :=
  l3 k lists_1 (lists_1.length : Int) (0 : Int) ([])
theorem of (lists_1 : List (List Int)) {r : (List (List Int) × Unit) × (Unit)} (h : Ev (fun k => T k lists_1) r) : F (lists_1, ()) = some r := Ev.run (fun k => by kernel_rfl) h
theorem ok : CtxOK prog ctx := ⟨nilM, mixed_ok, tab_ok tab_good, consM ⟨slices_Clone_Lint64_int64.S, nilM⟩, nilM, nilM⟩
theorem S : Sound prog ⟨156, sig, F⟩ := sound_k (res := [.tmp 2]) func156 ok
end impl_copyLists
namespace slices_SortFunc_LLint64_Lint64
noncomputable def sig : Sig := sortS
noncomputable def F (d : List (List Int) × ((List Int × List Int × Unit) → Option (Int × Unit)) × Unit) : Option ((Unit) × (List (List Int) × Unit)) := sortF ordS d
def ren : Go.Shelf.Ren := ⟨fun | 6 => 257 | 14 => 289 | 15 => 288 | 20 => 306 | 21 => 307 | 22 => 308 | 23 => 309 | 24 => 310 | 25 => 311 | 26 => 312 | 27 => 313 | 28 => 304 | 29 => 305 | 46 => 321 | 47 => 317 | 48 => 318 | 49 => 322 | 50 => 323 | 57 => 325 | n => n, fun | 0 => 0 | 3 => 3 | 4 => 4 | 5 => 5 | 9 => 9 | 22 => 22 | 24 => 25 | 25 => 189 | 39 => 235 | 45 => 246 | 46 => 247 | 50 => 193 | 53 => 253 | 55 => 255 | 66 => 262 | 70 => 266 | 76 => 270 | 77 => 271 | n => n, fun n => n⟩
theorem lays : Go.Proofs.SlLaysF.n6 prog ren where
  mixed := by kernel_rfl
  f6 := ⟨"slices.SortFunc[[][]int64,[]int64]", by decide, func257.trans (congrArg some (by kernel_rfl))⟩
  f14 := ⟨"slices.pdqsortCmpFunc[[]int64]", by decide, func289.trans (congrArg some (by kernel_rfl))⟩
  f15 := func288.trans (congrArg some (by kernel_rfl))
  f20 := ⟨"slices.insertionSortCmpFunc[[]int64]", by decide, func306.trans (congrArg some (by kernel_rfl))⟩
  f21 := ⟨"slices.heapSortCmpFunc[[]int64]", by decide, func307.trans (congrArg some (by kernel_rfl))⟩
  f22 := ⟨"slices.breakPatternsCmpFunc[[]int64]", by decide, func308.trans (congrArg some (by kernel_rfl))⟩
  f23 := ⟨"slices.choosePivotCmpFunc[[]int64]", by decide, func309.trans (congrArg some (by kernel_rfl))⟩
  f24 := ⟨"slices.reverseRangeCmpFunc[[]int64]", by decide, func310.trans (congrArg some (by kernel_rfl))⟩
  f25 := ⟨"slices.partialInsertionSortCmpFunc[[]int64]", by decide, func311.trans (congrArg some (by kernel_rfl))⟩
  f26 := ⟨"slices.partitionEqualCmpFunc[[]int64]", by decide, func312.trans (congrArg some (by kernel_rfl))⟩
  f27 := ⟨"slices.partitionCmpFunc[[]int64]", by decide, func313.trans (congrArg some (by kernel_rfl))⟩
  f28 := func304.trans (congrArg some (by kernel_rfl))
  f29 := func305.trans (congrArg some (by kernel_rfl))
  f46 := ⟨"slices.siftDownCmpFunc[[]int64]", by decide, func321.trans (congrArg some (by kernel_rfl))⟩
  f47 := func317.trans (congrArg some (by kernel_rfl))
  f48 := func318.trans (congrArg some (by kernel_rfl))
  f49 := ⟨"slices.medianAdjacentCmpFunc[[]int64]", by decide, func322.trans (congrArg some (by kernel_rfl))⟩
  f50 := ⟨"slices.medianCmpFunc[[]int64]", by decide, func323.trans (congrArg some (by kernel_rfl))⟩
  f57 := ⟨"slices.order2CmpFunc[[]int64]", by decide, func325.trans (congrArg some (by kernel_rfl))⟩
  t0 := underlying0
  a0 := isAgg0
  z0 := sizeOf0
  v0 := zeroValue0
  t3 := underlying3
  a3 := isAgg3
  z3 := sizeOf3
  v3 := zeroValue3
  t4 := underlying4
  a4 := isAgg4
  z4 := sizeOf4
  v4 := zeroValue4
  t5 := underlying5
  a5 := isAgg5
  z5 := sizeOf5
  v5 := zeroValue5
  t9 := underlying9
  a9 := isAgg9
  z9 := sizeOf9
  v9 := zeroValue9
  t22 := underlying22
  a22 := isAgg22
  z22 := sizeOf22
  v22 := zeroValue22
  a24 := isAgg25
  z24 := sizeOf25
  t25 := underlying189
  a25 := isAgg189
  z25 := sizeOf189
  v25 := zeroValue189
  t39 := underlying235
  a39 := isAgg235
  z39 := sizeOf235
  v39 := zeroValue235
  t45 := underlying246
  a45 := isAgg246
  z45 := sizeOf246
  v45 := zeroValue246
  t46 := underlying247
  a46 := isAgg247
  z46 := sizeOf247
  v46 := zeroValue247
  t50 := underlying193
  a50 := isAgg193
  z50 := sizeOf193
  v50 := zeroValue193
  t53 := underlying253
  a53 := isAgg253
  z53 := sizeOf253
  v53 := zeroValue253
  t55 := underlying255
  a55 := isAgg255
  z55 := sizeOf255
  v55 := zeroValue255
  t66 := underlying262
  a66 := isAgg262
  z66 := sizeOf262
  v66 := zeroValue262
  t70 := underlying266
  a70 := isAgg266
  z70 := sizeOf266
  v70 := zeroValue266
  t76 := underlying270
  a76 := isAgg270
  z76 := sizeOf270
  v76 := zeroValue270
  t77 := underlying271
  a77 := isAgg271
  z77 := sizeOf271
  v77 := zeroValue271
theorem S : Sound prog ⟨257, sig, F⟩ := sort_sound lays ordS_swo ordS_tot
end slices_SortFunc_LLint64_Lint64
namespace slices_CompactFunc_LLint64_Lint64
noncomputable def sig : Sig := compS
noncomputable def F (d : List (List Int) × ((List Int × List Int × Unit) → Option (Bool × Unit)) × Unit) : Option ((List (List Int) × Unit) × (Unit)) := compF d
theorem emp (p : Option Addr) (cap : Nat) (fv : Value) (w : World) : Calls prog 258 #[.slice p 0 cap, fv] w fun e w' => e = .returned (.slice p 0 cap) ∧ w' = w := by
  go_enter func258, ntmps258
  go_wp2
  go_ret
  exact ⟨rfl, rfl⟩
open Go.Proofs Go.Shelf Go.RowKit Go.Lib Go.Sort in
set_option maxHeartbeats 16000000 in
set_option maxRecDepth 1000000 in
theorem walk {α : Type} [Inhabited α] (enc : α → Value) (hO : OneCell enc) (eq : α → α → Bool) (zr : α) (hz : enc zr = .slice none 0 0) (g : Nat) (cb : Array Value) (eg : ∀ args w, (callFunc g args).run prog w = .ok (.enter g args) w)
    (blk off cap : Nat) (d : Array α) (w : World) (hcmp : EqLays1 prog g cb enc eq blk off d.size w) (hH : Holds enc w blk off d) (hblk : blk < w.heap.size) (hsz : d.size < 4611686018427387904) (hcap : d.size ≤ cap) (kp : Nat → Bool) (hkp0 : kp 0 = true) (hkp : ∀ j, 0 < j → kp j = !(eq d[j]! d[j - 1]!)) :
    Calls prog 258 #[.slice (some ⟨blk, off, none⟩) d.size cap, .func (.func g) #[] cb] w fun e w' => e = .returned (.slice (some ⟨blk, off, none⟩) (keptUpTo kp d d.size).length cap) ∧ SW enc w blk off (keptUpTo kp d d.size ++ List.replicate (d.size - (keptUpTo kp d d.size).length) zr).toArray w' := by
  have mixed : prog.follows .mixedOrders = true := mixed_ok
  have hcl0 := hO.cells
  simp only [Value.cells] at hcl0
  have hst := hO.store prog
  have R : Row1 enc w blk off d := ⟨hO, hH, hblk⟩
  have HC : Aside (EqLays1 prog g cb enc eq blk off d.size w) := hcmp
  have S0 : Aside (SW enc w blk off d w) := SW.start hH
  have same : ∀ W, SW enc w blk off d W → (∀ j, j < d.size → kp j = true) → (keptUpTo kp d d.size).length = d.size ∧ SW enc w blk off (keptUpTo kp d d.size ++ List.replicate (d.size - (keptUpTo kp d d.size).length) zr).toArray W := by
    intro W hW hall
    have e : keptUpTo kp d d.size = d.toList := by rw [keptUpTo_all kp d _ hall, range_map_get]
    rw [e]
    refine ⟨by simp, ?_⟩
    simpa using hW
  have HS : Aside _ := same
  have K0 : Aside (kp 0 = true) := hkp0
  have K1 : Aside (∀ j, 0 < j → kp j = !(eq d[j]! d[j - 1]!)) := hkp
  clear hcmp same hkp0 hkp hH
  by_cases h2 : d.size < 2
  · go_enter func258, ntmps258
    go_wp2
    go_ret
    obtain ⟨e1, e2⟩ := HS.out _ S0.out (fun j hj => by
      have : j = 0 := by omega
      rw [this]; exact K0.out)
    exact ⟨by rw [e1]; rfl, e2⟩
  · go_enter func258, ntmps258
    go_wp2
    go_loopg [5] d.size (fun g1 s5 wr => ∃ k : Nat, s5 = .int .i64 k ∧ 1 ≤ k ∧ k ≤ d.size ∧ d.size - k ≤ g1 ∧ Aside (SW enc w blk off d wr) ∧ Hid (∀ j, j < k → kp j = true))
    case atStart => exact ⟨1, rfl, Nat.le_refl _, by omega, by omega, S0, fun j hj => by
      have : j = 0 := by omega
      rw [this]; exact K0.out⟩
    case round =>
      clear S0
      obtain ⟨k, rfl, hk1, hk, hg1, S1, HA⟩ := hrel
      by_cases hlt : k < d.size
      · have hltz : (k : Int) < (d.size : Int) := by omega
        obtain ⟨kq, hkq⟩ : ∃ q, q + 1 = k := ⟨k - 1, by omega⟩
        have zk : (k : Int) = (kq : Int) + 1 := by omega
        obtain ⟨iN, hiN⟩ : ∃ q, q = k := ⟨_, rfl⟩
        obtain ⟨jN, hjN⟩ : ∃ q, q = k - 1 := ⟨_, rfl⟩
        have ea : ((kq : Int) + 1).toNat = iN := by omega
        have pa : (0 : Int) ≤ (kq : Int) + 1 := by omega
        have ba : (kq : Int) + 1 < (d.size : Int) := by omega
        have ra : IntKind.i64.wrap ((kq : Int) + 1) = (kq : Int) + 1 := by rw [IntKind.wrap_i64]; omega
        have ec : ((kq : Int)).toNat = jN := by omega
        have pc : (0 : Int) ≤ (kq : Int) := by omega
        have bc : (kq : Int) < (d.size : Int) := by omega
        have rc : IntKind.i64.wrap ((kq : Int)) = (kq : Int) := by rw [IntKind.wrap_i64]; omega
        obtain ⟨x, hx⟩ : ∃ x, x = d[k]! := ⟨_, rfl⟩
        obtain ⟨y, hy⟩ : ∃ x, x = d[k - 1]! := ⟨_, rfl⟩
        have la := S1.out.cl R rfl k (by omega)
        have lb := S1.out.cl R rfl (k - 1) (by omega)
        rw [← hx, ← hiN] at la
        rw [← hy, ← hjN] at lb
        have hc := sw_eql S1.out HC.out rfl x y
        have KK : Aside (kp k = !(eq x y)) := by rw [hx, hy]; exact K1.out k (by omega)
        clear hx hy hiN hjN
        cases hv : eq x y with
        | true =>
          rw [hv] at hc KK
          go_wp2_with fail
          go_quiet_grown (first | (go_at_fn g; refine Calls.grown_of (hc _ _)))
          have S2 : Aside (SW enc w blk off d (grow (wr.drewN nq) osq)) := S1.out.grown nq osq
          clear la lb hc S1
          generalize grow (wr.drewN nq) osq = w2 at S2 ⊢
          clear nq osq
          clear ea ec pa ba ra pc bc rc
          have hzk : (kq : Int) + 1 = (k : Int) := by omega
          clear zk hkq
          simp only [hzk]
          clear hzk
          go_wp2
          go_loopg [5, 7] d.size (fun g2 s5 s7 wr2 => ∃ (kk k2 : Nat) (dk : Array α), s5 = .int .i64 kk ∧ s7 = .int .i64 k2 ∧ 1 ≤ k2 ∧ k + k2 ≤ d.size ∧ d.size - (k + k2) ≤ g2 ∧ Aside (SW enc w blk off dk wr2) ∧ Aside (KeptInv kp d (k + k2) kk dk))
          case atStart => exact ⟨k, 1, d, rfl, rfl, Nat.le_refl _, by omega, by omega, S2, KeptInv.start HA.out (by rw [KK.out]; rfl)⟩
          case round =>
            clear S2 KK HA
            obtain ⟨kk, k2, dk, rfl, rfl, h1, hle, hg2, S3, I2⟩ := hrel
            have hkk := I2.out.lt
            have hds := I2.out.size
            by_cases hlt2 : k + k2 < d.size
            · obtain ⟨kq, hkq⟩ : ∃ q, q + 1 = k2 := ⟨k2 - 1, by omega⟩
              have zk : (k2 : Int) = (kq : Int) + 1 := by omega
              obtain ⟨iN, hiN⟩ : ∃ q, q = k2 := ⟨_, rfl⟩
              obtain ⟨jN, hjN⟩ : ∃ q, q = k2 - 1 := ⟨_, rfl⟩
              have ea : ((kq : Int) + 1).toNat = iN := by omega
              have pa : (0 : Int) ≤ (kq : Int) + 1 := by omega
              have ba : (kq : Int) + 1 < ((d.size - k : Nat) : Int) := by omega
              have ra : IntKind.i64.wrap ((kq : Int) + 1) = (kq : Int) + 1 := by rw [IntKind.wrap_i64]; omega
              have ec : ((kq : Int)).toNat = jN := by omega
              have pc : (0 : Int) ≤ (kq : Int) := by omega
              have bc : (kq : Int) < ((d.size - k : Nat) : Int) := by omega
              have rc : IntKind.i64.wrap ((kq : Int)) = (kq : Int) := by rw [IntKind.wrap_i64]; omega
              obtain ⟨x, hx⟩ : ∃ x, x = d[k + k2]! := ⟨_, rfl⟩
              obtain ⟨y, hy⟩ : ∃ x, x = d[k + k2 - 1]! := ⟨_, rfl⟩
              have la := S3.out.cl R hds (k + k2) (by omega)
              have lb := S3.out.cl R hds (k + k2 - 1) (by omega)
              rw [I2.out.high (k + k2) (by omega), ← hx, show off + (k + k2) = off + k + iN by omega] at la
              rw [I2.out.high (k + k2 - 1) (by omega), ← hy, show off + (k + k2 - 1) = off + k + jN by omega] at lb
              have hc := sw_eql S3.out HC.out hds x y
              have KK : Aside (kp (k + k2) = !(eq x y)) := by rw [hx, hy]; exact K1.out (k + k2) (by omega)
              have XX : Aside (x = d[k + k2]!) := hx
              clear hx hy hiN hjN
              cases hv : eq x y with
              | true =>
                rw [hv] at hc KK
                go_wp2_with fail
                go_quiet_grown (first | (go_at_fn g; refine Calls.grown_of (hc _ _)))
                have S2 : Aside (SW enc w blk off dk (grow (wr.drewN nq) osq)) := S3.out.grown nq osq
                clear la lb hc S3
                generalize grow (wr.drewN nq) osq = w2 at S2 ⊢
                clear nq osq
                clear ea ec
                go_wp2
                go_roundg (d.size - (k + (k2 + 1)))
                case measure => omega
                case rel => exact ⟨kk, k2 + 1, dk, rfl, by go_num, by omega, by omega, Nat.le_refl _, S2, I2.out.skip (by rw [KK.out]; rfl)⟩
              | false =>
                rw [hv] at hc KK
                go_wp2_with fail
                go_quiet_grown (first | (go_at_fn g; refine Calls.grown_of (hc _ _)))
                have S2 : Aside (SW enc w blk off dk (grow (wr.drewN nq) osq)) := S3.out.grown nq osq
                clear la lb hc S3
                generalize grow (wr.drewN nq) osq = w2 at S2 ⊢
                clear nq osq
                clear ea ec pa ba ra pc bc rc
                have hzk : (kq : Int) + 1 = (k2 : Int) := by omega
                clear zk hkq
                simp only [hzk]
                clear hzk
                have cm := S2.out.c1 R hds (k + k2) (by omega)
                have ck := S2.out.c1 R hds kk (by omega)
                have fk := S2.out.f1 R hds kk (by omega)
                rw [I2.out.high (k + k2) (by omega), ← XX.out, show off + (k + k2) = off + k + k2 by omega] at cm
                generalize dk[kk]! = old at ck
                have hlz : (k2 : Int) < ((d.size - k : Nat) : Int) := by omega
                go_wp2
                go_roundg (d.size - (k + (k2 + 1)))
                case measure => omega
                case rel => exact ⟨kk + 1, k2 + 1, dk.setIfInBounds kk x, by go_num, by go_num, by omega, by omega, Nat.le_refl _, sw_set S2.out hblk kk x (by omega), (by have := I2.out.keep hlt2 (by rw [KK.out]; rfl); rwa [← XX.out] at this)⟩
            · have hend : k + k2 = d.size := by omega
              have hcl : ∀ ty, (Builtin.clear_ #[22] ty #[.slice (some ⟨blk, off + kk, none⟩) (d.size - kk) (cap - kk)]).run prog wr = .ok (.tuple #[]) (wr.setCells blk (off + kk) (List.replicate (d.size - kk) (enc zr))) :=
                fun ty => Lib.run_clear_slice wr _ _ ty _ underlying22 (fun w => by rw [hz]; exact zeroValue25 w) (hO.cells zr) (hO zr) blk (off + kk) _ _ (by omega) (fun j hj => by rw [show off + kk + j = off + (kk + j) by omega, S3.out.c1 R hds (kk + j) (by omega)]; rfl) (fun j hj => by rw [show off + kk + j = off + (kk + j) by omega]; exact S3.out.f1 R hds (kk + j) (by omega))
              go_wp2
              go_ret
              have hI := I2.out
              rw [hend] at hI
              refine ⟨by rw [hI.len]; rfl, ?_⟩
              rw [hI.len, ← hI.done zr]
              have := sw_lay hblk (List.replicate (d.size - kk) zr) dk _ kk S3.out (by simp; omega)
              rw [List.map_replicate, hz] at this
              exact this
        | false =>
          rw [hv] at hc KK
          go_wp2_with fail
          go_quiet_grown (first | (go_at_fn g; refine Calls.grown_of (hc _ _)))
          have S2 : Aside (SW enc w blk off d (grow (wr.drewN nq) osq)) := S1.out.grown nq osq
          clear la lb hc S1
          generalize grow (wr.drewN nq) osq = w2 at S2 ⊢
          clear nq osq
          clear ea ec
          go_wp2
          go_roundg (d.size - (k + 1))
          case measure => omega
          case rel =>
            refine ⟨k + 1, by go_num, by omega, by omega, Nat.le_refl _, S2, fun j hj => ?_⟩
            by_cases e : j = k
            · subst e; exact KK.out
            · exact HA.out j (by omega)
      · have : k = d.size := by omega
        subst this
        go_wp2
        go_ret
        obtain ⟨e1, e2⟩ := HS.out _ S1.out HA.out
        exact ⟨by rw [e1]; rfl, e2⟩
theorem S : Sound prog ⟨258, sig, F⟩ := comp_sound ⟨⟨_, func258, by kernel_rfl, by kernel_rfl⟩, emp, walk⟩
end slices_CompactFunc_LLint64_Lint64
namespace impl_inOrder
noncomputable def sig : Sig := ⟨[.val false (.sl (.sl (.int .i64)))], [(.val true, (.sl (.sl (.int .i64))), .deep)]⟩
noncomputable def ctx : Ctx := ⟨tabOf tabl, [⟨156, impl_copyLists.sig, impl_copyLists.F⟩, ⟨257, slices_SortFunc_LLint64_Lint64.sig, slices_SortFunc_LLint64_Lint64.F⟩, ⟨258, slices_CompactFunc_LLint64_Lint64.sig, slices_CompactFunc_LLint64_Lint64.F⟩], [impl_compareSimplices.clo, slices_Equal_Lint64_int64.clo], [], [], []⟩
noncomputable def cfg : Cfg := ⟨ctx, [], [], fun _ => ([], []), fun _ => []⟩
noncomputable def code : Code := (f188).body.getD .skip
noncomputable def fin := finK ctx sig [.cell 2 32]
noncomputable def F (d : List (List Int) × Unit) : Option ((List (List Int) × Unit) × (Unit)) := anyK (runFn cfg fin code (initSt sig.ps d 11))
noncomputable def T (list_1 : List (List Int)) : Option ((List (List Int) × Unit) × (Unit)) :=
  (impl_copyLists.F (list_1, ())).bind fun r2 =>
    (slices_SortFunc_LLint64_Lint64.F (r2.1.1, impl_compareSimplices.cloG (()), ())).bind fun r3 =>
      (slices_CompactFunc_LLint64_Lint64.F (r3.2.1, slices_Equal_Lint64_int64.cloG (()), ())).bind fun r4 =>
        some ((r4.1.1, ()), ())
theorem eq (list_1 : List (List Int)) : F (list_1, ()) = T list_1 := eq_any fun k => by kernel_rfl
theorem ok : CtxOK prog ctx := ⟨nilM, mixed_ok, tab_ok tab_good, consM ⟨impl_copyLists.S, consM ⟨slices_SortFunc_LLint64_Lint64.S, consM ⟨slices_CompactFunc_LLint64_Lint64.S, nilM⟩⟩⟩, consM ⟨impl_compareSimplices.cloS, consM ⟨slices_Equal_Lint64_int64.cloS, nilM⟩⟩, nilM⟩
theorem S : Sound prog ⟨188, sig, F⟩ := sound_k (res := [.cell 2 32]) func188 ok
end impl_inOrder
namespace impl_copyMatrix
noncomputable def sig : Sig := ⟨[.val true TMatrix], [(.val true, TMatrix, .deep)]⟩
noncomputable def ctx : Ctx := ⟨tabOf tabl, [⟨157, slices_Clone_Lint64_int64.sig, slices_Clone_Lint64_int64.F⟩], [], [], [], []⟩
noncomputable def cfg : Cfg := ⟨ctx, [], [], fun _ => ([], []), fun _ => []⟩
noncomputable def code : Code := (f211).body.getD .skip
noncomputable def fin := finK ctx sig [.cell 2 87]
noncomputable def F (d : (Int × Int × Int × List Int) × Unit) : Option (((Int × Int × Int × List Int) × Unit) × (Unit)) := anyK (runFn cfg fin code (initSt sig.ps d 8))
noncomputable def T (m_1 : Int) (m_2 : Int) (m_3 : Int) (m_4 : List Int) : Option (((Int × Int × Int × List Int) × Unit) × (Unit)) :=
  (slices_Clone_Lint64_int64.F (m_4, ())).bind fun r5 =>
    some (((m_1, (m_2, (m_3, r5.1.1))), ()), ())
theorem eq (m_1 : Int) (m_2 : Int) (m_3 : Int) (m_4 : List Int) : F ((m_1, (m_2, (m_3, m_4))), ()) = T m_1 m_2 m_3 m_4 := eq_any fun k => by kernel_rfl
theorem ok : CtxOK prog ctx := ⟨nilM, mixed_ok, tab_ok tab_good, consM ⟨slices_Clone_Lint64_int64.S, nilM⟩, nilM, nilM⟩
theorem S : Sound prog ⟨211, sig, F⟩ := sound_k (res := [.cell 2 87]) func211 ok
end impl_copyMatrix
namespace impl_sheafOf
noncomputable def sig : Sig := ⟨[.val true (.sl (.sl (.int .i64))), .val false (.int .i64), .val false (.sl (.int .i64)), .fnx ⟨[(true, TEdge)], [(.val true, TMatrix, .deep)]⟩], [(.val true, TSheaf, .deep)]⟩
noncomputable def ctx : Ctx := ⟨tabOf tabl, [⟨157, slices_Clone_Lint64_int64.sig, slices_Clone_Lint64_int64.F⟩, ⟨188, impl_inOrder.sig, impl_inOrder.F⟩, ⟨210, impl_arrows.sig, impl_arrows.F⟩, ⟨211, impl_copyMatrix.sig, impl_copyMatrix.F⟩], [], [], [], []⟩
noncomputable def cfg : Cfg := ⟨ctx, [], [], fun id => match id with | 3 => ([3, 8, 9, 20, 21, 22], [32, 36, 80]) | _ => ([], []), fun _ => []⟩
noncomputable def code : Code := (f122).body.getD .skip
noncomputable def fin := finK ctx sig [.cell 8 46]
noncomputable def F (d : List (List Int) × Int × List Int × (((Int × Int × Int) × Unit) → Option ((Int × Int × Int × List Int) × Unit)) × Unit) : Option (((List (List Int) × Int × List Int × List (Int × Int × Int × List Int)) × Unit) × (Unit)) := anyK (runFn cfg fin code (initSt sig.ps d 37))
noncomputable def l3 (k : Nat) (f8 : ((Int × Int × Int) × Unit) → Option ((Int × Int × Int × List Int) × Unit)) (i9 : Int) (i10 : Int) (x11 : List (List Int)) (i12 : Int) (x13 : List Int) (x14 : List (Int × Int × Int × List Int)) (x15 : List (List Int)) (i16 : Int) (x17 : List Int) (x18 : List (Int × Int × Int × List Int)) (x19 : List (Int × Int × Int)) : Option (((List (List Int) × Int × List Int × List (Int × Int × Int × List Int)) × Unit) × (Unit)) :=
  Go.Vm.runT cfg fin k [.inLoop (sub [1, 1, 0, 1, 0, 0] code), .inBlock 0, .code (sub [1, 1, 1] code)]
    ⟨[.dead, .dead, .dead, .fnx ⟨[(true, TEdge)], [(.val true, TMatrix, .deep)]⟩ f8, .dead, .dead, .dead, .dead, .ref 32 (.root 0), .ref 36 (.root 0), .dead, .dead, .dead, .dead, .dead, .dead, .dead, .dead, .dead, .dead, .view 80 (.root 0) 1 false, .val false [⟨(.int .i64), .sh, i9⟩], .val false [⟨(.int .i64), .sh, i10⟩]] ++ deads 14, [(32, ⟨true, [⟨(.sl (.sl (.int .i64))), .deep, x11⟩, ⟨(.int .i64), .sh, i12⟩, ⟨(.sl (.int .i64)), .deep, x13⟩, ⟨(.sl TMatrix), .deep, x14⟩]⟩), (36, ⟨true, [⟨(.sl (.sl (.int .i64))), .deep, x15⟩, ⟨(.int .i64), .sh, i16⟩, ⟨(.sl (.int .i64)), .deep, x17⟩, ⟨(.sl TMatrix), .deep, x18⟩]⟩), (80, ⟨false, [⟨(.sl TEdge), .deep, x19⟩]⟩)]⟩
theorem l3_eq (k : Nat) (f8 : ((Int × Int × Int) × Unit) → Option ((Int × Int × Int × List Int) × Unit)) (i9 : Int) (i10 : Int) (x11 : List (List Int)) (i12 : Int) (x13 : List Int) (x14 : List (Int × Int × Int × List Int)) (x15 : List (List Int)) (i16 : Int) (x17 : List Int) (x18 : List (Int × Int × Int × List Int)) (x19 : List (Int × Int × Int)) : l3 (k + 1) f8 i9 i10 x11 i12 x13 x14 x15 i16 x17 x18 x19 =
  if (decide (i10 < i9)) = true then
    if 0 ≤ i10 ∧ i10 < (x19.length : Int) then
      (f8 (x19.getD i10.toNat (0, 0, 0), ())).bind fun r20 =>
        (impl_copyMatrix.F (r20.1, ())).bind fun r21 =>
          if x18.length + ([r21.1.1] : List (Int × Int × Int × List Int)).length ≤ bigA then
            l3 k f8 i9 (IntKind.i64.wrap (i10 + (1 : Int))) x11 i12 x13 x14 x15 i16 x17 (x18 ++ ([r21.1.1])) x19
          else
            none
    else
      none
  else
    some (((x15, (i16, (x17, x18))), ()), ()) := by kernel_rfl
noncomputable def T (k : Nat) (c_1 : List (List Int)) (p_2 : Int) (stalks_3 : List Int) (f_4 : ((Int × Int × Int) × Unit) → Option ((Int × Int × Int × List Int) × Unit)) : Option (((List (List Int) × Int × List Int × List (Int × Int × Int × List Int)) × Unit) × (Unit)) :=
  (impl_inOrder.F (c_1, ())).bind fun r5 =>
    (slices_Clone_Lint64_int64.F (stalks_3, ())).bind fun r6 =>
      (impl_arrows.F (c_1, ())).bind fun r7 =>
        l3 k f_4 (r7.1.1.length : Int) (0 : Int) ([]) 0 ([]) ([]) r5.1.1 p_2 r6.1.1 ([]) r7.1.1
theorem of (c_1 : List (List Int)) (p_2 : Int) (stalks_3 : List Int) (f_4 : ((Int × Int × Int) × Unit) → Option ((Int × Int × Int × List Int) × Unit)) {r : ((List (List Int) × Int × List Int × List (Int × Int × Int × List Int)) × Unit) × (Unit)} (h : Ev (fun k => T k c_1 p_2 stalks_3 f_4) r) : F (c_1, p_2, stalks_3, f_4, ()) = some r := Ev.run (fun k => by kernel_rfl) h
theorem ok : CtxOK prog ctx := ⟨nilM, mixed_ok, tab_ok tab_good, consM ⟨slices_Clone_Lint64_int64.S, consM ⟨impl_inOrder.S, consM ⟨impl_arrows.S, consM ⟨impl_copyMatrix.S, nilM⟩⟩⟩⟩, nilM, nilM⟩
theorem S : Sound prog ⟨122, sig, F⟩ := sound_k (res := [.cell 8 46]) func122 ok
end impl_sheafOf
namespace impl_unit_1
noncomputable def sig : Sig := ⟨[.val false (.int .i64), .val false (.int .i64)], [(.val false, (.int .i64), .deep)]⟩
noncomputable def ctx : Ctx := ⟨tabOf tabl, [], [], [], [], []⟩
noncomputable def cfg : Cfg := ⟨ctx, [], [], fun _ => ([], []), fun _ => []⟩
noncomputable def code : Code := (f252).body.getD .skip
noncomputable def fin := finK ctx sig [.tmp 4]
noncomputable def F (d : Int × Int × Unit) : Option ((Int × Unit) × (Unit)) := anyK (runFn cfg fin code (initSt sig.ps d 8))
noncomputable def T (i_1 : Int) (j_2 : Int) : Option ((Int × Unit) × (Unit)) :=
  if (i_1 == j_2) = true then
    some (((1 : Int), ()), ())
  else
    some (((0 : Int), ()), ())
theorem eq (i_1 : Int) (j_2 : Int) : F (i_1, j_2, ()) = T i_1 j_2 := eq_any fun k => by kernel_rfl
theorem ok : CtxOK prog ctx := ⟨nilM, mixed_ok, tab_ok tab_good, nilM, nilM, nilM⟩
theorem S : Sound prog ⟨252, sig, F⟩ := sound_k (res := [.tmp 4]) func252 ok
noncomputable def cloG (y : Unit) (d : Int × Int × Unit) : Option (Int × Unit) := (F (joinIns [] [(false, (.int .i64)), (false, (.int .i64))] d y)).map (·.1)
noncomputable def clo : Clo := ⟨252, ⟨[(false, (.int .i64)), (false, (.int .i64))], [(.val false, (.int .i64), .deep)]⟩, [], cloG⟩
theorem cloS : SoundClo prog clo := sound_clo (s := ⟨[(false, (.int .i64)), (false, (.int .i64))], [(.val false, (.int .i64), .deep)]⟩) (caps := []) rfl S
end impl_unit_1
namespace impl_unit
noncomputable def sig : Sig := ⟨[.val false (.int .i64), .val false (.int .i64)], [(.val true, TMatrix, .deep)]⟩
noncomputable def ctx : Ctx := ⟨tabOf tabl, [⟨135, impl_filled.sig, impl_filled.F⟩], [impl_unit_1.clo], [], [], []⟩
noncomputable def cfg : Cfg := ⟨ctx, [], [], fun _ => ([], []), fun _ => []⟩
noncomputable def code : Code := (f181).body.getD .skip
noncomputable def fin := finK ctx sig [.cell 4 87]
noncomputable def F (d : Int × Int × Unit) : Option (((Int × Int × Int × List Int) × Unit) × (Unit)) := anyK (runFn cfg fin code (initSt sig.ps d 9))
noncomputable def T (p_1 : Int) (n_2 : Int) : Option (((Int × Int × Int × List Int) × Unit) × (Unit)) :=
  (impl_filled.F (p_1, n_2, n_2, impl_unit_1.cloG (()), ())).bind fun r3 =>
    some ((r3.1.1, ()), ())
theorem eq (p_1 : Int) (n_2 : Int) : F (p_1, n_2, ()) = T p_1 n_2 := eq_any fun k => by kernel_rfl
theorem ok : CtxOK prog ctx := ⟨nilM, mixed_ok, tab_ok tab_good, consM ⟨impl_filled.S, nilM⟩, consM ⟨impl_unit_1.cloS, nilM⟩, nilM⟩
theorem S : Sound prog ⟨181, sig, F⟩ := sound_k (res := [.cell 4 87]) func181 ok
end impl_unit
namespace slices_Contains_Lint64_int64
noncomputable def sig : Sig := ⟨[.val false (.sl (.int .i64)), .val false (.int .i64)], [(.val false, .bool, .deep)]⟩
noncomputable def ctx : Ctx := ⟨tabOf tabl, [⟨254, slices_Index_Lint64_int64.sig, slices_Index_Lint64_int64.F⟩], [], [], [], []⟩
noncomputable def cfg : Cfg := ⟨ctx, [], [], fun _ => ([], []), fun _ => []⟩
noncomputable def code : Code := (f228).body.getD .skip
noncomputable def fin := finK ctx sig [.tmp 4]
noncomputable def F (d : List Int × Int × Unit) : Option ((Bool × Unit) × (Unit)) := anyK (runFn cfg fin code (initSt sig.ps d 9))
noncomputable def T (s_1 : List Int) (v_2 : Int) : Option ((Bool × Unit) × (Unit)) :=
  (slices_Index_Lint64_int64.F (s_1, v_2, ())).bind fun r3 =>
    some ((decide ((r3.1.1 : Int) ≥ (0 : Int)), ()), ())
theorem eq (s_1 : List Int) (v_2 : Int) : F (s_1, v_2, ()) = T s_1 v_2 := eq_any fun k => by kernel_rfl
theorem ok : CtxOK prog ctx := ⟨nilM, mixed_ok, tab_ok tab_good, consM ⟨slices_Index_Lint64_int64.S, nilM⟩, nilM, nilM⟩
theorem S : Sound prog ⟨228, sig, F⟩ := sound_k (res := [.tmp 4]) func228 ok
end slices_Contains_Lint64_int64
namespace impl_restriction_1
noncomputable def sig : Sig := ⟨[.val false (.int .i64), .rptr (.sl (.int .i64))], [(.val false, .bool, .deep)]⟩
noncomputable def ctx : Ctx := ⟨tabOf tabl, [⟨228, slices_Contains_Lint64_int64.sig, slices_Contains_Lint64_int64.F⟩], [], [], [], []⟩
noncomputable def cfg : Cfg := ⟨ctx, [], [], fun _ => ([], []), fun _ => []⟩
noncomputable def code : Code := (f281).body.getD .skip
noncomputable def fin := finK ctx sig [.tmp 3]
noncomputable def F (d : Int × List Int × Unit) : Option ((Bool × Unit) × (Unit)) := anyK (runFn cfg fin code (initSt sig.ps d 8))
noncomputable def T (v_1 : Int) (a_2 : List Int) : Option ((Bool × Unit) × (Unit)) :=
  (slices_Contains_Lint64_int64.F (a_2, v_1, ())).bind fun r3 =>
    some ((!(r3.1.1 : Bool), ()), ())
theorem eq (v_1 : Int) (a_2 : List Int) : F (v_1, a_2, ()) = T v_1 a_2 := eq_any fun k => by kernel_rfl
theorem ok : CtxOK prog ctx := ⟨nilM, mixed_ok, tab_ok tab_good, consM ⟨slices_Contains_Lint64_int64.S, nilM⟩, nilM, nilM⟩
theorem S : Sound prog ⟨281, sig, F⟩ := sound_k (res := [.tmp 3]) func281 ok
noncomputable def cloG (y : List Int × Unit) (d : Int × Unit) : Option (Bool × Unit) := (F (joinIns [.rptr (.sl (.int .i64))] [(false, (.int .i64))] d y)).map (·.1)
noncomputable def clo : Clo := ⟨281, ⟨[(false, (.int .i64))], [(.val false, .bool, .deep)]⟩, [.rptr (.sl (.int .i64))], cloG⟩
theorem cloS : SoundClo prog clo := sound_clo (s := ⟨[(false, (.int .i64))], [(.val false, .bool, .deep)]⟩) (caps := [.rptr (.sl (.int .i64))]) rfl S
end impl_restriction_1
namespace impl_restriction
noncomputable def sig : Sig := ⟨[.val true TSheaf, .val false (.int .i64), .val false (.int .i64)], [(.val true, TMatrix, .deep)]⟩
noncomputable def ctx (self : ((List (List Int) × Int × List Int × List (Int × Int × Int × List Int)) × Int × Int × Unit) → Option (((Int × Int × Int × List Int) × Unit) × (Unit))) : Ctx := ⟨tabOf tabl, [⟨124, impl_direct.sig, impl_direct.F⟩, ⟨162, impl_faceIndices.sig, impl_faceIndices.F⟩, ⟨181, impl_unit.sig, impl_unit.F⟩, ⟨209, slices_IndexFunc_Lint64_int64.sig, slices_IndexFunc_Lint64_int64.F⟩, ⟨265, impl_product.sig, impl_product.F⟩, ⟨232, sig, self⟩], [impl_restriction_1.clo], [], [], []⟩
noncomputable def cfg (self : ((List (List Int) × Int × List Int × List (Int × Int × Int × List Int)) × Int × Int × Unit) → Option (((Int × Int × Int × List Int) × Unit) × (Unit))) : Cfg := ⟨(ctx self), [], [], fun _ => ([], []), fun _ => []⟩
noncomputable def code : Code := (f232).body.getD .skip
noncomputable def fin (self : ((List (List Int) × Int × List Int × List (Int × Int × Int × List Int)) × Int × Int × Unit) → Option (((Int × Int × Int × List Int) × Unit) × (Unit))) := finK (ctx self) sig [.cell 6 87]
noncomputable def step (self : ((List (List Int) × Int × List Int × List (Int × Int × Int × List Int)) × Int × Int × Unit) → Option (((Int × Int × Int × List Int) × Unit) × (Unit))) (d : (List (List Int) × Int × List Int × List (Int × Int × Int × List Int)) × Int × Int × Unit) : Option (((Int × Int × Int × List Int) × Unit) × (Unit)) := anyK (runFn (cfg self) (fin self) code (initSt sig.ps d 51))
noncomputable def T (self : ((List (List Int) × Int × List Int × List (Int × Int × Int × List Int)) × Int × Int × Unit) → Option (((Int × Int × Int × List Int) × Unit) × (Unit))) (s_1 : List (List Int)) (s_2 : Int) (s_3 : List Int) (s_4 : List (Int × Int × Int × List Int)) (face_5 : Int) (simplex_6 : Int) : Option (((Int × Int × Int × List Int) × Unit) × (Unit)) :=
  if (face_5 == simplex_6) = true then
    if 0 ≤ face_5 ∧ face_5 < (s_3.length : Int) then
      (impl_unit.F (s_2, (s_3.getD face_5.toNat 0 : Int), ())).bind fun r7 =>
        some ((r7.1.1, ()), ())
    else
      none
  else
    if 0 ≤ face_5 ∧ face_5 < (s_1.length : Int) then
      if 0 ≤ simplex_6 ∧ simplex_6 < (s_1.length : Int) then
        (slices_IndexFunc_Lint64_int64.F (s_1.getD simplex_6.toNat ([] : List Int), impl_restriction_1.cloG (s_1.getD face_5.toNat ([] : List Int), ()), ())).bind fun r8 =>
          (impl_faceIndices.F (s_1, simplex_6, ())).bind fun r9 =>
            if 0 ≤ (r8.1.1 : Int) ∧ (r8.1.1 : Int) < (r9.1.1.length : Int) then
              (impl_direct.F ((s_1, (s_2, (s_3, s_4))), simplex_6, (r8.1.1 : Int), ())).bind fun r10 =>
                (self ((s_1, (s_2, (s_3, s_4))), face_5, r9.1.1.getD (r8.1.1 : Int).toNat 0, ())).bind fun r11 =>
                  (impl_product.F (r10.1.1, r11.1.1, ())).bind fun r12 =>
                    some ((r12.1.1, ()), ())
            else
              none
      else
        none
    else
      none
theorem run (self : ((List (List Int) × Int × List Int × List (Int × Int × Int × List Int)) × Int × Int × Unit) → Option (((Int × Int × Int × List Int) × Unit) × (Unit))) (k : Nat) (s_1 : List (List Int)) (s_2 : Int) (s_3 : List Int) (s_4 : List (Int × Int × Int × List Int)) (face_5 : Int) (simplex_6 : Int) : runFn (cfg self) (fin self) code (initSt sig.ps ((s_1, (s_2, (s_3, s_4))), face_5, simplex_6, ()) 51) k = T self s_1 s_2 s_3 s_4 face_5 simplex_6 := by kernel_rfl
theorem eq (self : ((List (List Int) × Int × List Int × List (Int × Int × Int × List Int)) × Int × Int × Unit) → Option (((Int × Int × Int × List Int) × Unit) × (Unit))) (s_1 : List (List Int)) (s_2 : Int) (s_3 : List Int) (s_4 : List (Int × Int × Int × List Int)) (face_5 : Int) (simplex_6 : Int) : step self ((s_1, (s_2, (s_3, s_4))), face_5, simplex_6, ()) = T self s_1 s_2 s_3 s_4 face_5 simplex_6 := (congrArg anyK (funext fun k => run self k s_1 s_2 s_3 s_4 face_5 simplex_6)).trans (anyK_const _)
theorem ok (self : ((List (List Int) × Int × List Int × List (Int × Int × Int × List Int)) × Int × Int × Unit) → Option (((Int × Int × Int × List Int) × Unit) × (Unit))) (hs : Sound prog ⟨232, sig, self⟩) : CtxOK prog (ctx self) := ⟨nilM, mixed_ok, tab_ok tab_good, consM ⟨impl_direct.S, consM ⟨impl_faceIndices.S, consM ⟨impl_unit.S, consM ⟨slices_IndexFunc_Lint64_int64.S, consM ⟨impl_product.S, consM ⟨hs, nilM⟩⟩⟩⟩⟩⟩, consM ⟨impl_restriction_1.cloS, nilM⟩, nilM⟩
theorem stepS (self : ((List (List Int) × Int × List Int × List (Int × Int × Int × List Int)) × Int × Int × Unit) → Option (((Int × Int × Int × List Int) × Unit) × (Unit))) (hs : Sound prog ⟨232, sig, self⟩) : Sound prog ⟨232, sig, step self⟩ := sound_any (fn := f232) (code := code) (g := cfg self) (res := [.cell 6 87]) func232 (by kernel_rfl) (by kernel_rfl) (ok self hs) (by kernel_rfl) (by kernel_rfl) (Nat.le_of_ble_eq_true (by kernel_rfl)) (by kernel_rfl)
noncomputable def R : Nat → ((List (List Int) × Int × List Int × List (Int × Int × Int × List Int)) × Int × Int × Unit) → Option (((Int × Int × Int × List Int) × Unit) × (Unit)) := recF step
noncomputable def F (d : (List (List Int) × Int × List Int × List (Int × Int × Int × List Int)) × Int × Int × Unit) : Option (((Int × Int × Int × List Int) × Unit) × (Unit)) := anyE fun q => R q d
theorem ofR {d : (List (List Int) × Int × List Int × List (Int × Int × Int × List Int)) × Int × Int × Unit} {r : ((Int × Int × Int × List Int) × Unit) × (Unit)} (h : Ev (fun q => R q d) r) : F d = some r := anyE_of h
theorem S : Sound prog ⟨232, sig, F⟩ := sound_rec ⟨_, func232, by kernel_rfl, by kernel_rfl⟩ fun self h => stepS self h
end impl_restriction
namespace impl_pulled_1
noncomputable def sig : Sig := ⟨[.val true TEdge, .rptr TSheaf, .rptr (.sl (.int .i64))], [(.val true, TMatrix, .deep)]⟩
noncomputable def ctx : Ctx := ⟨tabOf tabl, [⟨232, impl_restriction.sig, impl_restriction.F⟩], [], [], [], []⟩
noncomputable def cfg : Cfg := ⟨ctx, [], [], fun _ => ([], []), fun _ => []⟩
noncomputable def code : Code := (f231).body.getD .skip
noncomputable def fin := finK ctx sig [.cell 4 87]
noncomputable def F (d : (Int × Int × Int) × (List (List Int) × Int × List Int × List (Int × Int × Int × List Int)) × List Int × Unit) : Option (((Int × Int × Int × List Int) × Unit) × (Unit)) := anyK (runFn cfg fin code (initSt sig.ps d 17))
noncomputable def T (a_1 : Int) (a_2 : Int) (a_3 : Int) (a_4 : List (List Int)) (a_5 : Int) (a_6 : List Int) (a_7 : List (Int × Int × Int × List Int)) (a_8 : List Int) : Option (((Int × Int × Int × List Int) × Unit) × (Unit)) :=
  if 0 ≤ a_3 ∧ a_3 < (a_8.length : Int) then
    if 0 ≤ a_1 ∧ a_1 < (a_8.length : Int) then
      (impl_restriction.F ((a_4, (a_5, (a_6, a_7))), (a_8.getD a_3.toNat 0 : Int), (a_8.getD a_1.toNat 0 : Int), ())).bind fun r9 =>
        some ((r9.1.1, ()), ())
    else
      none
  else
    none
theorem eq (a_1 : Int) (a_2 : Int) (a_3 : Int) (a_4 : List (List Int)) (a_5 : Int) (a_6 : List Int) (a_7 : List (Int × Int × Int × List Int)) (a_8 : List Int) : F ((a_1, (a_2, a_3)), (a_4, (a_5, (a_6, a_7))), a_8, ()) = T a_1 a_2 a_3 a_4 a_5 a_6 a_7 a_8 := eq_any fun k => by kernel_rfl
theorem ok : CtxOK prog ctx := ⟨nilM, mixed_ok, tab_ok tab_good, consM ⟨impl_restriction.S, nilM⟩, nilM, nilM⟩
theorem S : Sound prog ⟨231, sig, F⟩ := sound_k (res := [.cell 4 87]) func231 ok
noncomputable def cloG (y : (List (List Int) × Int × List Int × List (Int × Int × Int × List Int)) × List Int × Unit) (d : (Int × Int × Int) × Unit) : Option ((Int × Int × Int × List Int) × Unit) := (F (joinIns [.rptr TSheaf, .rptr (.sl (.int .i64))] [(true, TEdge)] d y)).map (·.1)
noncomputable def clo : Clo := ⟨231, ⟨[(true, TEdge)], [(.val true, TMatrix, .deep)]⟩, [.rptr TSheaf, .rptr (.sl (.int .i64))], cloG⟩
theorem cloS : SoundClo prog clo := sound_clo (s := ⟨[(true, TEdge)], [(.val true, TMatrix, .deep)]⟩) (caps := [.rptr TSheaf, .rptr (.sl (.int .i64))]) rfl S
end impl_pulled_1
namespace impl_pulled
noncomputable def sig : Sig := ⟨[.val true TSheaf, .val true (.sl (.sl (.int .i64))), .val false (.sl (.int .i64))], [(.val true, TSheaf, .deep)]⟩
noncomputable def ctx : Ctx := ⟨tabOf tabl, [⟨107, impl_indexOf.sig, impl_indexOf.F⟩, ⟨122, impl_sheafOf.sig, impl_sheafOf.F⟩, ⟨187, impl_imageOf.sig, impl_imageOf.F⟩], [impl_pulled_1.clo], [], [], []⟩
noncomputable def cfg : Cfg := ⟨ctx, [], [], fun id => match id with | 3 => ([2, 3, 4, 6, 7, 8, 13, 14, 15], [12, 16, 24, 28, 32]) | _ => ([], []), fun _ => []⟩
noncomputable def code : Code := (f149).body.getD .skip
noncomputable def fin := finK ctx sig [.cell 6 46]
noncomputable def F (d : (List (List Int) × Int × List Int × List (Int × Int × Int × List Int)) × List (List Int) × List Int × Unit) : Option (((List (List Int) × Int × List Int × List (Int × Int × Int × List Int)) × Unit) × (Unit)) := anyK (runFn cfg fin code (initSt sig.ps d 45))
noncomputable def l3 (k : Nat) (x7 : List Int) (x8 : List (List Int)) (i9 : Int) (i10 : Int) (x11 : List (List Int)) (i12 : Int) (x13 : List Int) (x14 : List (Int × Int × Int × List Int)) (x15 : List (List Int)) (x16 : List (List Int)) (i17 : Int) (x18 : List Int) (x19 : List (Int × Int × Int × List Int)) (x20 : List Int) (x21 : List Int) : Option (((List (List Int) × Int × List Int × List (Int × Int × Int × List Int)) × Unit) × (Unit)) :=
  Go.Vm.runT cfg fin k [.inLoop (sub [1, 1, 0, 1, 0, 0] code), .inBlock 0, .code (sub [1, 1, 1] code)]
    ⟨[.dead, .dead, .val false [⟨(.sl (.int .i64)), .sh, x7⟩], .ref 12 (.root 0), .ref 16 (.root 0), .dead, .ref 24 (.root 0), .ref 28 (.root 0), .view 32 (.root 0) 1 false, .dead, .dead, .dead, .dead, .val false [⟨(.sl (.sl (.int .i64))), .sh, x8⟩], .val false [⟨(.int .i64), .sh, i9⟩], .val false [⟨(.int .i64), .sh, i10⟩]] ++ deads 29, [(12, ⟨true, [⟨(.sl (.sl (.int .i64))), .sh, x11⟩, ⟨(.int .i64), .sh, i12⟩, ⟨(.sl (.int .i64)), .sh, x13⟩, ⟨(.sl TMatrix), .sh, x14⟩]⟩), (16, ⟨true, [⟨(.sl (.sl (.int .i64))), .sh, x15⟩]⟩), (24, ⟨true, [⟨(.sl (.sl (.int .i64))), .deep, x16⟩, ⟨(.int .i64), .sh, i17⟩, ⟨(.sl (.int .i64)), .deep, x18⟩, ⟨(.sl TMatrix), .deep, x19⟩]⟩), (28, ⟨true, [⟨(.sl (.int .i64)), .deep, x20⟩]⟩), (32, ⟨false, [⟨(.sl (.int .i64)), .deep, x21⟩]⟩)]⟩
theorem l3_eq (k : Nat) (x7 : List Int) (x8 : List (List Int)) (i9 : Int) (i10 : Int) (x11 : List (List Int)) (i12 : Int) (x13 : List Int) (x14 : List (Int × Int × Int × List Int)) (x15 : List (List Int)) (x16 : List (List Int)) (i17 : Int) (x18 : List Int) (x19 : List (Int × Int × Int × List Int)) (x20 : List Int) (x21 : List Int) : l3 (k + 1) x7 x8 i9 i10 x11 i12 x13 x14 x15 x16 i17 x18 x19 x20 x21 =
  if (decide (i10 < i9)) = true then
    if 0 ≤ i10 ∧ i10 < (x8.length : Int) then
      (impl_imageOf.F (x15, x7, x8.getD i10.toNat ([] : List Int), ())).bind fun r22 =>
        (impl_indexOf.F (x11, r22.1.1, ())).bind fun r23 =>
          if x20.length + ([(r23.1.1 : Int)] : List Int).length ≤ bigA then
            if 0 ≤ (r23.1.1 : Int) ∧ (r23.1.1 : Int) < (x13.length : Int) then
              if x21.length + ([x13.getD (r23.1.1 : Int).toNat 0] : List Int).length ≤ bigA then
                l3 k x7 x8 i9 (IntKind.i64.wrap (i10 + (1 : Int))) x11 i12 x13 x14 x15 x16 i17 x18 x19 (x20 ++ ([(r23.1.1 : Int)])) (x21 ++ ([x13.getD (r23.1.1 : Int).toNat 0]))
              else
                none
            else
              none
          else
            none
    else
      none
  else
    (impl_sheafOf.F (x15, i12, x21, impl_pulled_1.cloG ((x11, (i12, (x13, x14))), x20, ()), ())).bind fun r24 =>
      some ((r24.1.1, ()), ()) := by kernel_rfl
noncomputable def T (k : Nat) (s_1 : List (List Int)) (s_2 : Int) (s_3 : List Int) (s_4 : List (Int × Int × Int × List Int)) (c_5 : List (List Int)) (images_6 : List Int) : Option (((List (List Int) × Int × List Int × List (Int × Int × Int × List Int)) × Unit) × (Unit)) :=
  l3 k images_6 c_5 (c_5.length : Int) (0 : Int) s_1 s_2 s_3 s_4 c_5 ([]) 0 ([]) ([]) ([] : List Int) ([])
theorem of (s_1 : List (List Int)) (s_2 : Int) (s_3 : List Int) (s_4 : List (Int × Int × Int × List Int)) (c_5 : List (List Int)) (images_6 : List Int) {r : ((List (List Int) × Int × List Int × List (Int × Int × Int × List Int)) × Unit) × (Unit)} (h : Ev (fun k => T k s_1 s_2 s_3 s_4 c_5 images_6) r) : F ((s_1, (s_2, (s_3, s_4))), c_5, images_6, ()) = some r := Ev.run (fun k => by kernel_rfl) h
theorem ok : CtxOK prog ctx := ⟨nilM, mixed_ok, tab_ok tab_good, consM ⟨impl_indexOf.S, consM ⟨impl_sheafOf.S, consM ⟨impl_imageOf.S, nilM⟩⟩⟩, consM ⟨impl_pulled_1.cloS, nilM⟩, nilM⟩
theorem S : Sound prog ⟨149, sig, F⟩ := sound_k (res := [.cell 6 46]) func149 ok
end impl_pulled
namespace impl_PullSheaf
noncomputable def sig : Sig := ⟨[.val true TSheaf, .val true (.sl (.sl (.int .i64))), .val false (.sl (.int .i64))], [(.val true, TSheaf, .deep), (.val false, (.int .i64), .deep)]⟩
noncomputable def ctx : Ctx := ⟨tabOf tabl, [⟨103, impl_IsSheaf.sig, impl_IsSheaf.F⟩, ⟨104, impl_ValidComplex.sig, impl_ValidComplex.F⟩, ⟨106, impl_isMap.sig, impl_isMap.F⟩, ⟨133, impl_areStalks.sig, impl_areStalks.F⟩, ⟨149, impl_pulled.sig, impl_pulled.F⟩], [], [], [], []⟩
noncomputable def cfg : Cfg := ⟨ctx, [], [], fun _ => ([], []), fun _ => []⟩
noncomputable def code : Code := (f61).body.getD .skip
noncomputable def fin := finK ctx sig [.cell 6 46, .tmp 7]
noncomputable def F (d : (List (List Int) × Int × List Int × List (Int × Int × Int × List Int)) × List (List Int) × List Int × Unit) : Option (((List (List Int) × Int × List Int × List (Int × Int × Int × List Int)) × Int × Unit) × (Unit)) := anyK (runFn cfg fin code (initSt sig.ps d 39))
noncomputable def T (s_1 : List (List Int)) (s_2 : Int) (s_3 : List Int) (s_4 : List (Int × Int × Int × List Int)) (c_5 : List (List Int)) (images_6 : List Int) : Option (((List (List Int) × Int × List Int × List (Int × Int × Int × List Int)) × Int × Unit) × (Unit)) :=
  (impl_IsSheaf.F ((s_1, (s_2, (s_3, s_4))), ())).bind fun r7 =>
    if (!(r7.1.1 : Bool)) = true then
      some ((([], (0, ([], []))), ((1 : Int), ())), ())
    else
      (impl_ValidComplex.F (c_5, ())).bind fun r8 =>
        if (!(r8.1.1 : Bool)) = true then
          some ((([], (0, ([], []))), ((1 : Int), ())), ())
        else
          (impl_isMap.F (c_5, s_1, images_6, ())).bind fun r9 =>
            if (!(r9.1.1 : Bool)) = true then
              some ((([], (0, ([], []))), ((6 : Int), ())), ())
            else
              (impl_pulled.F ((s_1, (s_2, (s_3, s_4))), c_5, images_6, ())).bind fun r10 =>
                (impl_areStalks.F (r10.1.1.1, r10.1.1.2.2.1, ())).bind fun r11 =>
                  if (!(r11.1.1 : Bool)) = true then
                    some ((([], (0, ([], []))), ((5 : Int), ())), ())
                  else
                    some ((r10.1.1, ((0 : Int), ())), ())
theorem eq (s_1 : List (List Int)) (s_2 : Int) (s_3 : List Int) (s_4 : List (Int × Int × Int × List Int)) (c_5 : List (List Int)) (images_6 : List Int) : F ((s_1, (s_2, (s_3, s_4))), c_5, images_6, ()) = T s_1 s_2 s_3 s_4 c_5 images_6 := eq_any fun k => by kernel_rfl
theorem ok : CtxOK prog ctx := ⟨nilM, mixed_ok, tab_ok tab_good, consM ⟨impl_IsSheaf.S, consM ⟨impl_ValidComplex.S, consM ⟨impl_isMap.S, consM ⟨impl_areStalks.S, consM ⟨impl_pulled.S, nilM⟩⟩⟩⟩⟩, nilM, nilM⟩
theorem S : Sound prog ⟨61, sig, F⟩ := sound_k (res := [.cell 6 46, .tmp 7]) func61 ok
end impl_PullSheaf
namespace laws_FnExactPullSheaf
noncomputable def sig : Sig := ⟨[.val true TSheaf, .val true (.sl (.sl (.int .i64))), .val false (.sl (.int .i64))], [(.val false, .bool, .deep)]⟩
noncomputable def ctx : Ctx := ⟨tabOf tabl, [⟨19, laws_eqInt64S.sig, laws_eqInt64S.F⟩, ⟨22, laws_markInt64S.sig, laws_markInt64S.F⟩, ⟨24, laws_szSheaf.sig, laws_szSheaf.F⟩, ⟨27, laws_toSheaf.sig, laws_toSheaf.F⟩, ⟨29, laws_toInt64S.sig, laws_toInt64S.F⟩, ⟨31, laws_eqSheaf.sig, laws_eqSheaf.F⟩, ⟨33, laws_markSheaf.sig, laws_markSheaf.F⟩, ⟨35, laws_szComplex.sig, laws_szComplex.F⟩, ⟨37, laws_toComplex.sig, laws_toComplex.F⟩, ⟨39, laws_eqComplex.sig, laws_eqComplex.F⟩, ⟨40, laws_markComplex.sig, laws_markComplex.F⟩, ⟨49, laws_heldSheaf.sig, laws_heldSheaf.F⟩, ⟨60, spec_PullSheaf.sig, spec_PullSheaf.F⟩, ⟨61, impl_PullSheaf.sig, impl_PullSheaf.F⟩], [], [], [], []⟩
noncomputable def cfg : Cfg := ⟨ctx, [], [], fun _ => ([], []), fun _ => []⟩
noncomputable def code : Code := (f14).body.getD .skip
noncomputable def fin := finK ctx sig [.tmp 6]
noncomputable def F (d : (List (List Int) × Int × List Int × List (Int × Int × Int × List Int)) × List (List Int) × List Int × Unit) : Option ((Bool × Unit) × (Unit)) := anyK (runFn cfg fin code (initSt sig.ps d 140))
noncomputable def T (toArray_1 : List (List Int)) (toArray_2 : Int) (toArray_3 : List Int) (toArray_4 : List (Int × Int × Int × List Int)) (a_5 : List (List Int)) (a_6 : List Int) : Option ((Bool × Unit) × (Unit)) :=
  if (decide ((a_6.length : Int) > (1048576 : Int))) = true then
    some ((true, ()), ())
  else
    (laws_szSheaf.F ((toArray_1, (toArray_2, (toArray_3, toArray_4))), (1048576 : Int), ())).bind fun r7 =>
      if (decide ((r7.1.1 : Int) < (0 : Int))) = true then
        some ((true, ()), ())
      else
        (laws_szComplex.F (a_5, (r7.1.1 : Int), ())).bind fun r8 =>
          if (decide ((r8.1.1 : Int) < (0 : Int))) = true then
            some ((true, ()), ())
          else
            (laws_toSheaf.F ((toArray_1, (toArray_2, (toArray_3, toArray_4))), ())).bind fun r9 =>
              (laws_toComplex.F (a_5, ())).bind fun r10 =>
                (laws_toInt64S.F (a_6, ())).bind fun r11 =>
                  (spec_PullSheaf.F (r9.1.1, r10.1.1, r11.1.1, ())).bind fun r12 =>
                    (laws_toSheaf.F ((toArray_1, (toArray_2, (toArray_3, toArray_4))), ())).bind fun r13 =>
                      (laws_toComplex.F (a_5, ())).bind fun r14 =>
                        (laws_toInt64S.F (a_6, ())).bind fun r15 =>
                          (impl_PullSheaf.F (r13.1.1, r14.1.1, r15.1.1, ())).bind fun r16 =>
                            (laws_eqSheaf.F (r16.1.1, r12.1.1, ())).bind fun r17 =>
                              if (!(r17.1.1 : Bool)) = true then
                                some ((false, ()), ())
                              else
                                if ((r16.1.2.1 : Int) != (r12.1.2.1 : Int)) = true then
                                  some ((false, ()), ())
                                else
                                  (laws_toSheaf.F ((toArray_1, (toArray_2, (toArray_3, toArray_4))), ())).bind fun r18 =>
                                    (laws_eqSheaf.F (r13.1.1, r18.1.1, ())).bind fun r19 =>
                                      if (!(r19.1.1 : Bool)) = true then
                                        some ((false, ()), ())
                                      else
                                        (laws_toComplex.F (a_5, ())).bind fun r20 =>
                                          (laws_eqComplex.F (r14.1.1, r20.1.1, ())).bind fun r21 =>
                                            if (!(r21.1.1 : Bool)) = true then
                                              some ((false, ()), ())
                                            else
                                              (laws_toInt64S.F (a_6, ())).bind fun r22 =>
                                                (laws_eqInt64S.F (r15.1.1, r22.1.1, ())).bind fun r23 =>
                                                  if (!(r23.1.1 : Bool)) = true then
                                                    some ((false, ()), ())
                                                  else
                                                    (laws_markSheaf.F (r13.1.1, (1 : Int), ())).bind fun r24 =>
                                                      (laws_markComplex.F (r14.1.1, (r24.1.1 : Int), ())).bind fun r25 =>
                                                        (laws_markInt64S.F (r15.1.1, (r25.1.1 : Int), ())).bind fun r26 =>
                                                          if (decide ((r26.1.1 : Int) < (0 : Int))) = true then
                                                            some ((false, ()), ())
                                                          else
                                                            (laws_eqSheaf.F (r16.1.1, r12.1.1, ())).bind fun r27 =>
                                                              if (!(r27.1.1 : Bool)) = true then
                                                                some ((false, ()), ())
                                                              else
                                                                if ((r16.1.2.1 : Int) != (r12.1.2.1 : Int)) = true then
                                                                  some ((false, ()), ())
                                                                else
                                                                  (laws_markSheaf.F (r16.1.1, (1 : Int), ())).bind fun r28 =>
                                                                    (laws_heldSheaf.F (r28.2.1, (1 : Int), ())).bind fun r29 =>
                                                                      if (decide ((r29.1.1 : Int) < (0 : Int))) = true then
                                                                        some ((false, ()), ())
                                                                      else
                                                                        if ((r29.1.1 : Int) != (r28.1.1 : Int)) = true then
                                                                          some ((false, ()), ())
                                                                        else
                                                                          (laws_toSheaf.F ((toArray_1, (toArray_2, (toArray_3, toArray_4))), ())).bind fun r30 =>
                                                                            (laws_toComplex.F (a_5, ())).bind fun r31 =>
                                                                              (laws_toInt64S.F (a_6, ())).bind fun r32 =>
                                                                                (impl_PullSheaf.F (r30.1.1, r31.1.1, r32.1.1, ())).bind fun r33 =>
                                                                                  (laws_eqSheaf.F (r33.1.1, r12.1.1, ())).bind fun r34 =>
                                                                                    if (!(r34.1.1 : Bool)) = true then
                                                                                      some ((false, ()), ())
                                                                                    else
                                                                                      if ((r33.1.2.1 : Int) != (r12.1.2.1 : Int)) = true then
                                                                                        some ((false, ()), ())
                                                                                      else
                                                                                        (laws_heldSheaf.F (r28.2.1, (1 : Int), ())).bind fun r35 =>
                                                                                          if (decide ((r35.1.1 : Int) < (0 : Int))) = true then
                                                                                            some ((false, ()), ())
                                                                                          else
                                                                                            if ((r35.1.1 : Int) != (r28.1.1 : Int)) = true then
                                                                                              some ((false, ()), ())
                                                                                            else
                                                                                              some ((true, ()), ())
theorem eq (toArray_1 : List (List Int)) (toArray_2 : Int) (toArray_3 : List Int) (toArray_4 : List (Int × Int × Int × List Int)) (a_5 : List (List Int)) (a_6 : List Int) : F ((toArray_1, (toArray_2, (toArray_3, toArray_4))), a_5, a_6, ()) = T toArray_1 toArray_2 toArray_3 toArray_4 a_5 a_6 := eq_any fun k => by kernel_rfl
theorem ok : CtxOK prog ctx := ⟨nilM, mixed_ok, tab_ok tab_good, consM ⟨laws_eqInt64S.S, consM ⟨laws_markInt64S.S, consM ⟨laws_szSheaf.S, consM ⟨laws_toSheaf.S, consM ⟨laws_toInt64S.S, consM ⟨laws_eqSheaf.S, consM ⟨laws_markSheaf.S, consM ⟨laws_szComplex.S, consM ⟨laws_toComplex.S, consM ⟨laws_eqComplex.S, consM ⟨laws_markComplex.S, consM ⟨laws_heldSheaf.S, consM ⟨spec_PullSheaf.S, consM ⟨impl_PullSheaf.S, nilM⟩⟩⟩⟩⟩⟩⟩⟩⟩⟩⟩⟩⟩⟩, nilM, nilM⟩
theorem S : Sound prog ⟨14, sig, F⟩ := sound_k (res := [.tmp 6]) func14 ok
end laws_FnExactPullSheaf
end Go.Proofs.YtjimdbbeilfkfaaGreat
