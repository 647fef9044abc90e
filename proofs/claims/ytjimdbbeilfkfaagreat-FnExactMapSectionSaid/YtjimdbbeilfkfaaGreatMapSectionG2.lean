/- The functions, as the machine runs them. -/
import Derived.Test.YtjimdbbeilfkfaaGreatMapSectionG1
import Derived.Test.YtjimdbbeilfkfaaGreatProg
import Derived.KernelRfl
import Derived.WalkKit
import Derived.Lib.Walk
import Derived.Lib.AppendZeros
namespace Go.Proofs.YtjimdbbeilfkfaaGreat
open Go Go.Vm
set_option linter.unusedVariables false
set_option linter.unusedSimpArgs false
open Go.Proofs.Tryz
namespace impl_IsSheaf
noncomputable def sig : Sig := ⟨[.val true TSheaf], [(.val false, .bool, .deep)]⟩
noncomputable def ctx : Ctx := ⟨tabOf tabl, [⟨192, impl_ValidSheaf.sig, impl_ValidSheaf.F⟩, ⟨193, impl_wrongSquare.sig, impl_wrongSquare.F⟩], [], [], [], []⟩
noncomputable def cfg : Cfg := ⟨ctx, [], [], fun _ => ([], []), fun _ => []⟩
noncomputable def code : Code := (f103).body.getD .skip
noncomputable def fin := finK ctx sig [.tmp 2]
noncomputable def F (d : (List (List Int) × Int × List Int × List (Int × Int × Int × List Int)) × Unit) : Option ((Bool × Unit) × (Unit)) := anyK (runFn cfg fin code (initSt sig.ps d 17))
noncomputable def T (s_1 : List (List Int)) (s_2 : Int) (s_3 : List Int) (s_4 : List (Int × Int × Int × List Int)) : Option ((Bool × Unit) × (Unit)) :=
  (impl_ValidSheaf.F ((s_1, (s_2, (s_3, s_4))), ())).bind fun r5 =>
    if (!(r5.1.1 : Bool)) = true then
      some ((false, ()), ())
    else
      (impl_wrongSquare.F ((s_1, (s_2, (s_3, s_4))), ())).bind fun r6 =>
        some ((!(r6.1.2.2.1 : Bool), ()), ())
theorem eq (s_1 : List (List Int)) (s_2 : Int) (s_3 : List Int) (s_4 : List (Int × Int × Int × List Int)) : F ((s_1, (s_2, (s_3, s_4))), ()) = T s_1 s_2 s_3 s_4 := eq_any fun k => by kernel_rfl
theorem ok : CtxOK prog ctx := ⟨nilM, mixed_ok, tab_ok tab_good, consM ⟨impl_ValidSheaf.S, consM ⟨impl_wrongSquare.S, nilM⟩⟩, nilM, nilM⟩
theorem S : Sound prog ⟨103, sig, F⟩ := sound_k (res := [.tmp 2]) func103 ok
end impl_IsSheaf
namespace impl_areSheaves_1
noncomputable def sig : Sig := ⟨[.val true TSheaf], [(.val false, .bool, .deep)]⟩
noncomputable def ctx : Ctx := ⟨tabOf tabl, [⟨103, impl_IsSheaf.sig, impl_IsSheaf.F⟩], [], [], [], []⟩
noncomputable def cfg : Cfg := ⟨ctx, [], [], fun _ => ([], []), fun _ => []⟩
noncomputable def code : Code := (f217).body.getD .skip
noncomputable def fin := finK ctx sig [.tmp 2]
noncomputable def F (d : (List (List Int) × Int × List Int × List (Int × Int × Int × List Int)) × Unit) : Option ((Bool × Unit) × (Unit)) := anyK (runFn cfg fin code (initSt sig.ps d 6))
noncomputable def T (s_1 : List (List Int)) (s_2 : Int) (s_3 : List Int) (s_4 : List (Int × Int × Int × List Int)) : Option ((Bool × Unit) × (Unit)) :=
  (impl_IsSheaf.F ((s_1, (s_2, (s_3, s_4))), ())).bind fun r5 =>
    some ((!(r5.1.1 : Bool), ()), ())
theorem eq (s_1 : List (List Int)) (s_2 : Int) (s_3 : List Int) (s_4 : List (Int × Int × Int × List Int)) : F ((s_1, (s_2, (s_3, s_4))), ()) = T s_1 s_2 s_3 s_4 := eq_any fun k => by kernel_rfl
theorem ok : CtxOK prog ctx := ⟨nilM, mixed_ok, tab_ok tab_good, consM ⟨impl_IsSheaf.S, nilM⟩, nilM, nilM⟩
theorem S : Sound prog ⟨217, sig, F⟩ := sound_k (res := [.tmp 2]) func217 ok
noncomputable def cloG (y : Unit) (d : (List (List Int) × Int × List Int × List (Int × Int × Int × List Int)) × Unit) : Option (Bool × Unit) := (F (joinIns [] [(true, TSheaf)] d y)).map (·.1)
noncomputable def clo : Clo := ⟨217, ⟨[(true, TSheaf)], [(.val false, .bool, .deep)]⟩, [], cloG⟩
theorem cloS : SoundClo prog clo := sound_clo (s := ⟨[(true, TSheaf)], [(.val false, .bool, .deep)]⟩) (caps := []) rfl S
end impl_areSheaves_1
namespace slices_EqualFunc_LLint64_LLint64_Lint64_Lint64
noncomputable def sig : Sig := ⟨[.val false (.sl (.sl (.int .i64))), .val false (.sl (.sl (.int .i64))), .fnx ⟨[(false, (.sl (.int .i64))), (false, (.sl (.int .i64)))], [(.val false, .bool, .deep)]⟩], [(.val false, .bool, .deep)]⟩
noncomputable def ctx : Ctx := ⟨tabOf tabl, [], [], [], [], []⟩
noncomputable def cfg : Cfg := ⟨ctx, [], [], fun id => match id with | 4 => ([1, 2, 15, 16, 17], []) | _ => ([], []), fun _ => []⟩
noncomputable def code : Code := (f315).body.getD .skip
noncomputable def fin := finK ctx sig [.tmp 6]
noncomputable def F (d : List (List Int) × List (List Int) × ((List Int × List Int × Unit) → Option (Bool × Unit)) × Unit) : Option ((Bool × Unit) × (Unit)) := anyK (runFn cfg fin code (initSt sig.ps d 32))
noncomputable def l4 (k : Nat) (x4 : List (List Int)) (f5 : (List Int × List Int × Unit) → Option (Bool × Unit)) (x6 : List (List Int)) (i7 : Int) (i8 : Int) : Option ((Bool × Unit) × (Unit)) :=
  Go.Vm.runT cfg fin k [.inLoop (sub [1, 1, 0, 1, 0, 0] code), .inBlock 0, .code (sub [1, 1, 1] code)]
    ⟨[.dead, .val false [⟨(.sl (.sl (.int .i64))), .sh, x4⟩], .fnx ⟨[(false, (.sl (.int .i64))), (false, (.sl (.int .i64)))], [(.val false, .bool, .deep)]⟩ f5, .dead, .dead, .dead, .dead, .dead, .dead, .dead, .dead, .dead, .dead, .dead, .dead, .val false [⟨(.sl (.sl (.int .i64))), .sh, x6⟩], .val false [⟨(.int .i64), .sh, i7⟩], .val false [⟨(.int .i64), .sh, i8⟩]] ++ deads 14, []⟩
theorem l4_eq (k : Nat) (x4 : List (List Int)) (f5 : (List Int × List Int × Unit) → Option (Bool × Unit)) (x6 : List (List Int)) (i7 : Int) (i8 : Int) : l4 (k + 1) x4 f5 x6 i7 i8 =
  if (decide (i8 < i7)) = true then
    if 0 ≤ i8 ∧ i8 < (x6.length : Int) then
      if 0 ≤ i8 ∧ i8 < (x4.length : Int) then
        (f5 (x6.getD i8.toNat ([] : List Int), x4.getD i8.toNat ([] : List Int), ())).bind fun r9 =>
          if (!(r9.1 : Bool)) = true then
            some ((false, ()), ())
          else
            l4 k x4 f5 x6 i7 (IntKind.i64.wrap (i8 + (1 : Int)))
      else
        none
    else
      none
  else
    some ((true, ()), ()) := by kernel_rfl
noncomputable def T (k : Nat) (s1_1 : List (List Int)) (s2_2 : List (List Int)) (f_3 : (List Int × List Int × Unit) → Option (Bool × Unit)) : Option ((Bool × Unit) × (Unit)) :=
  if ((s1_1.length : Int) != (s2_2.length : Int)) = true then
    some ((false, ()), ())
  else
    l4 k s2_2 f_3 s1_1 (s1_1.length : Int) (0 : Int)
theorem of (s1_1 : List (List Int)) (s2_2 : List (List Int)) (f_3 : (List Int × List Int × Unit) → Option (Bool × Unit)) {r : (Bool × Unit) × (Unit)} (h : Ev (fun k => T k s1_1 s2_2 f_3) r) : F (s1_1, s2_2, f_3, ()) = some r := Ev.run (fun k => by kernel_rfl) h
theorem ok : CtxOK prog ctx := ⟨nilM, mixed_ok, tab_ok tab_good, nilM, nilM, nilM⟩
theorem S : Sound prog ⟨315, sig, F⟩ := sound_k (res := [.tmp 6]) func315 ok
end slices_EqualFunc_LLint64_LLint64_Lint64_Lint64
namespace impl_areSame
noncomputable def sig : Sig := ⟨[.val false (.sl (.sl (.int .i64))), .val false (.sl (.sl (.int .i64)))], [(.val false, .bool, .deep)]⟩
noncomputable def ctx : Ctx := ⟨tabOf tabl, [⟨315, slices_EqualFunc_LLint64_LLint64_Lint64_Lint64.sig, slices_EqualFunc_LLint64_LLint64_Lint64_Lint64.F⟩], [slices_Equal_Lint64_int64.clo], [], [], []⟩
noncomputable def cfg : Cfg := ⟨ctx, [], [], fun _ => ([], []), fun _ => []⟩
noncomputable def code : Code := (f294).body.getD .skip
noncomputable def fin := finK ctx sig [.tmp 4]
noncomputable def F (d : List (List Int) × List (List Int) × Unit) : Option ((Bool × Unit) × (Unit)) := anyK (runFn cfg fin code (initSt sig.ps d 8))
noncomputable def T (a_1 : List (List Int)) (b_2 : List (List Int)) : Option ((Bool × Unit) × (Unit)) :=
  (slices_EqualFunc_LLint64_LLint64_Lint64_Lint64.F (a_1, b_2, slices_Equal_Lint64_int64.cloG (()), ())).bind fun r3 =>
    some (((r3.1.1 : Bool), ()), ())
theorem eq (a_1 : List (List Int)) (b_2 : List (List Int)) : F (a_1, b_2, ()) = T a_1 b_2 := eq_any fun k => by kernel_rfl
theorem ok : CtxOK prog ctx := ⟨nilM, mixed_ok, tab_ok tab_good, consM ⟨slices_EqualFunc_LLint64_LLint64_Lint64_Lint64.S, nilM⟩, consM ⟨slices_Equal_Lint64_int64.cloS, nilM⟩, nilM⟩
theorem S : Sound prog ⟨294, sig, F⟩ := sound_k (res := [.tmp 4]) func294 ok
end impl_areSame
namespace impl_SameComplex
noncomputable def sig : Sig := ⟨[.val true (.sl (.sl (.int .i64))), .val true (.sl (.sl (.int .i64)))], [(.val false, .bool, .deep)]⟩
noncomputable def ctx : Ctx := ⟨tabOf tabl, [⟨294, impl_areSame.sig, impl_areSame.F⟩], [], [], [], []⟩
noncomputable def cfg : Cfg := ⟨ctx, [], [], fun _ => ([], []), fun _ => []⟩
noncomputable def code : Code := (f278).body.getD .skip
noncomputable def fin := finK ctx sig [.tmp 4]
noncomputable def F (d : List (List Int) × List (List Int) × Unit) : Option ((Bool × Unit) × (Unit)) := anyK (runFn cfg fin code (initSt sig.ps d 10))
noncomputable def T (a_1 : List (List Int)) (b_2 : List (List Int)) : Option ((Bool × Unit) × (Unit)) :=
  (impl_areSame.F (a_1, b_2, ())).bind fun r3 =>
    some (((r3.1.1 : Bool), ()), ())
theorem eq (a_1 : List (List Int)) (b_2 : List (List Int)) : F (a_1, b_2, ()) = T a_1 b_2 := eq_any fun k => by kernel_rfl
theorem ok : CtxOK prog ctx := ⟨nilM, mixed_ok, tab_ok tab_good, consM ⟨impl_areSame.S, nilM⟩, nilM, nilM⟩
theorem S : Sound prog ⟨278, sig, F⟩ := sound_k (res := [.tmp 4]) func278 ok
end impl_SameComplex
namespace impl_related
noncomputable def sig : Sig := ⟨[.val true TSheaf, .val true TSheaf], [(.val false, .bool, .deep)]⟩
noncomputable def ctx : Ctx := ⟨tabOf tabl, [⟨278, impl_SameComplex.sig, impl_SameComplex.F⟩], [], [], [], []⟩
noncomputable def cfg : Cfg := ⟨ctx, [], [], fun _ => ([], []), fun _ => []⟩
noncomputable def code : Code := (f219).body.getD .skip
noncomputable def fin := finK ctx sig [.tmp 4]
noncomputable def F (d : (List (List Int) × Int × List Int × List (Int × Int × Int × List Int)) × (List (List Int) × Int × List Int × List (Int × Int × Int × List Int)) × Unit) : Option ((Bool × Unit) × (Unit)) := anyK (runFn cfg fin code (initSt sig.ps d 17))
noncomputable def T (a_1 : List (List Int)) (a_2 : Int) (a_3 : List Int) (a_4 : List (Int × Int × Int × List Int)) (b_5 : List (List Int)) (b_6 : Int) (b_7 : List Int) (b_8 : List (Int × Int × Int × List Int)) : Option ((Bool × Unit) × (Unit)) :=
  (impl_SameComplex.F (a_1, b_5, ())).bind fun r9 =>
    if (r9.1.1 : Bool) = true then
      some ((a_2 == b_6, ()), ())
    else
      some ((false, ()), ())
theorem eq (a_1 : List (List Int)) (a_2 : Int) (a_3 : List Int) (a_4 : List (Int × Int × Int × List Int)) (b_5 : List (List Int)) (b_6 : Int) (b_7 : List Int) (b_8 : List (Int × Int × Int × List Int)) : F ((a_1, (a_2, (a_3, a_4))), (b_5, (b_6, (b_7, b_8))), ()) = T a_1 a_2 a_3 a_4 b_5 b_6 b_7 b_8 := eq_any fun k => by kernel_rfl
theorem ok : CtxOK prog ctx := ⟨nilM, mixed_ok, tab_ok tab_good, consM ⟨impl_SameComplex.S, nilM⟩, nilM, nilM⟩
theorem S : Sound prog ⟨219, sig, F⟩ := sound_k (res := [.tmp 4]) func219 ok
end impl_related
namespace impl_areSheaves_2
noncomputable def sig : Sig := ⟨[.val true TSheaf, .rptr (.sl TSheaf)], [(.val false, .bool, .deep)]⟩
noncomputable def ctx : Ctx := ⟨tabOf tabl, [⟨219, impl_related.sig, impl_related.F⟩], [], [], [], []⟩
noncomputable def cfg : Cfg := ⟨ctx, [], [], fun _ => ([], []), fun _ => []⟩
noncomputable def code : Code := (f218).body.getD .skip
noncomputable def fin := finK ctx sig [.tmp 3]
noncomputable def F (d : (List (List Int) × Int × List Int × List (Int × Int × Int × List Int)) × List (List (List Int) × Int × List Int × List (Int × Int × Int × List Int)) × Unit) : Option ((Bool × Unit) × (Unit)) := anyK (runFn cfg fin code (initSt sig.ps d 10))
noncomputable def T (s_1 : List (List Int)) (s_2 : Int) (s_3 : List Int) (s_4 : List (Int × Int × Int × List Int)) (a_5 : List (List (List Int) × Int × List Int × List (Int × Int × Int × List Int))) : Option ((Bool × Unit) × (Unit)) :=
  if 0 ≤ (0 : Int) ∧ (0 : Int) < (a_5.length : Int) then
    (impl_related.F ((s_1, (s_2, (s_3, s_4))), a_5.getD (0 : Int).toNat (([] : List (List Int)), 0, ([] : List Int), ([] : List (Int × Int × Int × List Int))), ())).bind fun r6 =>
      some ((!(r6.1.1 : Bool), ()), ())
  else
    none
theorem eq (s_1 : List (List Int)) (s_2 : Int) (s_3 : List Int) (s_4 : List (Int × Int × Int × List Int)) (a_5 : List (List (List Int) × Int × List Int × List (Int × Int × Int × List Int))) : F ((s_1, (s_2, (s_3, s_4))), a_5, ()) = T s_1 s_2 s_3 s_4 a_5 := eq_any fun k => by kernel_rfl
theorem ok : CtxOK prog ctx := ⟨nilM, mixed_ok, tab_ok tab_good, consM ⟨impl_related.S, nilM⟩, nilM, nilM⟩
theorem S : Sound prog ⟨218, sig, F⟩ := sound_k (res := [.tmp 3]) func218 ok
noncomputable def cloG (y : List (List (List Int) × Int × List Int × List (Int × Int × Int × List Int)) × Unit) (d : (List (List Int) × Int × List Int × List (Int × Int × Int × List Int)) × Unit) : Option (Bool × Unit) := (F (joinIns [.rptr (.sl TSheaf)] [(true, TSheaf)] d y)).map (·.1)
noncomputable def clo : Clo := ⟨218, ⟨[(true, TSheaf)], [(.val false, .bool, .deep)]⟩, [.rptr (.sl TSheaf)], cloG⟩
theorem cloS : SoundClo prog clo := sound_clo (s := ⟨[(true, TSheaf)], [(.val false, .bool, .deep)]⟩) (caps := [.rptr (.sl TSheaf)]) rfl S
end impl_areSheaves_2
namespace impl_areSheaves
noncomputable def sig : Sig := ⟨[.val false (.sl TSheaf)], [(.val false, (.int .i64), .deep)]⟩
noncomputable def ctx : Ctx := ⟨tabOf tabl, [⟨216, slices_ContainsFunc_Limpl_Sheaf_impl_Sheaf.sig, slices_ContainsFunc_Limpl_Sheaf_impl_Sheaf.F⟩], [impl_areSheaves_1.clo, impl_areSheaves_2.clo], [], [], []⟩
noncomputable def cfg : Cfg := ⟨ctx, [], [], fun _ => ([], []), fun _ => []⟩
noncomputable def code : Code := (f132).body.getD .skip
noncomputable def fin := finK ctx sig [.tmp 2]
noncomputable def F (d : List (List (List Int) × Int × List Int × List (Int × Int × Int × List Int)) × Unit) : Option ((Int × Unit) × (Unit)) := anyK (runFn cfg fin code (initSt sig.ps d 8))
noncomputable def T (list_1 : List (List (List Int) × Int × List Int × List (Int × Int × Int × List Int))) : Option ((Int × Unit) × (Unit)) :=
  (slices_ContainsFunc_Limpl_Sheaf_impl_Sheaf.F (list_1, impl_areSheaves_1.cloG (()), ())).bind fun r2 =>
    if (r2.1.1 : Bool) = true then
      some (((1 : Int), ()), ())
    else
      (slices_ContainsFunc_Limpl_Sheaf_impl_Sheaf.F (list_1, impl_areSheaves_2.cloG (list_1, ()), ())).bind fun r3 =>
        if (r3.1.1 : Bool) = true then
          some (((6 : Int), ()), ())
        else
          some (((0 : Int), ()), ())
theorem eq (list_1 : List (List (List Int) × Int × List Int × List (Int × Int × Int × List Int))) : F (list_1, ()) = T list_1 := eq_any fun k => by kernel_rfl
theorem ok : CtxOK prog ctx := ⟨nilM, mixed_ok, tab_ok tab_good, consM ⟨slices_ContainsFunc_Limpl_Sheaf_impl_Sheaf.S, nilM⟩, consM ⟨impl_areSheaves_1.cloS, consM ⟨impl_areSheaves_2.cloS, nilM⟩⟩, nilM⟩
theorem S : Sound prog ⟨132, sig, F⟩ := sound_k (res := [.tmp 2]) func132 ok
end impl_areSheaves
namespace impl_areParts
noncomputable def sig : Sig := ⟨[.val true TSheaf, .val true TSheaf, .val false (.sl TMatrix)], [(.val false, .bool, .deep)]⟩
noncomputable def ctx : Ctx := ⟨tabOf tabl, [⟨264, impl_isBetween.sig, impl_isBetween.F⟩], [], [], [], []⟩
noncomputable def cfg : Cfg := ⟨ctx, [], [], fun id => match id with | 4 => ([3, 4, 15, 16, 17], [12, 16]) | _ => ([], []), fun _ => []⟩
noncomputable def code : Code := (f247).body.getD .skip
noncomputable def fin := finK ctx sig [.tmp 6]
noncomputable def F (d : (List (List Int) × Int × List Int × List (Int × Int × Int × List Int)) × (List (List Int) × Int × List Int × List (Int × Int × Int × List Int)) × List (Int × Int × Int × List Int) × Unit) : Option ((Bool × Unit) × (Unit)) := anyK (runFn cfg fin code (initSt sig.ps d 38))
noncomputable def l4 (k : Nat) (x10 : List (Int × Int × Int × List Int)) (i11 : Int) (i12 : Int) (x13 : List (List Int)) (i14 : Int) (x15 : List Int) (x16 : List (Int × Int × Int × List Int)) (x17 : List (List Int)) (i18 : Int) (x19 : List Int) (x20 : List (Int × Int × Int × List Int)) : Option ((Bool × Unit) × (Unit)) :=
  Go.Vm.runT cfg fin k [.inLoop (sub [1, 1, 0, 1, 0, 0] code), .inBlock 0, .code (sub [1, 1, 1] code)]
    ⟨[.dead, .dead, .dead, .ref 12 (.root 0), .ref 16 (.root 0), .dead, .dead, .dead, .dead, .dead, .dead, .dead, .dead, .dead, .dead, .val false [⟨(.sl TMatrix), .sh, x10⟩], .val false [⟨(.int .i64), .sh, i11⟩], .val false [⟨(.int .i64), .sh, i12⟩]] ++ deads 20, [(12, ⟨true, [⟨(.sl (.sl (.int .i64))), .sh, x13⟩, ⟨(.int .i64), .sh, i14⟩, ⟨(.sl (.int .i64)), .sh, x15⟩, ⟨(.sl TMatrix), .sh, x16⟩]⟩), (16, ⟨true, [⟨(.sl (.sl (.int .i64))), .sh, x17⟩, ⟨(.int .i64), .sh, i18⟩, ⟨(.sl (.int .i64)), .sh, x19⟩, ⟨(.sl TMatrix), .sh, x20⟩]⟩)]⟩
theorem l4_eq (k : Nat) (x10 : List (Int × Int × Int × List Int)) (i11 : Int) (i12 : Int) (x13 : List (List Int)) (i14 : Int) (x15 : List Int) (x16 : List (Int × Int × Int × List Int)) (x17 : List (List Int)) (i18 : Int) (x19 : List Int) (x20 : List (Int × Int × Int × List Int)) : l4 (k + 1) x10 i11 i12 x13 i14 x15 x16 x17 i18 x19 x20 =
  if (decide (i12 < i11)) = true then
    if 0 ≤ i12 ∧ i12 < (x10.length : Int) then
      if 0 ≤ i12 ∧ i12 < (x15.length : Int) then
        if 0 ≤ i12 ∧ i12 < (x19.length : Int) then
          (impl_isBetween.F (x10.getD i12.toNat (0, 0, 0, ([] : List Int)), i14, (x15.getD i12.toNat 0 : Int), (x19.getD i12.toNat 0 : Int), ())).bind fun r21 =>
            if (!(r21.1.1 : Bool)) = true then
              some ((false, ()), ())
            else
              l4 k x10 i11 (IntKind.i64.wrap (i12 + (1 : Int))) x13 i14 x15 x16 x17 i18 x19 x20
        else
          none
      else
        none
    else
      none
  else
    some ((true, ()), ()) := by kernel_rfl
noncomputable def T (k : Nat) (a_1 : List (List Int)) (a_2 : Int) (a_3 : List Int) (a_4 : List (Int × Int × Int × List Int)) (b_5 : List (List Int)) (b_6 : Int) (b_7 : List Int) (b_8 : List (Int × Int × Int × List Int)) (parts_9 : List (Int × Int × Int × List Int)) : Option ((Bool × Unit) × (Unit)) :=
  if ((parts_9.length : Int) != (a_3.length : Int)) = true then
    some ((false, ()), ())
  else
    l4 k parts_9 (parts_9.length : Int) (0 : Int) a_1 a_2 a_3 a_4 b_5 b_6 b_7 b_8
theorem of (a_1 : List (List Int)) (a_2 : Int) (a_3 : List Int) (a_4 : List (Int × Int × Int × List Int)) (b_5 : List (List Int)) (b_6 : Int) (b_7 : List Int) (b_8 : List (Int × Int × Int × List Int)) (parts_9 : List (Int × Int × Int × List Int)) {r : (Bool × Unit) × (Unit)} (h : Ev (fun k => T k a_1 a_2 a_3 a_4 b_5 b_6 b_7 b_8 parts_9) r) : F ((a_1, (a_2, (a_3, a_4))), (b_5, (b_6, (b_7, b_8))), parts_9, ()) = some r := Ev.run (fun k => by kernel_rfl) h
theorem ok : CtxOK prog ctx := ⟨nilM, mixed_ok, tab_ok tab_good, consM ⟨impl_isBetween.S, nilM⟩, nilM, nilM⟩
theorem S : Sound prog ⟨247, sig, F⟩ := sound_k (res := [.tmp 6]) func247 ok
end impl_areParts
namespace impl_wrongPart
noncomputable def sig : Sig := ⟨[.val true TSheaf, .val true TSheaf, .val false (.sl TMatrix)], [(.val false, (.int .i64), .deep), (.val false, (.int .i64), .deep), (.val false, .bool, .deep)]⟩
noncomputable def ctx : Ctx := ⟨tabOf tabl, [⟨210, impl_arrows.sig, impl_arrows.F⟩, ⟨265, impl_product.sig, impl_product.F⟩, ⟨266, impl_SameMatrix.sig, impl_SameMatrix.F⟩], [], [], [], []⟩
noncomputable def cfg : Cfg := ⟨ctx, [], [], fun id => match id with | 2 => ([2, 3, 4, 13, 14, 15], [12, 16, 52]) | _ => ([], []), fun _ => []⟩
noncomputable def code : Code := (f248).body.getD .skip
noncomputable def fin := finK ctx sig [.tmp 6, .tmp 7, .tmp 8]
noncomputable def F (d : (List (List Int) × Int × List Int × List (Int × Int × Int × List Int)) × (List (List Int) × Int × List Int × List (Int × Int × Int × List Int)) × List (Int × Int × Int × List Int) × Unit) : Option ((Int × Int × Bool × Unit) × (Unit)) := anyK (runFn cfg fin code (initSt sig.ps d 49))
noncomputable def l2 (k : Nat) (x11 : List (Int × Int × Int × List Int)) (i12 : Int) (i13 : Int) (x14 : List (List Int)) (i15 : Int) (x16 : List Int) (x17 : List (Int × Int × Int × List Int)) (x18 : List (List Int)) (i19 : Int) (x20 : List Int) (x21 : List (Int × Int × Int × List Int)) (x22 : List (Int × Int × Int)) : Option ((Int × Int × Bool × Unit) × (Unit)) :=
  Go.Vm.runT cfg fin k [.inLoop (sub [1, 0, 1, 0, 0] code), .inBlock 0, .code (sub [1, 1] code)]
    ⟨[.dead, .dead, .val false [⟨(.sl TMatrix), .sh, x11⟩], .ref 12 (.root 0), .ref 16 (.root 0), .dead, .dead, .dead, .dead, .dead, .dead, .dead, .dead, .view 52 (.root 0) 1 false, .val false [⟨(.int .i64), .sh, i12⟩], .val false [⟨(.int .i64), .sh, i13⟩]] ++ deads 33, [(12, ⟨true, [⟨(.sl (.sl (.int .i64))), .sh, x14⟩, ⟨(.int .i64), .sh, i15⟩, ⟨(.sl (.int .i64)), .sh, x16⟩, ⟨(.sl TMatrix), .sh, x17⟩]⟩), (16, ⟨true, [⟨(.sl (.sl (.int .i64))), .sh, x18⟩, ⟨(.int .i64), .sh, i19⟩, ⟨(.sl (.int .i64)), .sh, x20⟩, ⟨(.sl TMatrix), .sh, x21⟩]⟩), (52, ⟨false, [⟨(.sl TEdge), .deep, x22⟩]⟩)]⟩
theorem l2_eq (k : Nat) (x11 : List (Int × Int × Int × List Int)) (i12 : Int) (i13 : Int) (x14 : List (List Int)) (i15 : Int) (x16 : List Int) (x17 : List (Int × Int × Int × List Int)) (x18 : List (List Int)) (i19 : Int) (x20 : List Int) (x21 : List (Int × Int × Int × List Int)) (x22 : List (Int × Int × Int)) : l2 (k + 1) x11 i12 i13 x14 i15 x16 x17 x18 i19 x20 x21 x22 =
  if (decide (i13 < i12)) = true then
    if 0 ≤ i13 ∧ i13 < (x22.length : Int) then
      if 0 ≤ i13 ∧ i13 < (x21.length : Int) then
        if 0 ≤ (((x22.getD i13.toNat (0, 0, 0)).2).2 : Int) ∧ (((x22.getD i13.toNat (0, 0, 0)).2).2 : Int) < (x11.length : Int) then
          (impl_product.F (x21.getD i13.toNat (0, 0, 0, ([] : List Int)), x11.getD (((x22.getD i13.toNat (0, 0, 0)).2).2 : Int).toNat (0, 0, 0, ([] : List Int)), ())).bind fun r23 =>
            if 0 ≤ ((x22.getD i13.toNat (0, 0, 0)).1 : Int) ∧ ((x22.getD i13.toNat (0, 0, 0)).1 : Int) < (x11.length : Int) then
              if 0 ≤ i13 ∧ i13 < (x17.length : Int) then
                (impl_product.F (x11.getD ((x22.getD i13.toNat (0, 0, 0)).1 : Int).toNat (0, 0, 0, ([] : List Int)), x17.getD i13.toNat (0, 0, 0, ([] : List Int)), ())).bind fun r24 =>
                  (impl_SameMatrix.F (r23.1.1, r24.1.1, ())).bind fun r25 =>
                    if (!(r25.1.1 : Bool)) = true then
                      some ((((x22.getD i13.toNat (0, 0, 0)).1 : Int), ((((x22.getD i13.toNat (0, 0, 0)).2).1 : Int), (true, ()))), ())
                    else
                      l2 k x11 i12 (IntKind.i64.wrap (i13 + (1 : Int))) x14 i15 x16 x17 x18 i19 x20 x21 x22
              else
                none
            else
              none
        else
          none
      else
        none
    else
      none
  else
    some (((0 : Int), ((0 : Int), (false, ()))), ()) := by kernel_rfl
noncomputable def T (k : Nat) (a_1 : List (List Int)) (a_2 : Int) (a_3 : List Int) (a_4 : List (Int × Int × Int × List Int)) (b_5 : List (List Int)) (b_6 : Int) (b_7 : List Int) (b_8 : List (Int × Int × Int × List Int)) (parts_9 : List (Int × Int × Int × List Int)) : Option ((Int × Int × Bool × Unit) × (Unit)) :=
  (impl_arrows.F (a_1, ())).bind fun r10 =>
    l2 k parts_9 (r10.1.1.length : Int) (0 : Int) a_1 a_2 a_3 a_4 b_5 b_6 b_7 b_8 r10.1.1
theorem of (a_1 : List (List Int)) (a_2 : Int) (a_3 : List Int) (a_4 : List (Int × Int × Int × List Int)) (b_5 : List (List Int)) (b_6 : Int) (b_7 : List Int) (b_8 : List (Int × Int × Int × List Int)) (parts_9 : List (Int × Int × Int × List Int)) {r : (Int × Int × Bool × Unit) × (Unit)} (h : Ev (fun k => T k a_1 a_2 a_3 a_4 b_5 b_6 b_7 b_8 parts_9) r) : F ((a_1, (a_2, (a_3, a_4))), (b_5, (b_6, (b_7, b_8))), parts_9, ()) = some r := Ev.run (fun k => by kernel_rfl) h
theorem ok : CtxOK prog ctx := ⟨nilM, mixed_ok, tab_ok tab_good, consM ⟨impl_arrows.S, consM ⟨impl_product.S, consM ⟨impl_SameMatrix.S, nilM⟩⟩⟩, nilM, nilM⟩
theorem S : Sound prog ⟨248, sig, F⟩ := sound_k (res := [.tmp 6, .tmp 7, .tmp 8]) func248 ok
end impl_wrongPart
namespace impl_isMorphism
noncomputable def sig : Sig := ⟨[.val true TSheaf, .val true TSheaf, .val false (.sl TMatrix)], [(.val false, .bool, .deep)]⟩
noncomputable def ctx : Ctx := ⟨tabOf tabl, [⟨247, impl_areParts.sig, impl_areParts.F⟩, ⟨248, impl_wrongPart.sig, impl_wrongPart.F⟩], [], [], [], []⟩
noncomputable def cfg : Cfg := ⟨ctx, [], [], fun _ => ([], []), fun _ => []⟩
noncomputable def code : Code := (f171).body.getD .skip
noncomputable def fin := finK ctx sig [.tmp 6]
noncomputable def F (d : (List (List Int) × Int × List Int × List (Int × Int × Int × List Int)) × (List (List Int) × Int × List Int × List (Int × Int × Int × List Int)) × List (Int × Int × Int × List Int) × Unit) : Option ((Bool × Unit) × (Unit)) := anyK (runFn cfg fin code (initSt sig.ps d 25))
noncomputable def T (a_1 : List (List Int)) (a_2 : Int) (a_3 : List Int) (a_4 : List (Int × Int × Int × List Int)) (b_5 : List (List Int)) (b_6 : Int) (b_7 : List Int) (b_8 : List (Int × Int × Int × List Int)) (parts_9 : List (Int × Int × Int × List Int)) : Option ((Bool × Unit) × (Unit)) :=
  (impl_areParts.F ((a_1, (a_2, (a_3, a_4))), (b_5, (b_6, (b_7, b_8))), parts_9, ())).bind fun r10 =>
    if (!(r10.1.1 : Bool)) = true then
      some ((false, ()), ())
    else
      (impl_wrongPart.F ((a_1, (a_2, (a_3, a_4))), (b_5, (b_6, (b_7, b_8))), parts_9, ())).bind fun r11 =>
        some ((!(r11.1.2.2.1 : Bool), ()), ())
theorem eq (a_1 : List (List Int)) (a_2 : Int) (a_3 : List Int) (a_4 : List (Int × Int × Int × List Int)) (b_5 : List (List Int)) (b_6 : Int) (b_7 : List Int) (b_8 : List (Int × Int × Int × List Int)) (parts_9 : List (Int × Int × Int × List Int)) : F ((a_1, (a_2, (a_3, a_4))), (b_5, (b_6, (b_7, b_8))), parts_9, ()) = T a_1 a_2 a_3 a_4 b_5 b_6 b_7 b_8 parts_9 := eq_any fun k => by kernel_rfl
theorem ok : CtxOK prog ctx := ⟨nilM, mixed_ok, tab_ok tab_good, consM ⟨impl_areParts.S, consM ⟨impl_wrongPart.S, nilM⟩⟩, nilM, nilM⟩
theorem S : Sound prog ⟨171, sig, F⟩ := sound_k (res := [.tmp 6]) func171 ok
end impl_isMorphism
namespace impl_withMorphism
noncomputable def sig : Sig := ⟨[.val true TSheaf, .val true TSheaf, .val false (.sl TMatrix)], [(.val false, (.int .i64), .deep)]⟩
noncomputable def ctx : Ctx := ⟨tabOf tabl, [⟨132, impl_areSheaves.sig, impl_areSheaves.F⟩, ⟨171, impl_isMorphism.sig, impl_isMorphism.F⟩], [], [], [], []⟩
noncomputable def cfg : Cfg := ⟨ctx, [], [], fun _ => ([], []), fun _ => []⟩
noncomputable def code : Code := (f77).body.getD .skip
noncomputable def fin := finK ctx sig [.tmp 6]
noncomputable def F (d : (List (List Int) × Int × List Int × List (Int × Int × Int × List Int)) × (List (List Int) × Int × List Int × List (Int × Int × Int × List Int)) × List (Int × Int × Int × List Int) × Unit) : Option ((Int × Unit) × (Unit)) := anyK (runFn cfg fin code (initSt sig.ps d 20))
noncomputable def T (a_1 : List (List Int)) (a_2 : Int) (a_3 : List Int) (a_4 : List (Int × Int × Int × List Int)) (b_5 : List (List Int)) (b_6 : Int) (b_7 : List Int) (b_8 : List (Int × Int × Int × List Int)) (parts_9 : List (Int × Int × Int × List Int)) : Option ((Int × Unit) × (Unit)) :=
  (impl_areSheaves.F ([(a_1, (a_2, (a_3, a_4))), (b_5, (b_6, (b_7, b_8)))], ())).bind fun r10 =>
    if ((r10.1.1 : Int) != (0 : Int)) = true then
      some (((r10.1.1 : Int), ()), ())
    else
      (impl_isMorphism.F ((a_1, (a_2, (a_3, a_4))), (b_5, (b_6, (b_7, b_8))), parts_9, ())).bind fun r11 =>
        if (!(r11.1.1 : Bool)) = true then
          some (((7 : Int), ()), ())
        else
          some (((0 : Int), ()), ())
theorem eq (a_1 : List (List Int)) (a_2 : Int) (a_3 : List Int) (a_4 : List (Int × Int × Int × List Int)) (b_5 : List (List Int)) (b_6 : Int) (b_7 : List Int) (b_8 : List (Int × Int × Int × List Int)) (parts_9 : List (Int × Int × Int × List Int)) : F ((a_1, (a_2, (a_3, a_4))), (b_5, (b_6, (b_7, b_8))), parts_9, ()) = T a_1 a_2 a_3 a_4 b_5 b_6 b_7 b_8 parts_9 := eq_any fun k => by kernel_rfl
theorem ok : CtxOK prog ctx := ⟨nilM, mixed_ok, tab_ok tab_good, consM ⟨impl_areSheaves.S, consM ⟨impl_isMorphism.S, nilM⟩⟩, nilM, nilM⟩
theorem S : Sound prog ⟨77, sig, F⟩ := sound_k (res := [.tmp 6]) func77 ok
end impl_withMorphism
namespace impl_zero_1
noncomputable def sig : Sig := ⟨[.val false (.int .i64), .val false (.int .i64)], [(.val false, (.int .i64), .deep)]⟩
noncomputable def ctx : Ctx := ⟨tabOf tabl, [], [], [], [], []⟩
noncomputable def cfg : Cfg := ⟨ctx, [], [], fun _ => ([], []), fun _ => []⟩
noncomputable def code : Code := (f215).body.getD .skip
noncomputable def fin := finK ctx sig [.tmp 4]
noncomputable def F (d : Int × Int × Unit) : Option ((Int × Unit) × (Unit)) := anyK (runFn cfg fin code (initSt sig.ps d 5))
noncomputable def T (i_1 : Int) (j_2 : Int) : Option ((Int × Unit) × (Unit)) :=
  some (((0 : Int), ()), ())
theorem eq (i_1 : Int) (j_2 : Int) : F (i_1, j_2, ()) = T i_1 j_2 := eq_any fun k => by kernel_rfl
theorem ok : CtxOK prog ctx := ⟨nilM, mixed_ok, tab_ok tab_good, nilM, nilM, nilM⟩
theorem S : Sound prog ⟨215, sig, F⟩ := sound_k (res := [.tmp 4]) func215 ok
noncomputable def cloG (y : Unit) (d : Int × Int × Unit) : Option (Int × Unit) := (F (joinIns [] [(false, (.int .i64)), (false, (.int .i64))] d y)).map (·.1)
noncomputable def clo : Clo := ⟨215, ⟨[(false, (.int .i64)), (false, (.int .i64))], [(.val false, (.int .i64), .deep)]⟩, [], cloG⟩
theorem cloS : SoundClo prog clo := sound_clo (s := ⟨[(false, (.int .i64)), (false, (.int .i64))], [(.val false, (.int .i64), .deep)]⟩) (caps := []) rfl S
end impl_zero_1
namespace impl_zero
noncomputable def sig : Sig := ⟨[.val false (.int .i64), .val false (.int .i64), .val false (.int .i64)], [(.val true, TMatrix, .deep)]⟩
noncomputable def ctx : Ctx := ⟨tabOf tabl, [⟨135, impl_filled.sig, impl_filled.F⟩], [impl_zero_1.clo], [], [], []⟩
noncomputable def cfg : Cfg := ⟨ctx, [], [], fun _ => ([], []), fun _ => []⟩
noncomputable def code : Code := (f127).body.getD .skip
noncomputable def fin := finK ctx sig [.cell 6 87]
noncomputable def F (d : Int × Int × Int × Unit) : Option (((Int × Int × Int × List Int) × Unit) × (Unit)) := anyK (runFn cfg fin code (initSt sig.ps d 11))
noncomputable def T (p_1 : Int) (rows_2 : Int) (columns_3 : Int) : Option (((Int × Int × Int × List Int) × Unit) × (Unit)) :=
  (impl_filled.F (p_1, rows_2, columns_3, impl_zero_1.cloG (()), ())).bind fun r4 =>
    some ((r4.1.1, ()), ())
theorem eq (p_1 : Int) (rows_2 : Int) (columns_3 : Int) : F (p_1, rows_2, columns_3, ()) = T p_1 rows_2 columns_3 := eq_any fun k => by kernel_rfl
theorem ok : CtxOK prog ctx := ⟨nilM, mixed_ok, tab_ok tab_good, consM ⟨impl_filled.S, nilM⟩, consM ⟨impl_zero_1.cloS, nilM⟩, nilM⟩
theorem S : Sound prog ⟨127, sig, F⟩ := sound_k (res := [.cell 6 87]) func127 ok
end impl_zero
namespace impl_firstColumn
noncomputable def sig : Sig := ⟨[.val true TSheaf, .val false (.int .i64)], [(.val false, (.int .i64), .deep)]⟩
noncomputable def ctx : Ctx := ⟨tabOf tabl, [⟨79, impl_simplicesOf.sig, impl_simplicesOf.F⟩, ⟨161, impl_size_int64.sig, impl_size_int64.F⟩], [], [], [], []⟩
noncomputable def cfg : Cfg := ⟨ctx, [], [], fun id => match id with | 3 => ([1, 2, 5, 18, 19, 20], [8, 72]) | _ => ([], []), fun _ => []⟩
noncomputable def code : Code := (f163).body.getD .skip
noncomputable def fin := finK ctx sig [.tmp 4]
noncomputable def F (d : (List (List Int) × Int × List Int × List (Int × Int × Int × List Int)) × Int × Unit) : Option ((Int × Unit) × (Unit)) := anyK (runFn cfg fin code (initSt sig.ps d 36))
noncomputable def l3 (k : Nat) (i8 : Int) (i9 : Int) (i10 : Int) (i11 : Int) (x12 : List (List Int)) (i13 : Int) (x14 : List Int) (x15 : List (Int × Int × Int × List Int)) (x16 : List Int) : Option ((Int × Unit) × (Unit)) :=
  Go.Vm.runT cfg fin k [.inLoop (sub [1, 1, 0, 1, 0, 0] code), .inBlock 0, .code (sub [1, 1, 1] code)]
    ⟨[.dead, .val false [⟨(.int .i64), .sh, i8⟩], .ref 8 (.root 0), .dead, .dead, .val false [⟨(.int .i64), .sh, i9⟩], .dead, .dead, .dead, .dead, .dead, .dead, .dead, .dead, .dead, .dead, .dead, .dead, .view 72 (.root 0) 1 false, .val false [⟨(.int .i64), .sh, i10⟩], .val false [⟨(.int .i64), .sh, i11⟩]] ++ deads 15, [(8, ⟨true, [⟨(.sl (.sl (.int .i64))), .sh, x12⟩, ⟨(.int .i64), .sh, i13⟩, ⟨(.sl (.int .i64)), .sh, x14⟩, ⟨(.sl TMatrix), .sh, x15⟩]⟩), (72, ⟨false, [⟨(.sl (.int .i64)), .deep, x16⟩]⟩)]⟩
theorem l3_eq (k : Nat) (i8 : Int) (i9 : Int) (i10 : Int) (i11 : Int) (x12 : List (List Int)) (i13 : Int) (x14 : List Int) (x15 : List (Int × Int × Int × List Int)) (x16 : List Int) : l3 (k + 1) i8 i9 i10 i11 x12 i13 x14 x15 x16 =
  if (decide (i11 < i10)) = true then
    if 0 ≤ i11 ∧ i11 < (x16.length : Int) then
      if ((x16.getD i11.toNat 0 : Int) == i8) = true then
        some ((i9, ()), ())
      else
        if 0 ≤ (x16.getD i11.toNat 0 : Int) ∧ (x16.getD i11.toNat 0 : Int) < (x14.length : Int) then
          l3 k i8 (IntKind.i64.wrap (i9 + (x14.getD (x16.getD i11.toNat 0 : Int).toNat 0))) i10 (IntKind.i64.wrap (i11 + (1 : Int))) x12 i13 x14 x15 x16
        else
          none
    else
      none
  else
    some ((i9, ()), ()) := by kernel_rfl
noncomputable def T (k : Nat) (s_1 : List (List Int)) (s_2 : Int) (s_3 : List Int) (s_4 : List (Int × Int × Int × List Int)) (simplex_5 : Int) : Option ((Int × Unit) × (Unit)) :=
  if 0 ≤ simplex_5 ∧ simplex_5 < (s_1.length : Int) then
    (impl_size_int64.F (s_1.getD simplex_5.toNat ([] : List Int), ())).bind fun r6 =>
      (impl_simplicesOf.F (s_1, IntKind.i64.wrap ((r6.1.1 : Int) - (1 : Int)), ())).bind fun r7 =>
        l3 k simplex_5 (0 : Int) (r7.1.1.length : Int) (0 : Int) s_1 s_2 s_3 s_4 r7.1.1
  else
    none
theorem of (s_1 : List (List Int)) (s_2 : Int) (s_3 : List Int) (s_4 : List (Int × Int × Int × List Int)) (simplex_5 : Int) {r : (Int × Unit) × (Unit)} (h : Ev (fun k => T k s_1 s_2 s_3 s_4 simplex_5) r) : F ((s_1, (s_2, (s_3, s_4))), simplex_5, ()) = some r := Ev.run (fun k => by kernel_rfl) h
theorem ok : CtxOK prog ctx := ⟨nilM, mixed_ok, tab_ok tab_good, consM ⟨impl_simplicesOf.S, consM ⟨impl_size_int64.S, nilM⟩⟩, nilM, nilM⟩
theorem S : Sound prog ⟨163, sig, F⟩ := sound_k (res := [.tmp 4]) func163 ok
end impl_firstColumn
namespace impl_alternating
noncomputable def sig : Sig := ⟨[.val false (.int .i64), .val false (.int .i64)], [(.val false, (.int .i64), .deep)]⟩
noncomputable def ctx : Ctx := ⟨tabOf tabl, [], [], [], [], []⟩
noncomputable def cfg : Cfg := ⟨ctx, [], [], fun _ => ([], []), fun _ => []⟩
noncomputable def code : Code := (f164).body.getD .skip
noncomputable def fin := finK ctx sig [.tmp 4]
noncomputable def F (d : Int × Int × Unit) : Option ((Int × Unit) × (Unit)) := anyK (runFn cfg fin code (initSt sig.ps d 10))
noncomputable def T (k_1 : Int) (p_2 : Int) : Option ((Int × Unit) × (Unit)) :=
  if (2 : Int) = 0 then
    none
  else
    if ((k_1.tmod (2 : Int)) == (0 : Int)) = true then
      some (((1 : Int), ()), ())
    else
      some ((IntKind.i64.wrap (p_2 - (1 : Int)), ()), ())
theorem eq (k_1 : Int) (p_2 : Int) : F (k_1, p_2, ()) = T k_1 p_2 := eq_any fun k => by kernel_rfl
theorem ok : CtxOK prog ctx := ⟨nilM, mixed_ok, tab_ok tab_good, nilM, nilM, nilM⟩
theorem S : Sound prog ⟨164, sig, F⟩ := sound_k (res := [.tmp 4]) func164 ok
end impl_alternating
namespace impl_coboundaryMatrix
noncomputable def sig : Sig := ⟨[.val true TSheaf, .val false (.int .i64)], [(.val true, TMatrix, .deep)]⟩
noncomputable def ctx : Ctx := ⟨tabOf tabl, [⟨68, impl_stalkSum.sig, impl_stalkSum.F⟩, ⟨79, impl_simplicesOf.sig, impl_simplicesOf.F⟩, ⟨124, impl_direct.sig, impl_direct.F⟩, ⟨127, impl_zero.sig, impl_zero.F⟩, ⟨137, impl_Matrix_at.sig, impl_Matrix_at.F⟩, ⟨162, impl_faceIndices.sig, impl_faceIndices.F⟩, ⟨163, impl_firstColumn.sig, impl_firstColumn.F⟩, ⟨164, impl_alternating.sig, impl_alternating.F⟩], [], [], [], []⟩
noncomputable def cfg : Cfg := ⟨ctx, [], [], fun id => match id with | 3 => ([1, 2, 4, 5, 29, 30, 31], [8, 16, 20, 116]) | 7 => ([1, 2, 4, 5, 7, 29, 30, 31, 40, 41, 42], [8, 16, 20, 116, 160]) | 12 => ([1, 2, 4, 5, 7, 8, 10, 11, 12, 29, 30, 31, 40, 41, 42, 58, 59], [8, 16, 20, 40, 116, 160]) | 15 => ([1, 2, 4, 5, 7, 8, 10, 11, 12, 13, 29, 30, 31, 40, 41, 42, 58, 59, 63, 64], [8, 16, 20, 40, 116, 160]) | _ => ([], []), fun _ => []⟩
noncomputable def code : Code := (f70).body.getD .skip
noncomputable def fin := finK ctx sig [.cell 4 87]
noncomputable def F (d : (List (List Int) × Int × List Int × List (Int × Int × Int × List Int)) × Int × Unit) : Option (((Int × Int × Int × List Int) × Unit) × (Unit)) := anyK (runFn cfg fin code (initSt sig.ps d 97))
noncomputable def l3 (k : Nat) (i10 : Int) (i11 : Int) (i12 : Int) (x13 : List (List Int)) (i14 : Int) (x15 : List Int) (x16 : List (Int × Int × Int × List Int)) (i17 : Int) (i18 : Int) (i19 : Int) (x20 : List Int) (i21 : Int) (i22 : Int) (i23 : Int) (x24 : List Int) (x25 : List Int) : Option (((Int × Int × Int × List Int) × Unit) × (Unit)) :=
  Go.Vm.runT cfg fin k [.inLoop (sub [1, 1, 0, 1, 0, 0] code), .inBlock 0, .code (sub [1, 1, 1] code)]
    ⟨[.dead, .val false [⟨(.int .i64), .sh, i10⟩], .ref 8 (.root 0), .dead, .ref 16 (.root 0), .ref 20 (.root 0), .dead, .dead, .dead, .dead, .dead, .dead, .dead, .dead, .dead, .dead, .dead, .dead, .dead, .dead, .dead, .dead, .dead, .dead, .dead, .dead, .dead, .dead, .dead, .view 116 (.root 0) 1 false, .val false [⟨(.int .i64), .sh, i11⟩], .val false [⟨(.int .i64), .sh, i12⟩]] ++ deads 65, [(8, ⟨true, [⟨(.sl (.sl (.int .i64))), .sh, x13⟩, ⟨(.int .i64), .sh, i14⟩, ⟨(.sl (.int .i64)), .sh, x15⟩, ⟨(.sl TMatrix), .sh, x16⟩]⟩), (16, ⟨true, [⟨(.int .i64), .sh, i17⟩, ⟨(.int .i64), .sh, i18⟩, ⟨(.int .i64), .sh, i19⟩, ⟨(.sl (.int .i64)), .deep, x20⟩]⟩), (20, ⟨true, [⟨(.int .i64), .sh, i21⟩, ⟨(.int .i64), .sh, i22⟩, ⟨(.int .i64), .sh, i23⟩, ⟨(.sl (.int .i64)), .deep, x24⟩]⟩), (116, ⟨false, [⟨(.sl (.int .i64)), .deep, x25⟩]⟩)]⟩
noncomputable def l7 (k : Nat) (i27 : Int) (i28 : Int) (i29 : Int) (i30 : Int) (i31 : Int) (i32 : Int) (x33 : List (List Int)) (i34 : Int) (x35 : List Int) (x36 : List (Int × Int × Int × List Int)) (i37 : Int) (i38 : Int) (i39 : Int) (x40 : List Int) (i41 : Int) (i42 : Int) (i43 : Int) (x44 : List Int) (x45 : List Int) (x46 : List Int) : Option (((Int × Int × Int × List Int) × Unit) × (Unit)) :=
  Go.Vm.runT cfg fin k [.inLoop (sub [1, 1, 0, 1, 0, 0, 1, 1, 0, 0, 1, 1, 1, 0, 0] code), .inBlock 2, .inBlock 1, .code (sub [1, 1, 0, 1, 0, 0, 1, 1, 1] code), .inLoop (sub [1, 1, 0, 1, 0, 0] code), .inBlock 0, .code (sub [1, 1, 1] code)]
    ⟨[.dead, .val false [⟨(.int .i64), .sh, i27⟩], .ref 8 (.root 0), .dead, .ref 16 (.root 0), .ref 20 (.root 0), .dead, .val false [⟨(.int .i64), .sh, i28⟩], .dead, .dead, .dead, .dead, .dead, .dead, .dead, .dead, .dead, .dead, .dead, .dead, .dead, .dead, .dead, .dead, .dead, .dead, .dead, .dead, .dead, .view 116 (.root 0) 1 false, .val false [⟨(.int .i64), .sh, i29⟩], .val false [⟨(.int .i64), .sh, i30⟩], .dead, .dead, .dead, .dead, .dead, .dead, .dead, .dead, .view 160 (.root 0) 1 false, .val false [⟨(.int .i64), .sh, i31⟩], .val false [⟨(.int .i64), .sh, i32⟩]] ++ deads 54, [(8, ⟨true, [⟨(.sl (.sl (.int .i64))), .sh, x33⟩, ⟨(.int .i64), .sh, i34⟩, ⟨(.sl (.int .i64)), .sh, x35⟩, ⟨(.sl TMatrix), .sh, x36⟩]⟩), (16, ⟨true, [⟨(.int .i64), .sh, i37⟩, ⟨(.int .i64), .sh, i38⟩, ⟨(.int .i64), .sh, i39⟩, ⟨(.sl (.int .i64)), .deep, x40⟩]⟩), (20, ⟨true, [⟨(.int .i64), .sh, i41⟩, ⟨(.int .i64), .sh, i42⟩, ⟨(.int .i64), .sh, i43⟩, ⟨(.sl (.int .i64)), .deep, x44⟩]⟩), (116, ⟨false, [⟨(.sl (.int .i64)), .deep, x45⟩]⟩), (160, ⟨false, [⟨(.sl (.int .i64)), .deep, x46⟩]⟩)]⟩
noncomputable def l12 (k : Nat) (i50 : Int) (i51 : Int) (i52 : Int) (i53 : Int) (i54 : Int) (i55 : Int) (i56 : Int) (i57 : Int) (i58 : Int) (i59 : Int) (i60 : Int) (x61 : List (List Int)) (i62 : Int) (x63 : List Int) (x64 : List (Int × Int × Int × List Int)) (i65 : Int) (i66 : Int) (i67 : Int) (x68 : List Int) (i69 : Int) (i70 : Int) (i71 : Int) (x72 : List Int) (i73 : Int) (i74 : Int) (i75 : Int) (x76 : List Int) (x77 : List Int) (x78 : List Int) : Option (((Int × Int × Int × List Int) × Unit) × (Unit)) :=
  Go.Vm.runT cfg fin k [.inLoop (sub [1, 1, 0, 1, 0, 0, 1, 1, 0, 0, 1, 1, 1, 0, 0, 1, 1, 0, 0, 1, 1, 1, 1, 0, 0] code), .inBlock 4, .inBlock 3, .code (sub [1, 1, 0, 1, 0, 0, 1, 1, 0, 0, 1, 1, 1, 0, 0, 1, 1, 1] code), .inLoop (sub [1, 1, 0, 1, 0, 0, 1, 1, 0, 0, 1, 1, 1, 0, 0] code), .inBlock 2, .inBlock 1, .code (sub [1, 1, 0, 1, 0, 0, 1, 1, 1] code), .inLoop (sub [1, 1, 0, 1, 0, 0] code), .inBlock 0, .code (sub [1, 1, 1] code)]
    ⟨[.dead, .val false [⟨(.int .i64), .sh, i50⟩], .ref 8 (.root 0), .dead, .ref 16 (.root 0), .ref 20 (.root 0), .dead, .val false [⟨(.int .i64), .sh, i51⟩], .val false [⟨(.int .i64), .sh, i52⟩], .dead, .ref 40 (.root 0), .val false [⟨(.int .i64), .sh, i53⟩], .val false [⟨(.int .i64), .sh, i54⟩], .dead, .dead, .dead, .dead, .dead, .dead, .dead, .dead, .dead, .dead, .dead, .dead, .dead, .dead, .dead, .dead, .view 116 (.root 0) 1 false, .val false [⟨(.int .i64), .sh, i55⟩], .val false [⟨(.int .i64), .sh, i56⟩], .dead, .dead, .dead, .dead, .dead, .dead, .dead, .dead, .view 160 (.root 0) 1 false, .val false [⟨(.int .i64), .sh, i57⟩], .val false [⟨(.int .i64), .sh, i58⟩], .dead, .dead, .dead, .dead, .dead, .dead, .dead, .dead, .dead, .dead, .dead, .dead, .dead, .dead, .dead, .val false [⟨(.int .i64), .sh, i59⟩], .val false [⟨(.int .i64), .sh, i60⟩]] ++ deads 37, [(8, ⟨true, [⟨(.sl (.sl (.int .i64))), .sh, x61⟩, ⟨(.int .i64), .sh, i62⟩, ⟨(.sl (.int .i64)), .sh, x63⟩, ⟨(.sl TMatrix), .sh, x64⟩]⟩), (16, ⟨true, [⟨(.int .i64), .sh, i65⟩, ⟨(.int .i64), .sh, i66⟩, ⟨(.int .i64), .sh, i67⟩, ⟨(.sl (.int .i64)), .deep, x68⟩]⟩), (20, ⟨true, [⟨(.int .i64), .sh, i69⟩, ⟨(.int .i64), .sh, i70⟩, ⟨(.int .i64), .sh, i71⟩, ⟨(.sl (.int .i64)), .deep, x72⟩]⟩), (40, ⟨true, [⟨(.int .i64), .sh, i73⟩, ⟨(.int .i64), .sh, i74⟩, ⟨(.int .i64), .sh, i75⟩, ⟨(.sl (.int .i64)), .sh, x76⟩]⟩), (116, ⟨false, [⟨(.sl (.int .i64)), .deep, x77⟩]⟩), (160, ⟨false, [⟨(.sl (.int .i64)), .deep, x78⟩]⟩)]⟩
noncomputable def l15 (k : Nat) (i79 : Int) (i80 : Int) (i81 : Int) (i82 : Int) (i83 : Int) (i84 : Int) (i85 : Int) (i86 : Int) (i87 : Int) (i88 : Int) (i89 : Int) (i90 : Int) (i91 : Int) (i92 : Int) (x93 : List (List Int)) (i94 : Int) (x95 : List Int) (x96 : List (Int × Int × Int × List Int)) (i97 : Int) (i98 : Int) (i99 : Int) (x100 : List Int) (i101 : Int) (i102 : Int) (i103 : Int) (x104 : List Int) (i105 : Int) (i106 : Int) (i107 : Int) (x108 : List Int) (x109 : List Int) (x110 : List Int) : Option (((Int × Int × Int × List Int) × Unit) × (Unit)) :=
  Go.Vm.runT cfg fin k [.inLoop (sub [1, 1, 0, 1, 0, 0, 1, 1, 0, 0, 1, 1, 1, 0, 0, 1, 1, 0, 0, 1, 1, 1, 1, 0, 0, 1, 1, 0, 0, 1, 1, 0, 0] code), .inBlock 6, .inBlock 5, .code (sub [1, 1, 0, 1, 0, 0, 1, 1, 0, 0, 1, 1, 1, 0, 0, 1, 1, 0, 0, 1, 1, 1, 1, 0, 0, 1, 1, 1] code), .inLoop (sub [1, 1, 0, 1, 0, 0, 1, 1, 0, 0, 1, 1, 1, 0, 0, 1, 1, 0, 0, 1, 1, 1, 1, 0, 0] code), .inBlock 4, .inBlock 3, .code (sub [1, 1, 0, 1, 0, 0, 1, 1, 0, 0, 1, 1, 1, 0, 0, 1, 1, 1] code), .inLoop (sub [1, 1, 0, 1, 0, 0, 1, 1, 0, 0, 1, 1, 1, 0, 0] code), .inBlock 2, .inBlock 1, .code (sub [1, 1, 0, 1, 0, 0, 1, 1, 1] code), .inLoop (sub [1, 1, 0, 1, 0, 0] code), .inBlock 0, .code (sub [1, 1, 1] code)]
    ⟨[.dead, .val false [⟨(.int .i64), .sh, i79⟩], .ref 8 (.root 0), .dead, .ref 16 (.root 0), .ref 20 (.root 0), .dead, .val false [⟨(.int .i64), .sh, i80⟩], .val false [⟨(.int .i64), .sh, i81⟩], .dead, .ref 40 (.root 0), .val false [⟨(.int .i64), .sh, i82⟩], .val false [⟨(.int .i64), .sh, i83⟩], .val false [⟨(.int .i64), .sh, i84⟩], .dead, .dead, .dead, .dead, .dead, .dead, .dead, .dead, .dead, .dead, .dead, .dead, .dead, .dead, .dead, .view 116 (.root 0) 1 false, .val false [⟨(.int .i64), .sh, i85⟩], .val false [⟨(.int .i64), .sh, i86⟩], .dead, .dead, .dead, .dead, .dead, .dead, .dead, .dead, .view 160 (.root 0) 1 false, .val false [⟨(.int .i64), .sh, i87⟩], .val false [⟨(.int .i64), .sh, i88⟩], .dead, .dead, .dead, .dead, .dead, .dead, .dead, .dead, .dead, .dead, .dead, .dead, .dead, .dead, .dead, .val false [⟨(.int .i64), .sh, i89⟩], .val false [⟨(.int .i64), .sh, i90⟩], .dead, .dead, .dead, .val false [⟨(.int .i64), .sh, i91⟩], .val false [⟨(.int .i64), .sh, i92⟩]] ++ deads 32, [(8, ⟨true, [⟨(.sl (.sl (.int .i64))), .sh, x93⟩, ⟨(.int .i64), .sh, i94⟩, ⟨(.sl (.int .i64)), .sh, x95⟩, ⟨(.sl TMatrix), .sh, x96⟩]⟩), (16, ⟨true, [⟨(.int .i64), .sh, i97⟩, ⟨(.int .i64), .sh, i98⟩, ⟨(.int .i64), .sh, i99⟩, ⟨(.sl (.int .i64)), .deep, x100⟩]⟩), (20, ⟨true, [⟨(.int .i64), .sh, i101⟩, ⟨(.int .i64), .sh, i102⟩, ⟨(.int .i64), .sh, i103⟩, ⟨(.sl (.int .i64)), .deep, x104⟩]⟩), (40, ⟨true, [⟨(.int .i64), .sh, i105⟩, ⟨(.int .i64), .sh, i106⟩, ⟨(.int .i64), .sh, i107⟩, ⟨(.sl (.int .i64)), .sh, x108⟩]⟩), (116, ⟨false, [⟨(.sl (.int .i64)), .deep, x109⟩]⟩), (160, ⟨false, [⟨(.sl (.int .i64)), .deep, x110⟩]⟩)]⟩
theorem l3_eq (k : Nat) (i10 : Int) (i11 : Int) (i12 : Int) (x13 : List (List Int)) (i14 : Int) (x15 : List Int) (x16 : List (Int × Int × Int × List Int)) (i17 : Int) (i18 : Int) (i19 : Int) (x20 : List Int) (i21 : Int) (i22 : Int) (i23 : Int) (x24 : List Int) (x25 : List Int) : l3 (k + 1) i10 i11 i12 x13 i14 x15 x16 i17 i18 i19 x20 i21 i22 i23 x24 x25 =
  if (decide (i12 < i11)) = true then
    if 0 ≤ i12 ∧ i12 < (x25.length : Int) then
      if (decide (i10 < (0 : Int))) = true then
        some (((i21, (i22, (i23, x24))), ()), ())
      else
        (impl_faceIndices.F (x13, (x25.getD i12.toNat 0 : Int), ())).bind fun r26 =>
          l7 k i10 (x25.getD i12.toNat 0 : Int) i11 i12 (r26.1.1.length : Int) (0 : Int) x13 i14 x15 x16 i17 i18 i19 x20 i21 i22 i23 x24 x25 r26.1.1
    else
      none
  else
    some (((i21, (i22, (i23, x24))), ()), ()) := by kernel_rfl
theorem l7_eq (k : Nat) (i27 : Int) (i28 : Int) (i29 : Int) (i30 : Int) (i31 : Int) (i32 : Int) (x33 : List (List Int)) (i34 : Int) (x35 : List Int) (x36 : List (Int × Int × Int × List Int)) (i37 : Int) (i38 : Int) (i39 : Int) (x40 : List Int) (i41 : Int) (i42 : Int) (i43 : Int) (x44 : List Int) (x45 : List Int) (x46 : List Int) : l7 (k + 1) i27 i28 i29 i30 i31 i32 x33 i34 x35 x36 i37 i38 i39 x40 i41 i42 i43 x44 x45 x46 =
  if (decide (i32 < i31)) = true then
    if 0 ≤ i32 ∧ i32 < (x46.length : Int) then
      (impl_direct.F ((x33, (i34, (x35, x36))), i28, i32, ())).bind fun r47 =>
        (impl_firstColumn.F ((x33, (i34, (x35, x36))), i28, ())).bind fun r48 =>
          (impl_firstColumn.F ((x33, (i34, (x35, x36))), (x46.getD i32.toNat 0 : Int), ())).bind fun r49 =>
            l12 k i27 i28 i32 (r48.1.1 : Int) (r49.1.1 : Int) i29 i30 i31 i32 (r47.1.1.2.1 : Int) (0 : Int) x33 i34 x35 x36 i37 i38 i39 x40 i41 i42 i43 x44 (r47.1.1.1 : Int) (r47.1.1.2.1 : Int) (r47.1.1.2.2.1 : Int) r47.1.1.2.2.2 x45 x46
    else
      none
  else
    l3 k i27 i29 (IntKind.i64.wrap (i30 + (1 : Int))) x33 i34 x35 x36 i37 i38 i39 x40 i41 i42 i43 x44 x45 := by kernel_rfl
theorem l12_eq (k : Nat) (i50 : Int) (i51 : Int) (i52 : Int) (i53 : Int) (i54 : Int) (i55 : Int) (i56 : Int) (i57 : Int) (i58 : Int) (i59 : Int) (i60 : Int) (x61 : List (List Int)) (i62 : Int) (x63 : List Int) (x64 : List (Int × Int × Int × List Int)) (i65 : Int) (i66 : Int) (i67 : Int) (x68 : List Int) (i69 : Int) (i70 : Int) (i71 : Int) (x72 : List Int) (i73 : Int) (i74 : Int) (i75 : Int) (x76 : List Int) (x77 : List Int) (x78 : List Int) : l12 (k + 1) i50 i51 i52 i53 i54 i55 i56 i57 i58 i59 i60 x61 i62 x63 x64 i65 i66 i67 x68 i69 i70 i71 x72 i73 i74 i75 x76 x77 x78 =
  if (decide (i60 < i59)) = true then
    l15 k i50 i51 i52 i53 i54 i60 i55 i56 i57 i58 i59 i60 i75 (0 : Int) x61 i62 x63 x64 i65 i66 i67 x68 i69 i70 i71 x72 i73 i74 i75 x76 x77 x78
  else
    l7 k i50 i51 i55 i56 i57 (IntKind.i64.wrap (i58 + (1 : Int))) x61 i62 x63 x64 i65 i66 i67 x68 i69 i70 i71 x72 x77 x78 := by kernel_rfl
theorem l15_eq (k : Nat) (i79 : Int) (i80 : Int) (i81 : Int) (i82 : Int) (i83 : Int) (i84 : Int) (i85 : Int) (i86 : Int) (i87 : Int) (i88 : Int) (i89 : Int) (i90 : Int) (i91 : Int) (i92 : Int) (x93 : List (List Int)) (i94 : Int) (x95 : List Int) (x96 : List (Int × Int × Int × List Int)) (i97 : Int) (i98 : Int) (i99 : Int) (x100 : List Int) (i101 : Int) (i102 : Int) (i103 : Int) (x104 : List Int) (i105 : Int) (i106 : Int) (i107 : Int) (x108 : List Int) (x109 : List Int) (x110 : List Int) : l15 (k + 1) i79 i80 i81 i82 i83 i84 i85 i86 i87 i88 i89 i90 i91 i92 x93 i94 x95 x96 i97 i98 i99 x100 i101 i102 i103 x104 i105 i106 i107 x108 x109 x110 =
  if (decide (i92 < i91)) = true then
    (impl_Matrix_at.F ((i105, (i106, (i107, x108))), i84, i92, ())).bind fun r111 =>
      (impl_alternating.F (i81, i94, ())).bind fun r112 =>
        if i94 = 0 then
          none
        else
          if 0 ≤ (IntKind.i64.wrap ((IntKind.i64.wrap ((IntKind.i64.wrap ((IntKind.i64.wrap (i82 + i84)) * i103)) + i83)) + i92)) ∧ (IntKind.i64.wrap ((IntKind.i64.wrap ((IntKind.i64.wrap ((IntKind.i64.wrap (i82 + i84)) * i103)) + i83)) + i92)) < (x104.length : Int) then
            let y113 : List Int := x104.set (IntKind.i64.wrap ((IntKind.i64.wrap ((IntKind.i64.wrap ((IntKind.i64.wrap (i82 + i84)) * i103)) + i83)) + i92)).toNat ((IntKind.i64.wrap ((r111.1.1 : Int) * (r112.1.1 : Int))).tmod i94)
            l15 k i79 i80 i81 i82 i83 i84 i85 i86 i87 i88 i89 i90 i91 (IntKind.i64.wrap (i92 + (1 : Int))) x93 i94 x95 x96 i97 i98 i99 x100 i101 i102 i103 y113 i105 i106 i107 x108 x109 x110
          else
            none
  else
    l12 k i79 i80 i81 i82 i83 i85 i86 i87 i88 i89 (IntKind.i64.wrap (i90 + (1 : Int))) x93 i94 x95 x96 i97 i98 i99 x100 i101 i102 i103 x104 i105 i106 i107 x108 x109 x110 := by kernel_rfl
noncomputable def T (k : Nat) (toArray_1 : List (List Int)) (toArray_2 : Int) (toArray_3 : List Int) (toArray_4 : List (Int × Int × Int × List Int)) (a_5 : Int) : Option (((Int × Int × Int × List Int) × Unit) × (Unit)) :=
  (impl_stalkSum.F ((toArray_1, (toArray_2, (toArray_3, toArray_4))), IntKind.i64.wrap (a_5 + (1 : Int)), ())).bind fun r6 =>
    (impl_stalkSum.F ((toArray_1, (toArray_2, (toArray_3, toArray_4))), a_5, ())).bind fun r7 =>
      (impl_zero.F (toArray_2, (r6.1.1 : Int), (r7.1.1 : Int), ())).bind fun r8 =>
        (impl_simplicesOf.F (toArray_1, IntKind.i64.wrap (a_5 + (1 : Int)), ())).bind fun r9 =>
          l3 k a_5 (r9.1.1.length : Int) (0 : Int) toArray_1 toArray_2 toArray_3 toArray_4 0 0 0 ([]) (r8.1.1.1 : Int) (r8.1.1.2.1 : Int) (r8.1.1.2.2.1 : Int) r8.1.1.2.2.2 r9.1.1
theorem of (toArray_1 : List (List Int)) (toArray_2 : Int) (toArray_3 : List Int) (toArray_4 : List (Int × Int × Int × List Int)) (a_5 : Int) {r : ((Int × Int × Int × List Int) × Unit) × (Unit)} (h : Ev (fun k => T k toArray_1 toArray_2 toArray_3 toArray_4 a_5) r) : F ((toArray_1, (toArray_2, (toArray_3, toArray_4))), a_5, ()) = some r := Ev.run (fun k => by kernel_rfl) h
theorem ok : CtxOK prog ctx := ⟨nilM, mixed_ok, tab_ok tab_good, consM ⟨impl_stalkSum.S, consM ⟨impl_simplicesOf.S, consM ⟨impl_direct.S, consM ⟨impl_zero.S, consM ⟨impl_Matrix_at.S, consM ⟨impl_faceIndices.S, consM ⟨impl_firstColumn.S, consM ⟨impl_alternating.S, nilM⟩⟩⟩⟩⟩⟩⟩⟩, nilM, nilM⟩
theorem S : Sound prog ⟨70, sig, F⟩ := sound_k (res := [.cell 4 87]) func70 ok
end impl_coboundaryMatrix
namespace impl_apply
noncomputable def sig : Sig := ⟨[.val true TMatrix, .val false (.sl (.int .i64))], [(.val false, (.sl (.int .i64)), .deep)]⟩
noncomputable def ctx : Ctx := ⟨tabOf tabl, [⟨173, impl_dot.sig, impl_dot.F⟩, ⟨174, impl_Matrix_row.sig, impl_Matrix_row.F⟩], [], [], [], []⟩
noncomputable def cfg : Cfg := ⟨ctx, [], [], fun id => match id with | 3 => ([1, 2, 5, 8, 9], [8, 20]) | _ => ([], []), fun _ => []⟩
noncomputable def code : Code := (f80).body.getD .skip
noncomputable def fin := finK ctx sig [.tmp 4]
noncomputable def F (d : (Int × Int × Int × List Int) × List Int × Unit) : Option ((List Int × Unit) × (Unit)) := anyK (runFn cfg fin code (initSt sig.ps d 24))
noncomputable def l3 (k : Nat) (x6 : List Int) (i7 : Int) (i8 : Int) (i9 : Int) (i10 : Int) (i11 : Int) (x12 : List Int) (x13 : List Int) : Option ((List Int × Unit) × (Unit)) :=
  Go.Vm.runT cfg fin k [.inLoop (sub [1, 1, 0, 1, 0, 0] code), .inBlock 0, .code (sub [1, 1, 1] code)]
    ⟨[.dead, .val false [⟨(.sl (.int .i64)), .sh, x6⟩], .ref 8 (.root 0), .dead, .dead, .view 20 (.root 0) 1 false, .dead, .dead, .val false [⟨(.int .i64), .sh, i7⟩], .val false [⟨(.int .i64), .sh, i8⟩]] ++ deads 14, [(8, ⟨true, [⟨(.int .i64), .sh, i9⟩, ⟨(.int .i64), .sh, i10⟩, ⟨(.int .i64), .sh, i11⟩, ⟨(.sl (.int .i64)), .sh, x12⟩]⟩), (20, ⟨false, [⟨(.sl (.int .i64)), .deep, x13⟩]⟩)]⟩
theorem l3_eq (k : Nat) (x6 : List Int) (i7 : Int) (i8 : Int) (i9 : Int) (i10 : Int) (i11 : Int) (x12 : List Int) (x13 : List Int) : l3 (k + 1) x6 i7 i8 i9 i10 i11 x12 x13 =
  if (decide (i8 < i7)) = true then
    (impl_Matrix_row.F ((i9, (i10, (i11, x12))), i8, ())).bind fun r14 =>
      (impl_dot.F (r14.1.1, x6, i9, ())).bind fun r15 =>
        if x13.length + ([(r15.1.1 : Int)] : List Int).length ≤ bigA then
          l3 k x6 i7 (IntKind.i64.wrap (i8 + (1 : Int))) i9 i10 i11 x12 (x13 ++ ([(r15.1.1 : Int)]))
        else
          none
  else
    some ((x13, ()), ()) := by kernel_rfl
noncomputable def T (k : Nat) (m_1 : Int) (m_2 : Int) (m_3 : Int) (m_4 : List Int) (v_5 : List Int) : Option ((List Int × Unit) × (Unit)) :=
  l3 k v_5 m_2 (0 : Int) m_1 m_2 m_3 m_4 ([])
theorem of (m_1 : Int) (m_2 : Int) (m_3 : Int) (m_4 : List Int) (v_5 : List Int) {r : (List Int × Unit) × (Unit)} (h : Ev (fun k => T k m_1 m_2 m_3 m_4 v_5) r) : F ((m_1, (m_2, (m_3, m_4))), v_5, ()) = some r := Ev.run (fun k => by kernel_rfl) h
theorem ok : CtxOK prog ctx := ⟨nilM, mixed_ok, tab_ok tab_good, consM ⟨impl_dot.S, consM ⟨impl_Matrix_row.S, nilM⟩⟩, nilM, nilM⟩
theorem S : Sound prog ⟨80, sig, F⟩ := sound_k (res := [.tmp 4]) func80 ok
end impl_apply
namespace impl_isVector
noncomputable def sig : Sig := ⟨[.val false (.sl (.int .i64)), .val false (.int .i64), .val false (.int .i64)], [(.val false, .bool, .deep)]⟩
noncomputable def ctx : Ctx := ⟨tabOf tabl, [⟨161, impl_size_int64.sig, impl_size_int64.F⟩, ⟨199, impl_areElements.sig, impl_areElements.F⟩], [], [], [], []⟩
noncomputable def cfg : Cfg := ⟨ctx, [], [], fun _ => ([], []), fun _ => []⟩
noncomputable def code : Code := (f105).body.getD .skip
noncomputable def fin := finK ctx sig [.tmp 6]
noncomputable def F (d : List Int × Int × Int × Unit) : Option ((Bool × Unit) × (Unit)) := anyK (runFn cfg fin code (initSt sig.ps d 16))
noncomputable def T (x_1 : List Int) (length_2 : Int) (p_3 : Int) : Option ((Bool × Unit) × (Unit)) :=
  (impl_size_int64.F (x_1, ())).bind fun r4 =>
    if ((r4.1.1 : Int) == length_2) = true then
      (impl_areElements.F (x_1, p_3, ())).bind fun r5 =>
        some (((r5.1.1 : Bool), ()), ())
    else
      some ((false, ()), ())
theorem eq (x_1 : List Int) (length_2 : Int) (p_3 : Int) : F (x_1, length_2, p_3, ()) = T x_1 length_2 p_3 := eq_any fun k => by kernel_rfl
theorem ok : CtxOK prog ctx := ⟨nilM, mixed_ok, tab_ok tab_good, consM ⟨impl_size_int64.S, consM ⟨impl_areElements.S, nilM⟩⟩, nilM, nilM⟩
theorem S : Sound prog ⟨105, sig, F⟩ := sound_k (res := [.tmp 6]) func105 ok
end impl_isVector
namespace impl_isZero_1
noncomputable def sig : Sig := ⟨[.val false (.int .i64)], [(.val false, .bool, .deep)]⟩
noncomputable def ctx : Ctx := ⟨tabOf tabl, [], [], [], [], []⟩
noncomputable def cfg : Cfg := ⟨ctx, [], [], fun _ => ([], []), fun _ => []⟩
noncomputable def code : Code := (f249).body.getD .skip
noncomputable def fin := finK ctx sig [.tmp 2]
noncomputable def F (d : Int × Unit) : Option ((Bool × Unit) × (Unit)) := anyK (runFn cfg fin code (initSt sig.ps d 5))
noncomputable def T (x_1 : Int) : Option ((Bool × Unit) × (Unit)) :=
  some ((x_1 != (0 : Int), ()), ())
theorem eq (x_1 : Int) : F (x_1, ()) = T x_1 := eq_any fun k => by kernel_rfl
theorem ok : CtxOK prog ctx := ⟨nilM, mixed_ok, tab_ok tab_good, nilM, nilM, nilM⟩
theorem S : Sound prog ⟨249, sig, F⟩ := sound_k (res := [.tmp 2]) func249 ok
noncomputable def cloG (y : Unit) (d : Int × Unit) : Option (Bool × Unit) := (F (joinIns [] [(false, (.int .i64))] d y)).map (·.1)
noncomputable def clo : Clo := ⟨249, ⟨[(false, (.int .i64))], [(.val false, .bool, .deep)]⟩, [], cloG⟩
theorem cloS : SoundClo prog clo := sound_clo (s := ⟨[(false, (.int .i64))], [(.val false, .bool, .deep)]⟩) (caps := []) rfl S
end impl_isZero_1
namespace impl_isZero
noncomputable def sig : Sig := ⟨[.val false (.sl (.int .i64))], [(.val false, .bool, .deep)]⟩
noncomputable def ctx : Ctx := ⟨tabOf tabl, [⟨119, slices_ContainsFunc_Lint64_int64.sig, slices_ContainsFunc_Lint64_int64.F⟩], [impl_isZero_1.clo], [], [], []⟩
noncomputable def cfg : Cfg := ⟨ctx, [], [], fun _ => ([], []), fun _ => []⟩
noncomputable def code : Code := (f172).body.getD .skip
noncomputable def fin := finK ctx sig [.tmp 2]
noncomputable def F (d : List Int × Unit) : Option ((Bool × Unit) × (Unit)) := anyK (runFn cfg fin code (initSt sig.ps d 6))
noncomputable def T (list_1 : List Int) : Option ((Bool × Unit) × (Unit)) :=
  (slices_ContainsFunc_Lint64_int64.F (list_1, impl_isZero_1.cloG (()), ())).bind fun r2 =>
    some ((!(r2.1.1 : Bool), ()), ())
theorem eq (list_1 : List Int) : F (list_1, ()) = T list_1 := eq_any fun k => by kernel_rfl
theorem ok : CtxOK prog ctx := ⟨nilM, mixed_ok, tab_ok tab_good, consM ⟨slices_ContainsFunc_Lint64_int64.S, nilM⟩, consM ⟨impl_isZero_1.cloS, nilM⟩, nilM⟩
theorem S : Sound prog ⟨172, sig, F⟩ := sound_k (res := [.tmp 2]) func172 ok
end impl_isZero
namespace impl_isSection
noncomputable def sig : Sig := ⟨[.val true TSheaf, .val false (.sl (.int .i64))], [(.val false, .bool, .deep)]⟩
noncomputable def ctx : Ctx := ⟨tabOf tabl, [⟨68, impl_stalkSum.sig, impl_stalkSum.F⟩, ⟨70, impl_coboundaryMatrix.sig, impl_coboundaryMatrix.F⟩, ⟨80, impl_apply.sig, impl_apply.F⟩, ⟨105, impl_isVector.sig, impl_isVector.F⟩, ⟨172, impl_isZero.sig, impl_isZero.F⟩], [], [], [], []⟩
noncomputable def cfg : Cfg := ⟨ctx, [], [], fun _ => ([], []), fun _ => []⟩
noncomputable def code : Code := (f78).body.getD .skip
noncomputable def fin := finK ctx sig [.tmp 4]
noncomputable def F (d : (List (List Int) × Int × List Int × List (Int × Int × Int × List Int)) × List Int × Unit) : Option ((Bool × Unit) × (Unit)) := anyK (runFn cfg fin code (initSt sig.ps d 18))
noncomputable def T (s_1 : List (List Int)) (s_2 : Int) (s_3 : List Int) (s_4 : List (Int × Int × Int × List Int)) (x_5 : List Int) : Option ((Bool × Unit) × (Unit)) :=
  (impl_stalkSum.F ((s_1, (s_2, (s_3, s_4))), (0 : Int), ())).bind fun r6 =>
    (impl_isVector.F (x_5, (r6.1.1 : Int), s_2, ())).bind fun r7 =>
      if (r7.1.1 : Bool) = true then
        (impl_coboundaryMatrix.F ((s_1, (s_2, (s_3, s_4))), (0 : Int), ())).bind fun r8 =>
          (impl_apply.F (r8.1.1, x_5, ())).bind fun r9 =>
            (impl_isZero.F (r9.1.1, ())).bind fun r10 =>
              some (((r10.1.1 : Bool), ()), ())
      else
        some ((false, ()), ())
theorem eq (s_1 : List (List Int)) (s_2 : Int) (s_3 : List Int) (s_4 : List (Int × Int × Int × List Int)) (x_5 : List Int) : F ((s_1, (s_2, (s_3, s_4))), x_5, ()) = T s_1 s_2 s_3 s_4 x_5 := eq_any fun k => by kernel_rfl
theorem ok : CtxOK prog ctx := ⟨nilM, mixed_ok, tab_ok tab_good, consM ⟨impl_stalkSum.S, consM ⟨impl_coboundaryMatrix.S, consM ⟨impl_apply.S, consM ⟨impl_isVector.S, consM ⟨impl_isZero.S, nilM⟩⟩⟩⟩⟩, nilM, nilM⟩
theorem S : Sound prog ⟨78, sig, F⟩ := sound_k (res := [.tmp 4]) func78 ok
end impl_isSection
namespace impl_part
noncomputable def sig : Sig := ⟨[.val true TSheaf, .val false (.sl (.int .i64)), .val false (.int .i64)], [(.val false, (.sl (.int .i64)), .deep)]⟩
noncomputable def ctx : Ctx := ⟨tabOf tabl, [⟨157, slices_Clone_Lint64_int64.sig, slices_Clone_Lint64_int64.F⟩, ⟨163, impl_firstColumn.sig, impl_firstColumn.F⟩], [], [], [], []⟩
noncomputable def cfg : Cfg := ⟨ctx, [], [], fun _ => ([], []), fun _ => []⟩
noncomputable def code : Code := (f81).body.getD .skip
noncomputable def fin := finK ctx sig [.tmp 6]
noncomputable def F (d : (List (List Int) × Int × List Int × List (Int × Int × Int × List Int)) × List Int × Int × Unit) : Option ((List Int × Unit) × (Unit)) := anyK (runFn cfg fin code (initSt sig.ps d 22))
noncomputable def T (s_1 : List (List Int)) (s_2 : Int) (s_3 : List Int) (s_4 : List (Int × Int × Int × List Int)) (x_5 : List Int) (simplex_6 : Int) : Option ((List Int × Unit) × (Unit)) :=
  (impl_firstColumn.F ((s_1, (s_2, (s_3, s_4))), simplex_6, ())).bind fun r7 =>
    if 0 ≤ simplex_6 ∧ simplex_6 < (s_3.length : Int) then
      if 0 ≤ (r7.1.1 : Int) ∧ (r7.1.1 : Int) ≤ (IntKind.i64.wrap ((r7.1.1 : Int) + (s_3.getD simplex_6.toNat 0 : Int))) ∧ (IntKind.i64.wrap ((r7.1.1 : Int) + (s_3.getD simplex_6.toNat 0 : Int))) ≤ (x_5.length : Int) then
        (slices_Clone_Lint64_int64.F (cutL x_5 (r7.1.1 : Int) (IntKind.i64.wrap ((r7.1.1 : Int) + (s_3.getD simplex_6.toNat 0 : Int))), ())).bind fun r8 =>
          some ((r8.1.1, ()), ())
      else
        none
    else
      none
theorem eq (s_1 : List (List Int)) (s_2 : Int) (s_3 : List Int) (s_4 : List (Int × Int × Int × List Int)) (x_5 : List Int) (simplex_6 : Int) : F ((s_1, (s_2, (s_3, s_4))), x_5, simplex_6, ()) = T s_1 s_2 s_3 s_4 x_5 simplex_6 := eq_any fun k => by kernel_rfl
theorem ok : CtxOK prog ctx := ⟨nilM, mixed_ok, tab_ok tab_good, consM ⟨slices_Clone_Lint64_int64.S, consM ⟨impl_firstColumn.S, nilM⟩⟩, nilM, nilM⟩
theorem S : Sound prog ⟨81, sig, F⟩ := sound_k (res := [.tmp 6]) func81 ok
end impl_part
namespace impl_MapSection
noncomputable def sig : Sig := ⟨[.val true TSheaf, .val true TSheaf, .val false (.sl TMatrix), .val false (.sl (.int .i64))], [(.val false, (.sl (.int .i64)), .deep), (.val false, (.int .i64), .deep)]⟩
noncomputable def ctx : Ctx := ⟨tabOf tabl, [⟨77, impl_withMorphism.sig, impl_withMorphism.F⟩, ⟨78, impl_isSection.sig, impl_isSection.F⟩, ⟨79, impl_simplicesOf.sig, impl_simplicesOf.F⟩, ⟨80, impl_apply.sig, impl_apply.F⟩, ⟨81, impl_part.sig, impl_part.F⟩], [], [], [], []⟩
noncomputable def cfg : Cfg := ⟨ctx, [], [], fun id => match id with | 8 => ([2, 3, 4, 11, 27, 28, 29], [16, 44, 108]) | _ => ([], []), fun _ => []⟩
noncomputable def code : Code := (f30).body.getD .skip
noncomputable def fin := finK ctx sig [.tmp 8, .tmp 9]
noncomputable def F (d : (List (List Int) × Int × List Int × List (Int × Int × Int × List Int)) × (List (List Int) × Int × List Int × List (Int × Int × Int × List Int)) × List (Int × Int × Int × List Int) × List Int × Unit) : Option ((List Int × Int × Unit) × (Unit)) := anyK (runFn cfg fin code (initSt sig.ps d 46))
noncomputable def l8 (k : Nat) (x14 : List (Int × Int × Int × List Int)) (x15 : List Int) (i16 : Int) (i17 : Int) (x18 : List (List Int)) (i19 : Int) (x20 : List Int) (x21 : List (Int × Int × Int × List Int)) (x22 : List Int) (x23 : List Int) : Option ((List Int × Int × Unit) × (Unit)) :=
  Go.Vm.runT cfg fin k [.inLoop (sub [1, 1, 1, 1, 0, 1, 0, 0] code), .inBlock 0, .code (sub [1, 1, 1, 1, 1] code)]
    ⟨[.dead, .dead, .val false [⟨(.sl TMatrix), .sh, x14⟩], .val false [⟨(.sl (.int .i64)), .sh, x15⟩], .ref 16 (.root 0), .dead, .dead, .dead, .dead, .dead, .dead, .view 44 (.root 0) 1 false, .dead, .dead, .dead, .dead, .dead, .dead, .dead, .dead, .dead, .dead, .dead, .dead, .dead, .dead, .dead, .view 108 (.root 0) 1 false, .val false [⟨(.int .i64), .sh, i16⟩], .val false [⟨(.int .i64), .sh, i17⟩]] ++ deads 16, [(16, ⟨true, [⟨(.sl (.sl (.int .i64))), .sh, x18⟩, ⟨(.int .i64), .sh, i19⟩, ⟨(.sl (.int .i64)), .sh, x20⟩, ⟨(.sl TMatrix), .sh, x21⟩]⟩), (44, ⟨false, [⟨(.sl (.int .i64)), .deep, x22⟩]⟩), (108, ⟨false, [⟨(.sl (.int .i64)), .deep, x23⟩]⟩)]⟩
theorem l8_eq (k : Nat) (x14 : List (Int × Int × Int × List Int)) (x15 : List Int) (i16 : Int) (i17 : Int) (x18 : List (List Int)) (i19 : Int) (x20 : List Int) (x21 : List (Int × Int × Int × List Int)) (x22 : List Int) (x23 : List Int) : l8 (k + 1) x14 x15 i16 i17 x18 i19 x20 x21 x22 x23 =
  if (decide (i17 < i16)) = true then
    if 0 ≤ i17 ∧ i17 < (x23.length : Int) then
      if 0 ≤ (x23.getD i17.toNat 0 : Int) ∧ (x23.getD i17.toNat 0 : Int) < (x14.length : Int) then
        (impl_part.F ((x18, (i19, (x20, x21))), x15, (x23.getD i17.toNat 0 : Int), ())).bind fun r24 =>
          (impl_apply.F (x14.getD (x23.getD i17.toNat 0 : Int).toNat (0, 0, 0, ([] : List Int)), r24.1.1, ())).bind fun r25 =>
            if x22.length + r25.1.1.length ≤ bigA then
              l8 k x14 x15 i16 (IntKind.i64.wrap (i17 + (1 : Int))) x18 i19 x20 x21 (x22 ++ r25.1.1) x23
            else
              none
      else
        none
    else
      none
  else
    some ((x22, ((0 : Int), ())), ()) := by kernel_rfl
noncomputable def T (k : Nat) (a_1 : List (List Int)) (a_2 : Int) (a_3 : List Int) (a_4 : List (Int × Int × Int × List Int)) (b_5 : List (List Int)) (b_6 : Int) (b_7 : List Int) (b_8 : List (Int × Int × Int × List Int)) (parts_9 : List (Int × Int × Int × List Int)) (x_10 : List Int) : Option ((List Int × Int × Unit) × (Unit)) :=
  (impl_withMorphism.F ((a_1, (a_2, (a_3, a_4))), (b_5, (b_6, (b_7, b_8))), parts_9, ())).bind fun r11 =>
    if ((r11.1.1 : Int) != (0 : Int)) = true then
      some (([], ((r11.1.1 : Int), ())), ())
    else
      (impl_isSection.F ((a_1, (a_2, (a_3, a_4))), x_10, ())).bind fun r12 =>
        if (!(r12.1.1 : Bool)) = true then
          some (([], ((2 : Int), ())), ())
        else
          (impl_simplicesOf.F (a_1, (0 : Int), ())).bind fun r13 =>
            l8 k parts_9 x_10 (r13.1.1.length : Int) (0 : Int) a_1 a_2 a_3 a_4 ([]) r13.1.1
theorem of (a_1 : List (List Int)) (a_2 : Int) (a_3 : List Int) (a_4 : List (Int × Int × Int × List Int)) (b_5 : List (List Int)) (b_6 : Int) (b_7 : List Int) (b_8 : List (Int × Int × Int × List Int)) (parts_9 : List (Int × Int × Int × List Int)) (x_10 : List Int) {r : (List Int × Int × Unit) × (Unit)} (h : Ev (fun k => T k a_1 a_2 a_3 a_4 b_5 b_6 b_7 b_8 parts_9 x_10) r) : F ((a_1, (a_2, (a_3, a_4))), (b_5, (b_6, (b_7, b_8))), parts_9, x_10, ()) = some r := Ev.run (fun k => by kernel_rfl) h
theorem ok : CtxOK prog ctx := ⟨nilM, mixed_ok, tab_ok tab_good, consM ⟨impl_withMorphism.S, consM ⟨impl_isSection.S, consM ⟨impl_simplicesOf.S, consM ⟨impl_apply.S, consM ⟨impl_part.S, nilM⟩⟩⟩⟩⟩, nilM, nilM⟩
theorem S : Sound prog ⟨30, sig, F⟩ := sound_k (res := [.tmp 8, .tmp 9]) func30 ok
end impl_MapSection
namespace laws_eqMatrix
noncomputable def sig : Sig := ⟨[.val true TMatrix, .val true TMatrix], [(.val false, .bool, .deep)]⟩
noncomputable def ctx : Ctx := ⟨tabOf tabl, [⟨19, laws_eqInt64S.sig, laws_eqInt64S.F⟩], [], [], [], []⟩
noncomputable def cfg : Cfg := ⟨ctx, [], [], fun _ => ([], []), fun _ => []⟩
noncomputable def code : Code := (f82).body.getD .skip
noncomputable def fin := finK ctx sig [.tmp 4]
noncomputable def F (d : (Int × Int × Int × List Int) × (Int × Int × Int × List Int) × Unit) : Option ((Bool × Unit) × (Unit)) := anyK (runFn cfg fin code (initSt sig.ps d 26))
noncomputable def T (a_1 : Int) (a_2 : Int) (a_3 : Int) (a_4 : List Int) (b_5 : Int) (b_6 : Int) (b_7 : Int) (b_8 : List Int) : Option ((Bool × Unit) × (Unit)) :=
  if (a_1 != b_5) = true then
    some ((false, ()), ())
  else
    if (a_2 != b_6) = true then
      some ((false, ()), ())
    else
      if (a_3 != b_7) = true then
        some ((false, ()), ())
      else
        (laws_eqInt64S.F (a_4, b_8, ())).bind fun r9 =>
          if (!(r9.1.1 : Bool)) = true then
            some ((false, ()), ())
          else
            some ((true, ()), ())
theorem eq (a_1 : Int) (a_2 : Int) (a_3 : Int) (a_4 : List Int) (b_5 : Int) (b_6 : Int) (b_7 : Int) (b_8 : List Int) : F ((a_1, (a_2, (a_3, a_4))), (b_5, (b_6, (b_7, b_8))), ()) = T a_1 a_2 a_3 a_4 b_5 b_6 b_7 b_8 := eq_any fun k => by kernel_rfl
theorem ok : CtxOK prog ctx := ⟨nilM, mixed_ok, tab_ok tab_good, consM ⟨laws_eqInt64S.S, nilM⟩, nilM, nilM⟩
theorem S : Sound prog ⟨82, sig, F⟩ := sound_k (res := [.tmp 4]) func82 ok
end laws_eqMatrix
namespace laws_eqMatrixS
noncomputable def sig : Sig := ⟨[.val false (.sl TMatrix), .val false (.sl TMatrix)], [(.val false, .bool, .deep)]⟩
noncomputable def ctx : Ctx := ⟨tabOf tabl, [⟨82, laws_eqMatrix.sig, laws_eqMatrix.F⟩], [], [], [], []⟩
noncomputable def cfg : Cfg := ⟨ctx, [], [], fun id => match id with | 4 => ([0, 1, 5], []) | _ => ([], []), fun _ => []⟩
noncomputable def code : Code := (f32).body.getD .skip
noncomputable def fin := finK ctx sig [.tmp 4]
noncomputable def F (d : List (Int × Int × Int × List Int) × List (Int × Int × Int × List Int) × Unit) : Option ((Bool × Unit) × (Unit)) := anyK (runFn cfg fin code (initSt sig.ps d 27))
noncomputable def l4 (k : Nat) (x3 : List (Int × Int × Int × List Int)) (x4 : List (Int × Int × Int × List Int)) (i5 : Int) : Option ((Bool × Unit) × (Unit)) :=
  Go.Vm.runT cfg fin k [.inLoop (sub [1, 1, 0, 1, 0, 0] code), .inBlock 0, .code (sub [1, 1, 1] code)]
    ⟨[.val false [⟨(.sl TMatrix), .sh, x3⟩], .val false [⟨(.sl TMatrix), .sh, x4⟩], .dead, .dead, .dead, .val false [⟨(.int .i64), .sh, i5⟩]] ++ deads 21, []⟩
theorem l4_eq (k : Nat) (x3 : List (Int × Int × Int × List Int)) (x4 : List (Int × Int × Int × List Int)) (i5 : Int) : l4 (k + 1) x3 x4 i5 =
  if (decide (i5 < (x3.length : Int))) = true then
    if 0 ≤ i5 ∧ i5 < (x3.length : Int) then
      if 0 ≤ i5 ∧ i5 < (x4.length : Int) then
        (laws_eqMatrix.F (x3.getD i5.toNat (0, 0, 0, ([] : List Int)), x4.getD i5.toNat (0, 0, 0, ([] : List Int)), ())).bind fun r6 =>
          if (!(r6.1.1 : Bool)) = true then
            some ((false, ()), ())
          else
            l4 k x3 x4 (IntKind.i64.wrap (i5 + (1 : Int)))
      else
        none
    else
      none
  else
    some ((true, ()), ()) := by kernel_rfl
noncomputable def T (k : Nat) (a_1 : List (Int × Int × Int × List Int)) (b_2 : List (Int × Int × Int × List Int)) : Option ((Bool × Unit) × (Unit)) :=
  if ((a_1.length : Int) != (b_2.length : Int)) = true then
    some ((false, ()), ())
  else
    l4 k a_1 b_2 (0 : Int)
theorem of (a_1 : List (Int × Int × Int × List Int)) (b_2 : List (Int × Int × Int × List Int)) {r : (Bool × Unit) × (Unit)} (h : Ev (fun k => T k a_1 b_2) r) : F (a_1, b_2, ()) = some r := Ev.run (fun k => by kernel_rfl) h
theorem ok : CtxOK prog ctx := ⟨nilM, mixed_ok, tab_ok tab_good, consM ⟨laws_eqMatrix.S, nilM⟩, nilM, nilM⟩
theorem S : Sound prog ⟨32, sig, F⟩ := sound_k (res := [.tmp 4]) func32 ok
end laws_eqMatrixS
namespace laws_eqInt64SS
noncomputable def sig : Sig := ⟨[.val false (.sl (.sl (.int .i64))), .val false (.sl (.sl (.int .i64)))], [(.val false, .bool, .deep)]⟩
noncomputable def ctx : Ctx := ⟨tabOf tabl, [⟨19, laws_eqInt64S.sig, laws_eqInt64S.F⟩], [], [], [], []⟩
noncomputable def cfg : Cfg := ⟨ctx, [], [], fun id => match id with | 4 => ([0, 1, 5], []) | _ => ([], []), fun _ => []⟩
noncomputable def code : Code := (f89).body.getD .skip
noncomputable def fin := finK ctx sig [.tmp 4]
noncomputable def F (d : List (List Int) × List (List Int) × Unit) : Option ((Bool × Unit) × (Unit)) := anyK (runFn cfg fin code (initSt sig.ps d 27))
noncomputable def l4 (k : Nat) (x3 : List (List Int)) (x4 : List (List Int)) (i5 : Int) : Option ((Bool × Unit) × (Unit)) :=
  Go.Vm.runT cfg fin k [.inLoop (sub [1, 1, 0, 1, 0, 0] code), .inBlock 0, .code (sub [1, 1, 1] code)]
    ⟨[.val false [⟨(.sl (.sl (.int .i64))), .sh, x3⟩], .val false [⟨(.sl (.sl (.int .i64))), .sh, x4⟩], .dead, .dead, .dead, .val false [⟨(.int .i64), .sh, i5⟩]] ++ deads 21, []⟩
theorem l4_eq (k : Nat) (x3 : List (List Int)) (x4 : List (List Int)) (i5 : Int) : l4 (k + 1) x3 x4 i5 =
  if (decide (i5 < (x3.length : Int))) = true then
    if 0 ≤ i5 ∧ i5 < (x3.length : Int) then
      if 0 ≤ i5 ∧ i5 < (x4.length : Int) then
        (laws_eqInt64S.F (x3.getD i5.toNat ([] : List Int), x4.getD i5.toNat ([] : List Int), ())).bind fun r6 =>
          if (!(r6.1.1 : Bool)) = true then
            some ((false, ()), ())
          else
            l4 k x3 x4 (IntKind.i64.wrap (i5 + (1 : Int)))
      else
        none
    else
      none
  else
    some ((true, ()), ()) := by kernel_rfl
noncomputable def T (k : Nat) (a_1 : List (List Int)) (b_2 : List (List Int)) : Option ((Bool × Unit) × (Unit)) :=
  if ((a_1.length : Int) != (b_2.length : Int)) = true then
    some ((false, ()), ())
  else
    l4 k a_1 b_2 (0 : Int)
theorem of (a_1 : List (List Int)) (b_2 : List (List Int)) {r : (Bool × Unit) × (Unit)} (h : Ev (fun k => T k a_1 b_2) r) : F (a_1, b_2, ()) = some r := Ev.run (fun k => by kernel_rfl) h
theorem ok : CtxOK prog ctx := ⟨nilM, mixed_ok, tab_ok tab_good, consM ⟨laws_eqInt64S.S, nilM⟩, nilM, nilM⟩
theorem S : Sound prog ⟨89, sig, F⟩ := sound_k (res := [.tmp 4]) func89 ok
end laws_eqInt64SS
namespace laws_eqComplex
noncomputable def sig : Sig := ⟨[.val true (.sl (.sl (.int .i64))), .val true (.sl (.sl (.int .i64)))], [(.val false, .bool, .deep)]⟩
noncomputable def ctx : Ctx := ⟨tabOf tabl, [⟨89, laws_eqInt64SS.sig, laws_eqInt64SS.F⟩], [], [], [], []⟩
noncomputable def cfg : Cfg := ⟨ctx, [], [], fun _ => ([], []), fun _ => []⟩
noncomputable def code : Code := (f39).body.getD .skip
noncomputable def fin := finK ctx sig [.tmp 4]
noncomputable def F (d : List (List Int) × List (List Int) × Unit) : Option ((Bool × Unit) × (Unit)) := anyK (runFn cfg fin code (initSt sig.ps d 11))
noncomputable def T (a_1 : List (List Int)) (b_2 : List (List Int)) : Option ((Bool × Unit) × (Unit)) :=
  (laws_eqInt64SS.F (a_1, b_2, ())).bind fun r3 =>
    if (!(r3.1.1 : Bool)) = true then
      some ((false, ()), ())
    else
      some ((true, ()), ())
theorem eq (a_1 : List (List Int)) (b_2 : List (List Int)) : F (a_1, b_2, ()) = T a_1 b_2 := eq_any fun k => by kernel_rfl
theorem ok : CtxOK prog ctx := ⟨nilM, mixed_ok, tab_ok tab_good, consM ⟨laws_eqInt64SS.S, nilM⟩, nilM, nilM⟩
theorem S : Sound prog ⟨39, sig, F⟩ := sound_k (res := [.tmp 4]) func39 ok
end laws_eqComplex
namespace laws_eqSheaf
noncomputable def sig : Sig := ⟨[.val true TSheaf, .val true TSheaf], [(.val false, .bool, .deep)]⟩
noncomputable def ctx : Ctx := ⟨tabOf tabl, [⟨19, laws_eqInt64S.sig, laws_eqInt64S.F⟩, ⟨32, laws_eqMatrixS.sig, laws_eqMatrixS.F⟩, ⟨39, laws_eqComplex.sig, laws_eqComplex.F⟩], [], [], [], []⟩
noncomputable def cfg : Cfg := ⟨ctx, [], [], fun _ => ([], []), fun _ => []⟩
noncomputable def code : Code := (f31).body.getD .skip
noncomputable def fin := finK ctx sig [.tmp 4]
noncomputable def F (d : (List (List Int) × Int × List Int × List (Int × Int × Int × List Int)) × (List (List Int) × Int × List Int × List (Int × Int × Int × List Int)) × Unit) : Option ((Bool × Unit) × (Unit)) := anyK (runFn cfg fin code (initSt sig.ps d 28))
noncomputable def T (a_1 : List (List Int)) (a_2 : Int) (a_3 : List Int) (a_4 : List (Int × Int × Int × List Int)) (b_5 : List (List Int)) (b_6 : Int) (b_7 : List Int) (b_8 : List (Int × Int × Int × List Int)) : Option ((Bool × Unit) × (Unit)) :=
  (laws_eqComplex.F (a_1, b_5, ())).bind fun r9 =>
    if (!(r9.1.1 : Bool)) = true then
      some ((false, ()), ())
    else
      if (a_2 != b_6) = true then
        some ((false, ()), ())
      else
        (laws_eqInt64S.F (a_3, b_7, ())).bind fun r10 =>
          if (!(r10.1.1 : Bool)) = true then
            some ((false, ()), ())
          else
            (laws_eqMatrixS.F (a_4, b_8, ())).bind fun r11 =>
              if (!(r11.1.1 : Bool)) = true then
                some ((false, ()), ())
              else
                some ((true, ()), ())
theorem eq (a_1 : List (List Int)) (a_2 : Int) (a_3 : List Int) (a_4 : List (Int × Int × Int × List Int)) (b_5 : List (List Int)) (b_6 : Int) (b_7 : List Int) (b_8 : List (Int × Int × Int × List Int)) : F ((a_1, (a_2, (a_3, a_4))), (b_5, (b_6, (b_7, b_8))), ()) = T a_1 a_2 a_3 a_4 b_5 b_6 b_7 b_8 := eq_any fun k => by kernel_rfl
theorem ok : CtxOK prog ctx := ⟨nilM, mixed_ok, tab_ok tab_good, consM ⟨laws_eqInt64S.S, consM ⟨laws_eqMatrixS.S, consM ⟨laws_eqComplex.S, nilM⟩⟩⟩, nilM, nilM⟩
theorem S : Sound prog ⟨31, sig, F⟩ := sound_k (res := [.tmp 4]) func31 ok
end laws_eqSheaf
namespace laws_markMatrixS
noncomputable def sig : Sig := ⟨[.wr false (.sl TMatrix) .deep, .val false (.int .i64)], [(.val false, (.int .i64), .deep)]⟩
noncomputable def ctx : Ctx := ⟨tabOf tabl, [⟨22, laws_markInt64S.sig, laws_markInt64S.F⟩], [], [], [], []⟩
noncomputable def cfg : Cfg := ⟨ctx, [0], [], fun id => match id with | 2 => ([0, 1, 5], [0]) | _ => ([], []), fun _ => []⟩
noncomputable def code : Code := (f34).body.getD .skip
noncomputable def fin := finK ctx sig [.tmp 4]
noncomputable def F (d : List (Int × Int × Int × List Int) × Int × Unit) : Option ((Int × Unit) × (List (Int × Int × Int × List Int) × Unit)) := anyK (runFn cfg fin code (initSt sig.ps d 41))
noncomputable def l2 (k : Nat) (i3 : Int) (i4 : Int) (x5 : List (Int × Int × Int × List Int)) : Option ((Int × Unit) × (List (Int × Int × Int × List Int) × Unit)) :=
  Go.Vm.runT cfg fin k [.inLoop (sub [1, 0, 1, 0, 0] code), .inBlock 0, .code (sub [1, 1] code)]
    ⟨[.view 0 (.root 0) 1 false, .val false [⟨(.int .i64), .sh, i3⟩], .dead, .dead, .dead, .val false [⟨(.int .i64), .sh, i4⟩]] ++ deads 35, [(0, ⟨false, [⟨(.sl TMatrix), .deep, x5⟩]⟩)]⟩
theorem l2_eq (k : Nat) (i3 : Int) (i4 : Int) (x5 : List (Int × Int × Int × List Int)) : l2 (k + 1) i3 i4 x5 =
  if (decide (i4 < (x5.length : Int))) = true then
    if 0 ≤ i4 ∧ i4 < (x5.length : Int) then
      if 0 ≤ i4 ∧ i4 < ((x5.set i4.toNat (i3, (x5.getD i4.toNat (0, 0, 0, ([] : List Int))).2)).length : Int) then
        let y6 : List (Int × Int × Int × List Int) := (x5.set i4.toNat (i3, (x5.getD i4.toNat (0, 0, 0, ([] : List Int))).2)).set i4.toNat (((x5.set i4.toNat (i3, (x5.getD i4.toNat (0, 0, 0, ([] : List Int))).2)).getD i4.toNat (0, 0, 0, ([] : List Int))).1, (IntKind.i64.wrap (i3 + (1 : Int)), (((x5.set i4.toNat (i3, (x5.getD i4.toNat (0, 0, 0, ([] : List Int))).2)).getD i4.toNat (0, 0, 0, ([] : List Int))).2).2))
        if 0 ≤ i4 ∧ i4 < (y6.length : Int) then
          let y7 : List (Int × Int × Int × List Int) := y6.set i4.toNat ((y6.getD i4.toNat (0, 0, 0, ([] : List Int))).1, (((y6.getD i4.toNat (0, 0, 0, ([] : List Int))).2).1, (IntKind.i64.wrap ((IntKind.i64.wrap (i3 + (1 : Int))) + (1 : Int)), (((y6.getD i4.toNat (0, 0, 0, ([] : List Int))).2).2).2)))
          if 0 ≤ i4 ∧ i4 < (y7.length : Int) then
            (laws_markInt64S.F ((((y7.getD i4.toNat (0, 0, 0, ([] : List Int))).2).2).2, IntKind.i64.wrap ((IntKind.i64.wrap ((IntKind.i64.wrap (i3 + (1 : Int))) + (1 : Int))) + (1 : Int)), ())).bind fun r8 =>
              l2 k (r8.1.1 : Int) (IntKind.i64.wrap (i4 + (1 : Int))) (y7.set i4.toNat ((y7.getD i4.toNat (0, 0, 0, ([] : List Int))).1, (((y7.getD i4.toNat (0, 0, 0, ([] : List Int))).2).1, ((((y7.getD i4.toNat (0, 0, 0, ([] : List Int))).2).2).1, r8.2.1))))
          else
            none
        else
          none
      else
        none
    else
      none
  else
    some ((i3, ()), (x5, ())) := by kernel_rfl
noncomputable def T (k : Nat) (a_1 : List (Int × Int × Int × List Int)) (k_2 : Int) : Option ((Int × Unit) × (List (Int × Int × Int × List Int) × Unit)) :=
  l2 k k_2 (0 : Int) a_1
theorem of (a_1 : List (Int × Int × Int × List Int)) (k_2 : Int) {r : (Int × Unit) × (List (Int × Int × Int × List Int) × Unit)} (h : Ev (fun k => T k a_1 k_2) r) : F (a_1, k_2, ()) = some r := Ev.run (fun k => by kernel_rfl) h
theorem ok : CtxOK prog ctx := ⟨nilM, mixed_ok, tab_ok tab_good, consM ⟨laws_markInt64S.S, nilM⟩, nilM, nilM⟩
theorem S : Sound prog ⟨34, sig, F⟩ := sound_k (res := [.tmp 4]) func34 ok
end laws_markMatrixS
namespace laws_markInt64SS
noncomputable def sig : Sig := ⟨[.wr false (.sl (.sl (.int .i64))) .deep, .val false (.int .i64)], [(.val false, (.int .i64), .deep)]⟩
noncomputable def ctx : Ctx := ⟨tabOf tabl, [⟨22, laws_markInt64S.sig, laws_markInt64S.F⟩], [], [], [], []⟩
noncomputable def cfg : Cfg := ⟨ctx, [0], [], fun id => match id with | 2 => ([0, 1, 5], [0]) | _ => ([], []), fun _ => []⟩
noncomputable def code : Code := (f90).body.getD .skip
noncomputable def fin := finK ctx sig [.tmp 4]
noncomputable def F (d : List (List Int) × Int × Unit) : Option ((Int × Unit) × (List (List Int) × Unit)) := anyK (runFn cfg fin code (initSt sig.ps d 19))
noncomputable def l2 (k : Nat) (i3 : Int) (i4 : Int) (x5 : List (List Int)) : Option ((Int × Unit) × (List (List Int) × Unit)) :=
  Go.Vm.runT cfg fin k [.inLoop (sub [1, 0, 1, 0, 0] code), .inBlock 0, .code (sub [1, 1] code)]
    ⟨[.view 0 (.root 0) 1 false, .val false [⟨(.int .i64), .sh, i3⟩], .dead, .dead, .dead, .val false [⟨(.int .i64), .sh, i4⟩]] ++ deads 13, [(0, ⟨false, [⟨(.sl (.sl (.int .i64))), .deep, x5⟩]⟩)]⟩
theorem l2_eq (k : Nat) (i3 : Int) (i4 : Int) (x5 : List (List Int)) : l2 (k + 1) i3 i4 x5 =
  if (decide (i4 < (x5.length : Int))) = true then
    if 0 ≤ i4 ∧ i4 < (x5.length : Int) then
      (laws_markInt64S.F (x5.getD i4.toNat ([] : List Int), i3, ())).bind fun r6 =>
        l2 k (r6.1.1 : Int) (IntKind.i64.wrap (i4 + (1 : Int))) (x5.set i4.toNat r6.2.1)
    else
      none
  else
    some ((i3, ()), (x5, ())) := by kernel_rfl
noncomputable def T (k : Nat) (a_1 : List (List Int)) (k_2 : Int) : Option ((Int × Unit) × (List (List Int) × Unit)) :=
  l2 k k_2 (0 : Int) a_1
theorem of (a_1 : List (List Int)) (k_2 : Int) {r : (Int × Unit) × (List (List Int) × Unit)} (h : Ev (fun k => T k a_1 k_2) r) : F (a_1, k_2, ()) = some r := Ev.run (fun k => by kernel_rfl) h
theorem ok : CtxOK prog ctx := ⟨nilM, mixed_ok, tab_ok tab_good, consM ⟨laws_markInt64S.S, nilM⟩, nilM, nilM⟩
theorem S : Sound prog ⟨90, sig, F⟩ := sound_k (res := [.tmp 4]) func90 ok
end laws_markInt64SS
namespace laws_markComplex
noncomputable def sig : Sig := ⟨[.wr true (.sl (.sl (.int .i64))) .deep, .val false (.int .i64)], [(.val false, (.int .i64), .deep)]⟩
noncomputable def ctx : Ctx := ⟨tabOf tabl, [⟨90, laws_markInt64SS.sig, laws_markInt64SS.F⟩], [], [], [], []⟩
noncomputable def cfg : Cfg := ⟨ctx, [0], [], fun _ => ([], []), fun _ => []⟩
noncomputable def code : Code := (f40).body.getD .skip
noncomputable def fin := finK ctx sig [.tmp 4]
noncomputable def F (d : List (List Int) × Int × Unit) : Option ((Int × Unit) × (List (List Int) × Unit)) := anyK (runFn cfg fin code (initSt sig.ps d 10))
noncomputable def T (a_1 : List (List Int)) (k_2 : Int) : Option ((Int × Unit) × (List (List Int) × Unit)) :=
  (laws_markInt64SS.F (a_1, k_2, ())).bind fun r3 =>
    some (((r3.1.1 : Int), ()), (r3.2.1, ()))
theorem eq (a_1 : List (List Int)) (k_2 : Int) : F (a_1, k_2, ()) = T a_1 k_2 := eq_any fun k => by kernel_rfl
theorem ok : CtxOK prog ctx := ⟨nilM, mixed_ok, tab_ok tab_good, consM ⟨laws_markInt64SS.S, nilM⟩, nilM, nilM⟩
theorem S : Sound prog ⟨40, sig, F⟩ := sound_k (res := [.tmp 4]) func40 ok
end laws_markComplex
namespace laws_markSheaf
noncomputable def sig : Sig := ⟨[.wr true TSheaf .deep, .val false (.int .i64)], [(.val false, (.int .i64), .deep)]⟩
noncomputable def ctx : Ctx := ⟨tabOf tabl, [⟨22, laws_markInt64S.sig, laws_markInt64S.F⟩, ⟨34, laws_markMatrixS.sig, laws_markMatrixS.F⟩, ⟨40, laws_markComplex.sig, laws_markComplex.F⟩], [], [], [], []⟩
noncomputable def cfg : Cfg := ⟨ctx, [0], [], fun _ => ([], []), fun _ => []⟩
noncomputable def code : Code := (f33).body.getD .skip
noncomputable def fin := finK ctx sig [.tmp 4]
noncomputable def F (d : (List (List Int) × Int × List Int × List (Int × Int × Int × List Int)) × Int × Unit) : Option ((Int × Unit) × ((List (List Int) × Int × List Int × List (Int × Int × Int × List Int)) × Unit)) := anyK (runFn cfg fin code (initSt sig.ps d 18))
noncomputable def T (a_1 : List (List Int)) (a_2 : Int) (a_3 : List Int) (a_4 : List (Int × Int × Int × List Int)) (k_5 : Int) : Option ((Int × Unit) × ((List (List Int) × Int × List Int × List (Int × Int × Int × List Int)) × Unit)) :=
  (laws_markComplex.F (a_1, k_5, ())).bind fun r6 =>
    (laws_markInt64S.F (a_3, (r6.1.1 : Int), ())).bind fun r7 =>
      (laws_markMatrixS.F (a_4, (r7.1.1 : Int), ())).bind fun r8 =>
        some (((r8.1.1 : Int), ()), ((r6.2.1, (a_2, (r7.2.1, r8.2.1))), ()))
theorem eq (a_1 : List (List Int)) (a_2 : Int) (a_3 : List Int) (a_4 : List (Int × Int × Int × List Int)) (k_5 : Int) : F ((a_1, (a_2, (a_3, a_4))), k_5, ()) = T a_1 a_2 a_3 a_4 k_5 := eq_any fun k => by kernel_rfl
theorem ok : CtxOK prog ctx := ⟨nilM, mixed_ok, tab_ok tab_good, consM ⟨laws_markInt64S.S, consM ⟨laws_markMatrixS.S, consM ⟨laws_markComplex.S, nilM⟩⟩⟩, nilM, nilM⟩
theorem S : Sound prog ⟨33, sig, F⟩ := sound_k (res := [.tmp 4]) func33 ok
end laws_markSheaf
namespace laws_FnExactMapSection
noncomputable def sig : Sig := ⟨[.val true TSheaf, .val true TSheaf, .val false (.sl TMatrix), .val false (.sl (.int .i64))], [(.val false, .bool, .deep)]⟩
noncomputable def ctx : Ctx := ⟨tabOf tabl, [⟨19, laws_eqInt64S.sig, laws_eqInt64S.F⟩, ⟨22, laws_markInt64S.sig, laws_markInt64S.F⟩, ⟨23, laws_heldInt64S.sig, laws_heldInt64S.F⟩, ⟨24, laws_szSheaf.sig, laws_szSheaf.F⟩, ⟨25, laws_szMatrixS.sig, laws_szMatrixS.F⟩, ⟨26, spec_MapSection.sig, spec_MapSection.F⟩, ⟨27, laws_toSheaf.sig, laws_toSheaf.F⟩, ⟨28, laws_toMatrixS.sig, laws_toMatrixS.F⟩, ⟨29, laws_toInt64S.sig, laws_toInt64S.F⟩, ⟨30, impl_MapSection.sig, impl_MapSection.F⟩, ⟨31, laws_eqSheaf.sig, laws_eqSheaf.F⟩, ⟨32, laws_eqMatrixS.sig, laws_eqMatrixS.F⟩, ⟨33, laws_markSheaf.sig, laws_markSheaf.F⟩, ⟨34, laws_markMatrixS.sig, laws_markMatrixS.F⟩], [], [], [], [10, 21]⟩
noncomputable def cfg : Cfg := ⟨ctx, [], [], fun _ => ([], []), fun _ => []⟩
noncomputable def code : Code := (f4).body.getD .skip
noncomputable def fin := finK ctx sig [.tmp 8]
noncomputable def F (d : (List (List Int) × Int × List Int × List (Int × Int × Int × List Int)) × (List (List Int) × Int × List Int × List (Int × Int × Int × List Int)) × List (Int × Int × Int × List Int) × List Int × Unit) : Option ((Bool × Unit) × (Unit)) := anyK (runFn cfg fin code (initSt sig.ps d 163))
noncomputable def T (toArray_1 : List (List Int)) (toArray_2 : Int) (toArray_3 : List Int) (toArray_4 : List (Int × Int × Int × List Int)) (a_5 : List (List Int)) (a_6 : Int) (a_7 : List Int) (a_8 : List (Int × Int × Int × List Int)) (a_9 : List (Int × Int × Int × List Int)) (a_10 : List Int) : Option ((Bool × Unit) × (Unit)) :=
  if (decide ((a_10.length : Int) > (1048576 : Int))) = true then
    some ((true, ()), ())
  else
    (laws_szSheaf.F ((toArray_1, (toArray_2, (toArray_3, toArray_4))), (1048576 : Int), ())).bind fun r11 =>
      if (decide ((r11.1.1 : Int) < (0 : Int))) = true then
        some ((true, ()), ())
      else
        (laws_szSheaf.F ((a_5, (a_6, (a_7, a_8))), (r11.1.1 : Int), ())).bind fun r12 =>
          if (decide ((r12.1.1 : Int) < (0 : Int))) = true then
            some ((true, ()), ())
          else
            (laws_szMatrixS.F (a_9, (r12.1.1 : Int), ())).bind fun r13 =>
              if (decide ((r13.1.1 : Int) < (0 : Int))) = true then
                some ((true, ()), ())
              else
                (laws_toSheaf.F ((toArray_1, (toArray_2, (toArray_3, toArray_4))), ())).bind fun r14 =>
                  (laws_toSheaf.F ((a_5, (a_6, (a_7, a_8))), ())).bind fun r15 =>
                    (laws_toMatrixS.F (a_9, ())).bind fun r16 =>
                      (laws_toInt64S.F (a_10, ())).bind fun r17 =>
                        (spec_MapSection.F (r14.1.1, r15.1.1, r16.1.1, r17.1.1, ())).bind fun r18 =>
                          (laws_toSheaf.F ((toArray_1, (toArray_2, (toArray_3, toArray_4))), ())).bind fun r19 =>
                            (laws_toSheaf.F ((a_5, (a_6, (a_7, a_8))), ())).bind fun r20 =>
                              (laws_toMatrixS.F (a_9, ())).bind fun r21 =>
                                (laws_toInt64S.F (a_10, ())).bind fun r22 =>
                                  (impl_MapSection.F (r19.1.1, r20.1.1, r21.1.1, r22.1.1, ())).bind fun r23 =>
                                    (laws_eqInt64S.F (r23.1.1, r18.1.1, ())).bind fun r24 =>
                                      if (!(r24.1.1 : Bool)) = true then
                                        some ((false, ()), ())
                                      else
                                        if ((r23.1.2.1 : Int) != (r18.1.2.1 : Int)) = true then
                                          some ((false, ()), ())
                                        else
                                          (laws_toSheaf.F ((toArray_1, (toArray_2, (toArray_3, toArray_4))), ())).bind fun r25 =>
                                            (laws_eqSheaf.F (r19.1.1, r25.1.1, ())).bind fun r26 =>
                                              if (!(r26.1.1 : Bool)) = true then
                                                some ((false, ()), ())
                                              else
                                                (laws_toSheaf.F ((a_5, (a_6, (a_7, a_8))), ())).bind fun r27 =>
                                                  (laws_eqSheaf.F (r20.1.1, r27.1.1, ())).bind fun r28 =>
                                                    if (!(r28.1.1 : Bool)) = true then
                                                      some ((false, ()), ())
                                                    else
                                                      (laws_toMatrixS.F (a_9, ())).bind fun r29 =>
                                                        (laws_eqMatrixS.F (r21.1.1, r29.1.1, ())).bind fun r30 =>
                                                          if (!(r30.1.1 : Bool)) = true then
                                                            some ((false, ()), ())
                                                          else
                                                            (laws_toInt64S.F (a_10, ())).bind fun r31 =>
                                                              (laws_eqInt64S.F (r22.1.1, r31.1.1, ())).bind fun r32 =>
                                                                if (!(r32.1.1 : Bool)) = true then
                                                                  some ((false, ()), ())
                                                                else
                                                                  (laws_markSheaf.F (r19.1.1, (1 : Int), ())).bind fun r33 =>
                                                                    (laws_markSheaf.F (r20.1.1, (r33.1.1 : Int), ())).bind fun r34 =>
                                                                      (laws_markMatrixS.F (r21.1.1, (r34.1.1 : Int), ())).bind fun r35 =>
                                                                        (laws_markInt64S.F (r22.1.1, (r35.1.1 : Int), ())).bind fun r36 =>
                                                                          if (decide ((r36.1.1 : Int) < (0 : Int))) = true then
                                                                            some ((false, ()), ())
                                                                          else
                                                                            (laws_eqInt64S.F (r23.1.1, r18.1.1, ())).bind fun r37 =>
                                                                              if (!(r37.1.1 : Bool)) = true then
                                                                                some ((false, ()), ())
                                                                              else
                                                                                if ((r23.1.2.1 : Int) != (r18.1.2.1 : Int)) = true then
                                                                                  some ((false, ()), ())
                                                                                else
                                                                                  (laws_markInt64S.F (r23.1.1, (1 : Int), ())).bind fun r38 =>
                                                                                    (laws_heldInt64S.F (r38.2.1, (1 : Int), ())).bind fun r39 =>
                                                                                      if (decide ((r39.1.1 : Int) < (0 : Int))) = true then
                                                                                        some ((false, ()), ())
                                                                                      else
                                                                                        if ((r39.1.1 : Int) != (r38.1.1 : Int)) = true then
                                                                                          some ((false, ()), ())
                                                                                        else
                                                                                          (laws_toSheaf.F ((toArray_1, (toArray_2, (toArray_3, toArray_4))), ())).bind fun r40 =>
                                                                                            (laws_toSheaf.F ((a_5, (a_6, (a_7, a_8))), ())).bind fun r41 =>
                                                                                              (laws_toMatrixS.F (a_9, ())).bind fun r42 =>
                                                                                                (laws_toInt64S.F (a_10, ())).bind fun r43 =>
                                                                                                  (impl_MapSection.F (r40.1.1, r41.1.1, r42.1.1, r43.1.1, ())).bind fun r44 =>
                                                                                                    (laws_eqInt64S.F (r44.1.1, r18.1.1, ())).bind fun r45 =>
                                                                                                      if (!(r45.1.1 : Bool)) = true then
                                                                                                        some ((false, ()), ())
                                                                                                      else
                                                                                                        if ((r44.1.2.1 : Int) != (r18.1.2.1 : Int)) = true then
                                                                                                          some ((false, ()), ())
                                                                                                        else
                                                                                                          (laws_heldInt64S.F (r38.2.1, (1 : Int), ())).bind fun r46 =>
                                                                                                            if (decide ((r46.1.1 : Int) < (0 : Int))) = true then
                                                                                                              some ((false, ()), ())
                                                                                                            else
                                                                                                              if ((r46.1.1 : Int) != (r38.1.1 : Int)) = true then
                                                                                                                some ((false, ()), ())
                                                                                                              else
                                                                                                                some ((true, ()), ())
theorem eq (toArray_1 : List (List Int)) (toArray_2 : Int) (toArray_3 : List Int) (toArray_4 : List (Int × Int × Int × List Int)) (a_5 : List (List Int)) (a_6 : Int) (a_7 : List Int) (a_8 : List (Int × Int × Int × List Int)) (a_9 : List (Int × Int × Int × List Int)) (a_10 : List Int) : F ((toArray_1, (toArray_2, (toArray_3, toArray_4))), (a_5, (a_6, (a_7, a_8))), a_9, a_10, ()) = T toArray_1 toArray_2 toArray_3 toArray_4 a_5 a_6 a_7 a_8 a_9 a_10 := eq_any fun k => by kernel_rfl
theorem ok : CtxOK prog ctx := ⟨nilM, mixed_ok, tab_ok tab_good, consM ⟨laws_eqInt64S.S, consM ⟨laws_markInt64S.S, consM ⟨laws_heldInt64S.S, consM ⟨laws_szSheaf.S, consM ⟨laws_szMatrixS.S, consM ⟨spec_MapSection.S, consM ⟨laws_toSheaf.S, consM ⟨laws_toMatrixS.S, consM ⟨laws_toInt64S.S, consM ⟨impl_MapSection.S, consM ⟨laws_eqSheaf.S, consM ⟨laws_eqMatrixS.S, consM ⟨laws_markSheaf.S, consM ⟨laws_markMatrixS.S, nilM⟩⟩⟩⟩⟩⟩⟩⟩⟩⟩⟩⟩⟩⟩, nilM, nilM⟩
theorem S : Sound prog ⟨4, sig, F⟩ := sound_k (res := [.tmp 8]) func4 ok
end laws_FnExactMapSection
end Go.Proofs.YtjimdbbeilfkfaaGreat
