/- The functions, as the machine runs them. -/
import Derived.Test.YtjimdbbeilfkfaaGreatSumSheavesG1
import Derived.Test.YtjimdbbeilfkfaaGreatProg
import Derived.KernelRfl
import Derived.WalkKit
import Derived.Lib.Walk
import Derived.Lib.AppendZeros
import Derived.Sort.WalkA
import Derived.Sort.WalkB2
import Derived.Sort.WalkB12
import Derived.Deep.LoopGhost
import Derived.Shelf.RegionOpenPlain
import Derived.Lib.SliceRun
namespace Go.Proofs.YtjimdbbeilfkfaaGreat
open Go Go.Vm
set_option linter.unusedVariables false
set_option linter.unusedSimpArgs false
open Go.Proofs.Tryz
namespace impl_Matrix_row
noncomputable def sig : Sig := ⟨[.val true TMatrix, .val false (.int .i64)], [(.val false, (.sl (.int .i64)), .sh)]⟩
noncomputable def ctx : Ctx := ⟨tabOf tabl, [], [], [], [], []⟩
noncomputable def cfg : Cfg := ⟨ctx, [], [], fun _ => ([], []), fun _ => []⟩
noncomputable def code : Code := (f174).body.getD .skip
noncomputable def fin := finK ctx sig [.tmp 4]
noncomputable def F (d : (Int × Int × Int × List Int) × Int × Unit) : Option ((List Int × Unit) × (Unit)) := anyK (runFn cfg fin code (initSt sig.ps d 17))
noncomputable def T (m_1 : Int) (m_2 : Int) (m_3 : Int) (m_4 : List Int) (i_5 : Int) : Option ((List Int × Unit) × (Unit)) :=
  if 0 ≤ (IntKind.i64.wrap (i_5 * m_3)) ∧ (IntKind.i64.wrap (i_5 * m_3)) ≤ (IntKind.i64.wrap ((IntKind.i64.wrap (i_5 + (1 : Int))) * m_3)) ∧ (IntKind.i64.wrap ((IntKind.i64.wrap (i_5 + (1 : Int))) * m_3)) ≤ (m_4.length : Int) then
    some ((cutL m_4 (IntKind.i64.wrap (i_5 * m_3)) (IntKind.i64.wrap ((IntKind.i64.wrap (i_5 + (1 : Int))) * m_3)), ()), ())
  else
    none
theorem eq (m_1 : Int) (m_2 : Int) (m_3 : Int) (m_4 : List Int) (i_5 : Int) : F ((m_1, (m_2, (m_3, m_4))), i_5, ()) = T m_1 m_2 m_3 m_4 i_5 := eq_any fun k => by kernel_rfl
theorem ok : CtxOK prog ctx := ⟨nilM, mixed_ok, tab_ok tab_good, nilM, nilM, nilM⟩
theorem S : Sound prog ⟨174, sig, F⟩ := sound_k (res := [.tmp 4]) func174 ok
end impl_Matrix_row
namespace impl_rowsOf
noncomputable def sig : Sig := ⟨[.val true TMatrix], [(.val false, (.sl (.sl (.int .i64))), .deep)]⟩
noncomputable def ctx : Ctx := ⟨tabOf tabl, [⟨157, slices_Clone_Lint64_int64.sig, slices_Clone_Lint64_int64.F⟩, ⟨174, impl_Matrix_row.sig, impl_Matrix_row.F⟩], [], [], [], []⟩
noncomputable def cfg : Cfg := ⟨ctx, [], [], fun id => match id with | 3 => ([1, 3, 6, 7], [4, 12]) | _ => ([], []), fun _ => []⟩
noncomputable def code : Code := (f160).body.getD .skip
noncomputable def fin := finK ctx sig [.tmp 2]
noncomputable def F (d : (Int × Int × Int × List Int) × Unit) : Option ((List (List Int) × Unit) × (Unit)) := anyK (runFn cfg fin code (initSt sig.ps d 19))
noncomputable def l3 (k : Nat) (i5 : Int) (i6 : Int) (i7 : Int) (i8 : Int) (i9 : Int) (x10 : List Int) (x11 : List (List Int)) : Option ((List (List Int) × Unit) × (Unit)) :=
  Go.Vm.runT cfg fin k [.inLoop (sub [1, 1, 0, 1, 0, 0] code), .inBlock 0, .code (sub [1, 1, 1] code)]
    ⟨[.dead, .ref 4 (.root 0), .dead, .view 12 (.root 0) 1 false, .dead, .dead, .val false [⟨(.int .i64), .sh, i5⟩], .val false [⟨(.int .i64), .sh, i6⟩]] ++ deads 11, [(4, ⟨true, [⟨(.int .i64), .sh, i7⟩, ⟨(.int .i64), .sh, i8⟩, ⟨(.int .i64), .sh, i9⟩, ⟨(.sl (.int .i64)), .sh, x10⟩]⟩), (12, ⟨false, [⟨(.sl (.sl (.int .i64))), .deep, x11⟩]⟩)]⟩
theorem l3_eq (k : Nat) (i5 : Int) (i6 : Int) (i7 : Int) (i8 : Int) (i9 : Int) (x10 : List Int) (x11 : List (List Int)) : l3 (k + 1) i5 i6 i7 i8 i9 x10 x11 =
  if (decide (i6 < i5)) = true then
    (impl_Matrix_row.F ((i7, (i8, (i9, x10))), i6, ())).bind fun r12 =>
      (slices_Clone_Lint64_int64.F (r12.1.1, ())).bind fun r13 =>
        if x11.length + ([r13.1.1] : List (List Int)).length ≤ bigA then
          l3 k i5 (IntKind.i64.wrap (i6 + (1 : Int))) i7 i8 i9 x10 (x11 ++ ([r13.1.1]))
        else
          none
  else
    some ((x11, ()), ()) := by kernel_rfl
noncomputable def T (k : Nat) (m_1 : Int) (m_2 : Int) (m_3 : Int) (m_4 : List Int) : Option ((List (List Int) × Unit) × (Unit)) :=
  l3 k m_2 (0 : Int) m_1 m_2 m_3 m_4 ([])
theorem of (m_1 : Int) (m_2 : Int) (m_3 : Int) (m_4 : List Int) {r : (List (List Int) × Unit) × (Unit)} (h : Ev (fun k => T k m_1 m_2 m_3 m_4) r) : F ((m_1, (m_2, (m_3, m_4))), ()) = some r := Ev.run (fun k => by kernel_rfl) h
theorem ok : CtxOK prog ctx := ⟨nilM, mixed_ok, tab_ok tab_good, consM ⟨slices_Clone_Lint64_int64.S, consM ⟨impl_Matrix_row.S, nilM⟩⟩, nilM, nilM⟩
theorem S : Sound prog ⟨160, sig, F⟩ := sound_k (res := [.tmp 2]) func160 ok
end impl_rowsOf
namespace impl_Matrix_at
noncomputable def sig : Sig := ⟨[.val true TMatrix, .val false (.int .i64), .val false (.int .i64)], [(.val false, (.int .i64), .deep)]⟩
noncomputable def ctx : Ctx := ⟨tabOf tabl, [], [], [], [], []⟩
noncomputable def cfg : Cfg := ⟨ctx, [], [], fun _ => ([], []), fun _ => []⟩
noncomputable def code : Code := (f137).body.getD .skip
noncomputable def fin := finK ctx sig [.tmp 6]
noncomputable def F (d : (Int × Int × Int × List Int) × Int × Int × Unit) : Option ((Int × Unit) × (Unit)) := anyK (runFn cfg fin code (initSt sig.ps d 17))
noncomputable def T (m_1 : Int) (m_2 : Int) (m_3 : Int) (m_4 : List Int) (i_5 : Int) (j_6 : Int) : Option ((Int × Unit) × (Unit)) :=
  if 0 ≤ (IntKind.i64.wrap ((IntKind.i64.wrap (i_5 * m_3)) + j_6)) ∧ (IntKind.i64.wrap ((IntKind.i64.wrap (i_5 * m_3)) + j_6)) < (m_4.length : Int) then
    some (((m_4.getD (IntKind.i64.wrap ((IntKind.i64.wrap (i_5 * m_3)) + j_6)).toNat 0 : Int), ()), ())
  else
    none
theorem eq (m_1 : Int) (m_2 : Int) (m_3 : Int) (m_4 : List Int) (i_5 : Int) (j_6 : Int) : F ((m_1, (m_2, (m_3, m_4))), i_5, j_6, ()) = T m_1 m_2 m_3 m_4 i_5 j_6 := eq_any fun k => by kernel_rfl
theorem ok : CtxOK prog ctx := ⟨nilM, mixed_ok, tab_ok tab_good, nilM, nilM, nilM⟩
theorem S : Sound prog ⟨137, sig, F⟩ := sound_k (res := [.tmp 6]) func137 ok
end impl_Matrix_at
namespace impl_transpose_1
noncomputable def sig : Sig := ⟨[.val false (.int .i64), .val false (.int .i64), .rptr TMatrix], [(.val false, (.int .i64), .deep)]⟩
noncomputable def ctx : Ctx := ⟨tabOf tabl, [⟨137, impl_Matrix_at.sig, impl_Matrix_at.F⟩], [], [], [], []⟩
noncomputable def cfg : Cfg := ⟨ctx, [], [], fun _ => ([], []), fun _ => []⟩
noncomputable def code : Code := (f279).body.getD .skip
noncomputable def fin := finK ctx sig [.tmp 5]
noncomputable def F (d : Int × Int × (Int × Int × Int × List Int) × Unit) : Option ((Int × Unit) × (Unit)) := anyK (runFn cfg fin code (initSt sig.ps d 10))
noncomputable def T (i_1 : Int) (j_2 : Int) (a_3 : Int) (a_4 : Int) (a_5 : Int) (a_6 : List Int) : Option ((Int × Unit) × (Unit)) :=
  (impl_Matrix_at.F ((a_3, (a_4, (a_5, a_6))), j_2, i_1, ())).bind fun r7 =>
    some (((r7.1.1 : Int), ()), ())
theorem eq (i_1 : Int) (j_2 : Int) (a_3 : Int) (a_4 : Int) (a_5 : Int) (a_6 : List Int) : F (i_1, j_2, (a_3, (a_4, (a_5, a_6))), ()) = T i_1 j_2 a_3 a_4 a_5 a_6 := eq_any fun k => by kernel_rfl
theorem ok : CtxOK prog ctx := ⟨nilM, mixed_ok, tab_ok tab_good, consM ⟨impl_Matrix_at.S, nilM⟩, nilM, nilM⟩
theorem S : Sound prog ⟨279, sig, F⟩ := sound_k (res := [.tmp 5]) func279 ok
noncomputable def cloG (y : (Int × Int × Int × List Int) × Unit) (d : Int × Int × Unit) : Option (Int × Unit) := (F (joinIns [.rptr TMatrix] [(false, (.int .i64)), (false, (.int .i64))] d y)).map (·.1)
noncomputable def clo : Clo := ⟨279, ⟨[(false, (.int .i64)), (false, (.int .i64))], [(.val false, (.int .i64), .deep)]⟩, [.rptr TMatrix], cloG⟩
theorem cloS : SoundClo prog clo := sound_clo (s := ⟨[(false, (.int .i64)), (false, (.int .i64))], [(.val false, (.int .i64), .deep)]⟩) (caps := [.rptr TMatrix]) rfl S
end impl_transpose_1
namespace impl_transpose
noncomputable def sig : Sig := ⟨[.val true TMatrix], [(.val true, TMatrix, .deep)]⟩
noncomputable def ctx : Ctx := ⟨tabOf tabl, [⟨135, impl_filled.sig, impl_filled.F⟩], [impl_transpose_1.clo], [], [], []⟩
noncomputable def cfg : Cfg := ⟨ctx, [], [], fun _ => ([], []), fun _ => []⟩
noncomputable def code : Code := (f223).body.getD .skip
noncomputable def fin := finK ctx sig [.cell 2 87]
noncomputable def F (d : (Int × Int × Int × List Int) × Unit) : Option (((Int × Int × Int × List Int) × Unit) × (Unit)) := anyK (runFn cfg fin code (initSt sig.ps d 11))
noncomputable def T (m_1 : Int) (m_2 : Int) (m_3 : Int) (m_4 : List Int) : Option (((Int × Int × Int × List Int) × Unit) × (Unit)) :=
  (impl_filled.F (m_1, m_3, m_2, impl_transpose_1.cloG ((m_1, (m_2, (m_3, m_4))), ()), ())).bind fun r5 =>
    some ((r5.1.1, ()), ())
theorem eq (m_1 : Int) (m_2 : Int) (m_3 : Int) (m_4 : List Int) : F ((m_1, (m_2, (m_3, m_4))), ()) = T m_1 m_2 m_3 m_4 := eq_any fun k => by kernel_rfl
theorem ok : CtxOK prog ctx := ⟨nilM, mixed_ok, tab_ok tab_good, consM ⟨impl_filled.S, nilM⟩, consM ⟨impl_transpose_1.cloS, nilM⟩, nilM⟩
theorem S : Sound prog ⟨223, sig, F⟩ := sound_k (res := [.cell 2 87]) func223 ok
end impl_transpose
namespace impl_columnsOf
noncomputable def sig : Sig := ⟨[.val true TMatrix], [(.val false, (.sl (.sl (.int .i64))), .deep)]⟩
noncomputable def ctx : Ctx := ⟨tabOf tabl, [⟨160, impl_rowsOf.sig, impl_rowsOf.F⟩, ⟨223, impl_transpose.sig, impl_transpose.F⟩], [], [], [], []⟩
noncomputable def cfg : Cfg := ⟨ctx, [], [], fun _ => ([], []), fun _ => []⟩
noncomputable def code : Code := (f143).body.getD .skip
noncomputable def fin := finK ctx sig [.tmp 2]
noncomputable def F (d : (Int × Int × Int × List Int) × Unit) : Option ((List (List Int) × Unit) × (Unit)) := anyK (runFn cfg fin code (initSt sig.ps d 6))
noncomputable def T (m_1 : Int) (m_2 : Int) (m_3 : Int) (m_4 : List Int) : Option ((List (List Int) × Unit) × (Unit)) :=
  (impl_transpose.F ((m_1, (m_2, (m_3, m_4))), ())).bind fun r5 =>
    (impl_rowsOf.F (r5.1.1, ())).bind fun r6 =>
      some ((r6.1.1, ()), ())
theorem eq (m_1 : Int) (m_2 : Int) (m_3 : Int) (m_4 : List Int) : F ((m_1, (m_2, (m_3, m_4))), ()) = T m_1 m_2 m_3 m_4 := eq_any fun k => by kernel_rfl
theorem ok : CtxOK prog ctx := ⟨nilM, mixed_ok, tab_ok tab_good, consM ⟨impl_rowsOf.S, consM ⟨impl_transpose.S, nilM⟩⟩, nilM, nilM⟩
theorem S : Sound prog ⟨143, sig, F⟩ := sound_k (res := [.tmp 2]) func143 ok
end impl_columnsOf
namespace impl_dot
noncomputable def sig : Sig := ⟨[.val false (.sl (.int .i64)), .val false (.sl (.int .i64)), .val false (.int .i64)], [(.val false, (.int .i64), .deep)]⟩
noncomputable def ctx : Ctx := ⟨tabOf tabl, [], [], [], [], []⟩
noncomputable def cfg : Cfg := ⟨ctx, [], [], fun id => match id with | 3 => ([0, 1, 2, 7, 10, 11], []) | _ => ([], []), fun _ => []⟩
noncomputable def code : Code := (f173).body.getD .skip
noncomputable def fin := finK ctx sig [.tmp 6]
noncomputable def F (d : List Int × List Int × Int × Unit) : Option ((Int × Unit) × (Unit)) := anyK (runFn cfg fin code (initSt sig.ps d 29))
noncomputable def l3 (k : Nat) (x4 : List Int) (x5 : List Int) (i6 : Int) (i7 : Int) (i8 : Int) (i9 : Int) : Option ((Int × Unit) × (Unit)) :=
  Go.Vm.runT cfg fin k [.inLoop (sub [1, 1, 0, 1, 0, 0] code), .inBlock 0, .code (sub [1, 1, 1] code)]
    ⟨[.val false [⟨(.sl (.int .i64)), .sh, x4⟩], .val false [⟨(.sl (.int .i64)), .sh, x5⟩], .val false [⟨(.int .i64), .sh, i6⟩], .dead, .dead, .dead, .dead, .val false [⟨(.int .i64), .sh, i7⟩], .dead, .dead, .val false [⟨(.int .i64), .sh, i8⟩], .val false [⟨(.int .i64), .sh, i9⟩]] ++ deads 17, []⟩
theorem l3_eq (k : Nat) (x4 : List Int) (x5 : List Int) (i6 : Int) (i7 : Int) (i8 : Int) (i9 : Int) : l3 (k + 1) x4 x5 i6 i7 i8 i9 =
  if (decide (i9 < i8)) = true then
    if 0 ≤ i9 ∧ i9 < (x4.length : Int) then
      if 0 ≤ i9 ∧ i9 < (x5.length : Int) then
        if i6 = 0 then
          none
        else
          l3 k x4 x5 i6 ((IntKind.i64.wrap (i7 + (IntKind.i64.wrap ((x4.getD i9.toNat 0 : Int) * (x5.getD i9.toNat 0 : Int))))).tmod i6) i8 (IntKind.i64.wrap (i9 + (1 : Int)))
      else
        none
    else
      none
  else
    some ((i7, ()), ()) := by kernel_rfl
noncomputable def T (k : Nat) (a_1 : List Int) (b_2 : List Int) (p_3 : Int) : Option ((Int × Unit) × (Unit)) :=
  l3 k a_1 b_2 p_3 (0 : Int) (a_1.length : Int) (0 : Int)
theorem of (a_1 : List Int) (b_2 : List Int) (p_3 : Int) {r : (Int × Unit) × (Unit)} (h : Ev (fun k => T k a_1 b_2 p_3) r) : F (a_1, b_2, p_3, ()) = some r := Ev.run (fun k => by kernel_rfl) h
theorem ok : CtxOK prog ctx := ⟨nilM, mixed_ok, tab_ok tab_good, nilM, nilM, nilM⟩
theorem S : Sound prog ⟨173, sig, F⟩ := sound_k (res := [.tmp 6]) func173 ok
end impl_dot
namespace impl_product_1
noncomputable def sig : Sig := ⟨[.val false (.int .i64), .val false (.int .i64), .rptr TMatrix, .rptr (.sl (.sl (.int .i64)))], [(.val false, (.int .i64), .deep)]⟩
noncomputable def ctx : Ctx := ⟨tabOf tabl, [⟨173, impl_dot.sig, impl_dot.F⟩, ⟨174, impl_Matrix_row.sig, impl_Matrix_row.F⟩], [], [], [], []⟩
noncomputable def cfg : Cfg := ⟨ctx, [], [], fun _ => ([], []), fun _ => []⟩
noncomputable def code : Code := (f290).body.getD .skip
noncomputable def fin := finK ctx sig [.tmp 6]
noncomputable def F (d : Int × Int × (Int × Int × Int × List Int) × List (List Int) × Unit) : Option ((Int × Unit) × (Unit)) := anyK (runFn cfg fin code (initSt sig.ps d 17))
noncomputable def T (i_1 : Int) (j_2 : Int) (a_3 : Int) (a_4 : Int) (a_5 : Int) (a_6 : List Int) (a_7 : List (List Int)) : Option ((Int × Unit) × (Unit)) :=
  (impl_Matrix_row.F ((a_3, (a_4, (a_5, a_6))), i_1, ())).bind fun r8 =>
    if 0 ≤ j_2 ∧ j_2 < (a_7.length : Int) then
      (impl_dot.F (r8.1.1, a_7.getD j_2.toNat ([] : List Int), a_3, ())).bind fun r9 =>
        some (((r9.1.1 : Int), ()), ())
    else
      none
theorem eq (i_1 : Int) (j_2 : Int) (a_3 : Int) (a_4 : Int) (a_5 : Int) (a_6 : List Int) (a_7 : List (List Int)) : F (i_1, j_2, (a_3, (a_4, (a_5, a_6))), a_7, ()) = T i_1 j_2 a_3 a_4 a_5 a_6 a_7 := eq_any fun k => by kernel_rfl
theorem ok : CtxOK prog ctx := ⟨nilM, mixed_ok, tab_ok tab_good, consM ⟨impl_dot.S, consM ⟨impl_Matrix_row.S, nilM⟩⟩, nilM, nilM⟩
theorem S : Sound prog ⟨290, sig, F⟩ := sound_k (res := [.tmp 6]) func290 ok
noncomputable def cloG (y : (Int × Int × Int × List Int) × List (List Int) × Unit) (d : Int × Int × Unit) : Option (Int × Unit) := (F (joinIns [.rptr TMatrix, .rptr (.sl (.sl (.int .i64)))] [(false, (.int .i64)), (false, (.int .i64))] d y)).map (·.1)
noncomputable def clo : Clo := ⟨290, ⟨[(false, (.int .i64)), (false, (.int .i64))], [(.val false, (.int .i64), .deep)]⟩, [.rptr TMatrix, .rptr (.sl (.sl (.int .i64)))], cloG⟩
theorem cloS : SoundClo prog clo := sound_clo (s := ⟨[(false, (.int .i64)), (false, (.int .i64))], [(.val false, (.int .i64), .deep)]⟩) (caps := [.rptr TMatrix, .rptr (.sl (.sl (.int .i64)))]) rfl S
end impl_product_1
namespace impl_product
noncomputable def sig : Sig := ⟨[.val true TMatrix, .val true TMatrix], [(.val true, TMatrix, .deep)]⟩
noncomputable def ctx : Ctx := ⟨tabOf tabl, [⟨135, impl_filled.sig, impl_filled.F⟩, ⟨143, impl_columnsOf.sig, impl_columnsOf.F⟩], [impl_product_1.clo], [], [], []⟩
noncomputable def cfg : Cfg := ⟨ctx, [], [], fun _ => ([], []), fun _ => []⟩
noncomputable def code : Code := (f265).body.getD .skip
noncomputable def fin := finK ctx sig [.cell 4 87]
noncomputable def F (d : (Int × Int × Int × List Int) × (Int × Int × Int × List Int) × Unit) : Option (((Int × Int × Int × List Int) × Unit) × (Unit)) := anyK (runFn cfg fin code (initSt sig.ps d 16))
noncomputable def T (a_1 : Int) (a_2 : Int) (a_3 : Int) (a_4 : List Int) (b_5 : Int) (b_6 : Int) (b_7 : Int) (b_8 : List Int) : Option (((Int × Int × Int × List Int) × Unit) × (Unit)) :=
  (impl_columnsOf.F ((b_5, (b_6, (b_7, b_8))), ())).bind fun r9 =>
    (impl_filled.F (a_1, a_2, b_7, impl_product_1.cloG ((a_1, (a_2, (a_3, a_4))), r9.1.1, ()), ())).bind fun r10 =>
      some ((r10.1.1, ()), ())
theorem eq (a_1 : Int) (a_2 : Int) (a_3 : Int) (a_4 : List Int) (b_5 : Int) (b_6 : Int) (b_7 : Int) (b_8 : List Int) : F ((a_1, (a_2, (a_3, a_4))), (b_5, (b_6, (b_7, b_8))), ()) = T a_1 a_2 a_3 a_4 b_5 b_6 b_7 b_8 := eq_any fun k => by kernel_rfl
theorem ok : CtxOK prog ctx := ⟨nilM, mixed_ok, tab_ok tab_good, consM ⟨impl_filled.S, consM ⟨impl_columnsOf.S, nilM⟩⟩, consM ⟨impl_product_1.cloS, nilM⟩, nilM⟩
theorem S : Sound prog ⟨265, sig, F⟩ := sound_k (res := [.cell 4 87]) func265 ok
end impl_product
namespace impl_SameMatrix
noncomputable def sig : Sig := ⟨[.val true TMatrix, .val true TMatrix], [(.val false, .bool, .deep)]⟩
noncomputable def ctx : Ctx := ⟨tabOf tabl, [⟨259, slices_Equal_Lint64_int64.sig, slices_Equal_Lint64_int64.F⟩], [], [], [], []⟩
noncomputable def cfg : Cfg := ⟨ctx, [], [], fun _ => ([], []), fun _ => []⟩
noncomputable def code : Code := (f266).body.getD .skip
noncomputable def fin := finK ctx sig [.tmp 4]
noncomputable def F (d : (Int × Int × Int × List Int) × (Int × Int × Int × List Int) × Unit) : Option ((Bool × Unit) × (Unit)) := anyK (runFn cfg fin code (initSt sig.ps d 31))
noncomputable def T (a_1 : Int) (a_2 : Int) (a_3 : Int) (a_4 : List Int) (b_5 : Int) (b_6 : Int) (b_7 : Int) (b_8 : List Int) : Option ((Bool × Unit) × (Unit)) :=
  if (a_1 == b_5) = true then
    if (a_2 == b_6) = true then
      if (a_3 == b_7) = true then
        (slices_Equal_Lint64_int64.F (a_4, b_8, ())).bind fun r9 =>
          some (((r9.1.1 : Bool), ()), ())
      else
        some ((false, ()), ())
    else
      some ((false, ()), ())
  else
    some ((false, ()), ())
theorem eq (a_1 : Int) (a_2 : Int) (a_3 : Int) (a_4 : List Int) (b_5 : Int) (b_6 : Int) (b_7 : Int) (b_8 : List Int) : F ((a_1, (a_2, (a_3, a_4))), (b_5, (b_6, (b_7, b_8))), ()) = T a_1 a_2 a_3 a_4 b_5 b_6 b_7 b_8 := eq_any fun k => by kernel_rfl
theorem ok : CtxOK prog ctx := ⟨nilM, mixed_ok, tab_ok tab_good, consM ⟨slices_Equal_Lint64_int64.S, nilM⟩, nilM, nilM⟩
theorem S : Sound prog ⟨266, sig, F⟩ := sound_k (res := [.tmp 4]) func266 ok
end impl_SameMatrix
namespace impl_wrongSquare
noncomputable def sig : Sig := ⟨[.val true TSheaf], [(.val false, (.int .i64), .deep), (.val false, (.int .i64), .deep), (.val false, .bool, .deep)]⟩
noncomputable def ctx : Ctx := ⟨tabOf tabl, [⟨124, impl_direct.sig, impl_direct.F⟩, ⟨162, impl_faceIndices.sig, impl_faceIndices.F⟩, ⟨265, impl_product.sig, impl_product.F⟩, ⟨266, impl_SameMatrix.sig, impl_SameMatrix.F⟩], [], [], [], []⟩
noncomputable def cfg : Cfg := ⟨ctx, [], [], fun id => match id with | 2 => ([1, 15, 16, 17], [4]) | 8 => ([1, 6, 7, 8, 15, 16, 17, 31, 32], [4, 32]) | 11 => ([1, 6, 7, 8, 9, 10, 15, 16, 17, 31, 32], [4, 32]) | _ => ([], []), fun _ => []⟩
noncomputable def code : Code := (f193).body.getD .skip
noncomputable def fin := finK ctx sig [.tmp 2, .tmp 3, .tmp 4]
noncomputable def F (d : (List (List Int) × Int × List Int × List (Int × Int × Int × List Int)) × Unit) : Option ((Int × Int × Bool × Unit) × (Unit)) := anyK (runFn cfg fin code (initSt sig.ps d 86))
noncomputable def l2 (k : Nat) (x5 : List (List Int)) (i6 : Int) (i7 : Int) (x8 : List (List Int)) (i9 : Int) (x10 : List Int) (x11 : List (Int × Int × Int × List Int)) : Option ((Int × Int × Bool × Unit) × (Unit)) :=
  Go.Vm.runT cfg fin k [.inLoop (sub [1, 0, 1, 0, 0] code), .inBlock 0, .code (sub [1, 1] code)]
    ⟨[.dead, .ref 4 (.root 0), .dead, .dead, .dead, .dead, .dead, .dead, .dead, .dead, .dead, .dead, .dead, .dead, .dead, .val false [⟨(.sl (.sl (.int .i64))), .sh, x5⟩], .val false [⟨(.int .i64), .sh, i6⟩], .val false [⟨(.int .i64), .sh, i7⟩]] ++ deads 68, [(4, ⟨true, [⟨(.sl (.sl (.int .i64))), .sh, x8⟩, ⟨(.int .i64), .sh, i9⟩, ⟨(.sl (.int .i64)), .sh, x10⟩, ⟨(.sl TMatrix), .sh, x11⟩]⟩)]⟩
noncomputable def l8 (k : Nat) (x13 : List Int) (i14 : Int) (x15 : List (List Int)) (i16 : Int) (i17 : Int) (i18 : Int) (i19 : Int) (x20 : List (List Int)) (i21 : Int) (x22 : List Int) (x23 : List (Int × Int × Int × List Int)) (x24 : List Int) : Option ((Int × Int × Bool × Unit) × (Unit)) :=
  Go.Vm.runT cfg fin k [.inLoop (sub [1, 0, 1, 0, 0, 1, 1, 0, 0, 1, 1, 1, 1, 1, 0, 0] code), .inBlock 2, .inBlock 1, .code (sub [1, 0, 1, 0, 0, 1, 1, 1] code), .inLoop (sub [1, 0, 1, 0, 0] code), .inBlock 0, .code (sub [1, 1] code)]
    ⟨[.dead, .ref 4 (.root 0), .dead, .dead, .dead, .dead, .val false [⟨(.sl (.int .i64)), .sh, x13⟩], .val false [⟨(.int .i64), .sh, i14⟩], .view 32 (.root 0) 1 false, .dead, .dead, .dead, .dead, .dead, .dead, .val false [⟨(.sl (.sl (.int .i64))), .sh, x15⟩], .val false [⟨(.int .i64), .sh, i16⟩], .val false [⟨(.int .i64), .sh, i17⟩], .dead, .dead, .dead, .dead, .dead, .dead, .dead, .dead, .dead, .dead, .dead, .dead, .dead, .val false [⟨(.int .i64), .sh, i18⟩], .val false [⟨(.int .i64), .sh, i19⟩]] ++ deads 53, [(4, ⟨true, [⟨(.sl (.sl (.int .i64))), .sh, x20⟩, ⟨(.int .i64), .sh, i21⟩, ⟨(.sl (.int .i64)), .sh, x22⟩, ⟨(.sl TMatrix), .sh, x23⟩]⟩), (32, ⟨false, [⟨(.sl (.int .i64)), .deep, x24⟩]⟩)]⟩
noncomputable def l11 (k : Nat) (x25 : List Int) (i26 : Int) (i27 : Int) (i28 : Int) (x29 : List (List Int)) (i30 : Int) (i31 : Int) (i32 : Int) (i33 : Int) (x34 : List (List Int)) (i35 : Int) (x36 : List Int) (x37 : List (Int × Int × Int × List Int)) (x38 : List Int) : Option ((Int × Int × Bool × Unit) × (Unit)) :=
  Go.Vm.runT cfg fin k [.inLoop (sub [1, 0, 1, 0, 0, 1, 1, 0, 0, 1, 1, 1, 1, 1, 0, 0, 1, 1, 0, 0, 1, 1, 0, 0] code), .inBlock 4, .inBlock 3, .code (sub [1, 0, 1, 0, 0, 1, 1, 0, 0, 1, 1, 1, 1, 1, 0, 0, 1, 1, 1] code), .inLoop (sub [1, 0, 1, 0, 0, 1, 1, 0, 0, 1, 1, 1, 1, 1, 0, 0] code), .inBlock 2, .inBlock 1, .code (sub [1, 0, 1, 0, 0, 1, 1, 1] code), .inLoop (sub [1, 0, 1, 0, 0] code), .inBlock 0, .code (sub [1, 1] code)]
    ⟨[.dead, .ref 4 (.root 0), .dead, .dead, .dead, .dead, .val false [⟨(.sl (.int .i64)), .sh, x25⟩], .val false [⟨(.int .i64), .sh, i26⟩], .view 32 (.root 0) 1 false, .val false [⟨(.int .i64), .sh, i27⟩], .val false [⟨(.int .i64), .sh, i28⟩], .dead, .dead, .dead, .dead, .val false [⟨(.sl (.sl (.int .i64))), .sh, x29⟩], .val false [⟨(.int .i64), .sh, i30⟩], .val false [⟨(.int .i64), .sh, i31⟩], .dead, .dead, .dead, .dead, .dead, .dead, .dead, .dead, .dead, .dead, .dead, .dead, .dead, .val false [⟨(.int .i64), .sh, i32⟩], .val false [⟨(.int .i64), .sh, i33⟩]] ++ deads 53, [(4, ⟨true, [⟨(.sl (.sl (.int .i64))), .sh, x34⟩, ⟨(.int .i64), .sh, i35⟩, ⟨(.sl (.int .i64)), .sh, x36⟩, ⟨(.sl TMatrix), .sh, x37⟩]⟩), (32, ⟨false, [⟨(.sl (.int .i64)), .deep, x38⟩]⟩)]⟩
theorem l2_eq (k : Nat) (x5 : List (List Int)) (i6 : Int) (i7 : Int) (x8 : List (List Int)) (i9 : Int) (x10 : List Int) (x11 : List (Int × Int × Int × List Int)) : l2 (k + 1) x5 i6 i7 x8 i9 x10 x11 =
  if (decide (i7 < i6)) = true then
    if 0 ≤ i7 ∧ i7 < (x5.length : Int) then
      if (decide (((x5.getD i7.toNat ([] : List Int)).length : Int) < (3 : Int))) = true then
        l2 k x5 i6 (IntKind.i64.wrap (i7 + (1 : Int))) x8 i9 x10 x11
      else
        (impl_faceIndices.F (x8, i7, ())).bind fun r12 =>
          l8 k (x5.getD i7.toNat ([] : List Int)) i7 x5 i6 i7 ((x5.getD i7.toNat ([] : List Int)).length : Int) (0 : Int) x8 i9 x10 x11 r12.1.1
    else
      none
  else
    some (((0 : Int), ((0 : Int), (false, ()))), ()) := by kernel_rfl
theorem l8_eq (k : Nat) (x13 : List Int) (i14 : Int) (x15 : List (List Int)) (i16 : Int) (i17 : Int) (i18 : Int) (i19 : Int) (x20 : List (List Int)) (i21 : Int) (x22 : List Int) (x23 : List (Int × Int × Int × List Int)) (x24 : List Int) : l8 (k + 1) x13 i14 x15 i16 i17 i18 i19 x20 i21 x22 x23 x24 =
  if (decide (i19 < i18)) = true then
    l11 k x13 i14 i19 (IntKind.i64.wrap (i19 + (1 : Int))) x15 i16 i17 i18 i19 x20 i21 x22 x23 x24
  else
    l2 k x15 i16 (IntKind.i64.wrap (i17 + (1 : Int))) x20 i21 x22 x23 := by kernel_rfl
theorem l11_eq (k : Nat) (x25 : List Int) (i26 : Int) (i27 : Int) (i28 : Int) (x29 : List (List Int)) (i30 : Int) (i31 : Int) (i32 : Int) (i33 : Int) (x34 : List (List Int)) (i35 : Int) (x36 : List Int) (x37 : List (Int × Int × Int × List Int)) (x38 : List Int) : l11 (k + 1) x25 i26 i27 i28 x29 i30 i31 i32 i33 x34 i35 x36 x37 x38 =
  if (decide (i28 < (x25.length : Int))) = true then
    (impl_direct.F ((x34, (i35, (x36, x37))), i26, i27, ())).bind fun r39 =>
      if 0 ≤ i27 ∧ i27 < (x38.length : Int) then
        (impl_direct.F ((x34, (i35, (x36, x37))), (x38.getD i27.toNat 0 : Int), IntKind.i64.wrap (i28 - (1 : Int)), ())).bind fun r40 =>
          (impl_product.F (r39.1.1, r40.1.1, ())).bind fun r41 =>
            (impl_direct.F ((x34, (i35, (x36, x37))), i26, i28, ())).bind fun r42 =>
              if 0 ≤ i28 ∧ i28 < (x38.length : Int) then
                (impl_direct.F ((x34, (i35, (x36, x37))), (x38.getD i28.toNat 0 : Int), i27, ())).bind fun r43 =>
                  (impl_product.F (r42.1.1, r43.1.1, ())).bind fun r44 =>
                    (impl_SameMatrix.F (r41.1.1, r44.1.1, ())).bind fun r45 =>
                      if (!(r45.1.1 : Bool)) = true then
                        if 0 ≤ i27 ∧ i27 < (x38.length : Int) then
                          (impl_faceIndices.F (x34, (x38.getD i27.toNat 0 : Int), ())).bind fun r46 =>
                            if 0 ≤ (IntKind.i64.wrap (i28 - (1 : Int))) ∧ (IntKind.i64.wrap (i28 - (1 : Int))) < (r46.1.1.length : Int) then
                              some ((i26, (r46.1.1.getD (IntKind.i64.wrap (i28 - (1 : Int))).toNat 0, (true, ()))), ())
                            else
                              none
                        else
                          none
                      else
                        l11 k x25 i26 i27 (IntKind.i64.wrap (i28 + (1 : Int))) x29 i30 i31 i32 i33 x34 i35 x36 x37 x38
              else
                none
      else
        none
  else
    l8 k x25 i26 x29 i30 i31 i32 (IntKind.i64.wrap (i33 + (1 : Int))) x34 i35 x36 x37 x38 := by kernel_rfl
noncomputable def T (k : Nat) (toArray_1 : List (List Int)) (toArray_2 : Int) (toArray_3 : List Int) (toArray_4 : List (Int × Int × Int × List Int)) : Option ((Int × Int × Bool × Unit) × (Unit)) :=
  l2 k toArray_1 (toArray_1.length : Int) (0 : Int) toArray_1 toArray_2 toArray_3 toArray_4
theorem of (toArray_1 : List (List Int)) (toArray_2 : Int) (toArray_3 : List Int) (toArray_4 : List (Int × Int × Int × List Int)) {r : (Int × Int × Bool × Unit) × (Unit)} (h : Ev (fun k => T k toArray_1 toArray_2 toArray_3 toArray_4) r) : F ((toArray_1, (toArray_2, (toArray_3, toArray_4))), ()) = some r := Ev.run (fun k => by kernel_rfl) h
theorem ok : CtxOK prog ctx := ⟨nilM, mixed_ok, tab_ok tab_good, consM ⟨impl_direct.S, consM ⟨impl_faceIndices.S, consM ⟨impl_product.S, consM ⟨impl_SameMatrix.S, nilM⟩⟩⟩⟩, nilM, nilM⟩
theorem S : Sound prog ⟨193, sig, F⟩ := sound_k (res := [.tmp 2, .tmp 3, .tmp 4]) func193 ok
end impl_wrongSquare
namespace impl_IsSheaf
noncomputable def sig : Sig := ⟨[.val true TSheaf], [(.val false, .bool, .deep)]⟩
noncomputable def ctx : Ctx := ⟨tabOf tabl, [⟨192, impl_ValidSheaf.sig, impl_ValidSheaf.F⟩, ⟨193, impl_wrongSquare.sig, impl_wrongSquare.F⟩], [], [], [], []⟩
noncomputable def cfg : Cfg := ⟨ctx, [], [], fun _ => ([], []), fun _ => []⟩
noncomputable def code : Code := (f103).body.getD .skip
noncomputable def fin := finK ctx sig [.tmp 2]
noncomputable def F (d : (List (List Int) × Int × List Int × List (Int × Int × Int × List Int)) × Unit) : Option ((Bool × Unit) × (Unit)) := anyK (runFn cfg fin code (initSt sig.ps d 17))
noncomputable def T (s_1 : List (List Int)) (s_2 : Int) (s_3 : List Int) (s_4 : List (Int × Int × Int × List Int)) : Option ((Bool × Unit) × (Unit)) :=
  (impl_ValidSheaf.F ((s_1, (s_2, (s_3, s_4))), ())).bind fun r5 =>
    if (!(r5.1.1 : Bool)) = true then
      some ((false, ()), ())
    else
      (impl_wrongSquare.F ((s_1, (s_2, (s_3, s_4))), ())).bind fun r6 =>
        some ((!(r6.1.2.2.1 : Bool), ()), ())
theorem eq (s_1 : List (List Int)) (s_2 : Int) (s_3 : List Int) (s_4 : List (Int × Int × Int × List Int)) : F ((s_1, (s_2, (s_3, s_4))), ()) = T s_1 s_2 s_3 s_4 := eq_any fun k => by kernel_rfl
theorem ok : CtxOK prog ctx := ⟨nilM, mixed_ok, tab_ok tab_good, consM ⟨impl_ValidSheaf.S, consM ⟨impl_wrongSquare.S, nilM⟩⟩, nilM, nilM⟩
theorem S : Sound prog ⟨103, sig, F⟩ := sound_k (res := [.tmp 2]) func103 ok
end impl_IsSheaf
namespace impl_areSheaves_1
noncomputable def sig : Sig := ⟨[.val true TSheaf], [(.val false, .bool, .deep)]⟩
noncomputable def ctx : Ctx := ⟨tabOf tabl, [⟨103, impl_IsSheaf.sig, impl_IsSheaf.F⟩], [], [], [], []⟩
noncomputable def cfg : Cfg := ⟨ctx, [], [], fun _ => ([], []), fun _ => []⟩
noncomputable def code : Code := (f217).body.getD .skip
noncomputable def fin := finK ctx sig [.tmp 2]
noncomputable def F (d : (List (List Int) × Int × List Int × List (Int × Int × Int × List Int)) × Unit) : Option ((Bool × Unit) × (Unit)) := anyK (runFn cfg fin code (initSt sig.ps d 6))
noncomputable def T (s_1 : List (List Int)) (s_2 : Int) (s_3 : List Int) (s_4 : List (Int × Int × Int × List Int)) : Option ((Bool × Unit) × (Unit)) :=
  (impl_IsSheaf.F ((s_1, (s_2, (s_3, s_4))), ())).bind fun r5 =>
    some ((!(r5.1.1 : Bool), ()), ())
theorem eq (s_1 : List (List Int)) (s_2 : Int) (s_3 : List Int) (s_4 : List (Int × Int × Int × List Int)) : F ((s_1, (s_2, (s_3, s_4))), ()) = T s_1 s_2 s_3 s_4 := eq_any fun k => by kernel_rfl
theorem ok : CtxOK prog ctx := ⟨nilM, mixed_ok, tab_ok tab_good, consM ⟨impl_IsSheaf.S, nilM⟩, nilM, nilM⟩
theorem S : Sound prog ⟨217, sig, F⟩ := sound_k (res := [.tmp 2]) func217 ok
noncomputable def cloG (y : Unit) (d : (List (List Int) × Int × List Int × List (Int × Int × Int × List Int)) × Unit) : Option (Bool × Unit) := (F (joinIns [] [(true, TSheaf)] d y)).map (·.1)
noncomputable def clo : Clo := ⟨217, ⟨[(true, TSheaf)], [(.val false, .bool, .deep)]⟩, [], cloG⟩
theorem cloS : SoundClo prog clo := sound_clo (s := ⟨[(true, TSheaf)], [(.val false, .bool, .deep)]⟩) (caps := []) rfl S
end impl_areSheaves_1
namespace slices_EqualFunc_LLint64_LLint64_Lint64_Lint64
noncomputable def sig : Sig := ⟨[.val false (.sl (.sl (.int .i64))), .val false (.sl (.sl (.int .i64))), .fnx ⟨[(false, (.sl (.int .i64))), (false, (.sl (.int .i64)))], [(.val false, .bool, .deep)]⟩], [(.val false, .bool, .deep)]⟩
noncomputable def ctx : Ctx := ⟨tabOf tabl, [], [], [], [], []⟩
noncomputable def cfg : Cfg := ⟨ctx, [], [], fun id => match id with | 4 => ([1, 2, 15, 16, 17], []) | _ => ([], []), fun _ => []⟩
noncomputable def code : Code := (f315).body.getD .skip
noncomputable def fin := finK ctx sig [.tmp 6]
noncomputable def F (d : List (List Int) × List (List Int) × ((List Int × List Int × Unit) → Option (Bool × Unit)) × Unit) : Option ((Bool × Unit) × (Unit)) := anyK (runFn cfg fin code (initSt sig.ps d 32))
noncomputable def l4 (k : Nat) (x4 : List (List Int)) (f5 : (List Int × List Int × Unit) → Option (Bool × Unit)) (x6 : List (List Int)) (i7 : Int) (i8 : Int) : Option ((Bool × Unit) × (Unit)) :=
  Go.Vm.runT cfg fin k [.inLoop (sub [1, 1, 0, 1, 0, 0] code), .inBlock 0, .code (sub [1, 1, 1] code)]
    ⟨[.dead, .val false [⟨(.sl (.sl (.int .i64))), .sh, x4⟩], .fnx ⟨[(false, (.sl (.int .i64))), (false, (.sl (.int .i64)))], [(.val false, .bool, .deep)]⟩ f5, .dead, .dead, .dead, .dead, .dead, .dead, .dead, .dead, .dead, .dead, .dead, .dead, .val false [⟨(.sl (.sl (.int .i64))), .sh, x6⟩], .val false [⟨(.int .i64), .sh, i7⟩], .val false [⟨(.int .i64), .sh, i8⟩]] ++ deads 14, []⟩
theorem l4_eq (k : Nat) (x4 : List (List Int)) (f5 : (List Int × List Int × Unit) → Option (Bool × Unit)) (x6 : List (List Int)) (i7 : Int) (i8 : Int) : l4 (k + 1) x4 f5 x6 i7 i8 =
  if (decide (i8 < i7)) = true then
    if 0 ≤ i8 ∧ i8 < (x6.length : Int) then
      if 0 ≤ i8 ∧ i8 < (x4.length : Int) then
        (f5 (x6.getD i8.toNat ([] : List Int), x4.getD i8.toNat ([] : List Int), ())).bind fun r9 =>
          if (!(r9.1 : Bool)) = true then
            some ((false, ()), ())
          else
            l4 k x4 f5 x6 i7 (IntKind.i64.wrap (i8 + (1 : Int)))
      else
        none
    else
      none
  else
    some ((true, ()), ()) := by kernel_rfl
noncomputable def T (k : Nat) (s1_1 : List (List Int)) (s2_2 : List (List Int)) (f_3 : (List Int × List Int × Unit) → Option (Bool × Unit)) : Option ((Bool × Unit) × (Unit)) :=
  if ((s1_1.length : Int) != (s2_2.length : Int)) = true then
    some ((false, ()), ())
  else
    l4 k s2_2 f_3 s1_1 (s1_1.length : Int) (0 : Int)
theorem of (s1_1 : List (List Int)) (s2_2 : List (List Int)) (f_3 : (List Int × List Int × Unit) → Option (Bool × Unit)) {r : (Bool × Unit) × (Unit)} (h : Ev (fun k => T k s1_1 s2_2 f_3) r) : F (s1_1, s2_2, f_3, ()) = some r := Ev.run (fun k => by kernel_rfl) h
theorem ok : CtxOK prog ctx := ⟨nilM, mixed_ok, tab_ok tab_good, nilM, nilM, nilM⟩
theorem S : Sound prog ⟨315, sig, F⟩ := sound_k (res := [.tmp 6]) func315 ok
end slices_EqualFunc_LLint64_LLint64_Lint64_Lint64
namespace impl_areSame
noncomputable def sig : Sig := ⟨[.val false (.sl (.sl (.int .i64))), .val false (.sl (.sl (.int .i64)))], [(.val false, .bool, .deep)]⟩
noncomputable def ctx : Ctx := ⟨tabOf tabl, [⟨315, slices_EqualFunc_LLint64_LLint64_Lint64_Lint64.sig, slices_EqualFunc_LLint64_LLint64_Lint64_Lint64.F⟩], [slices_Equal_Lint64_int64.clo], [], [], []⟩
noncomputable def cfg : Cfg := ⟨ctx, [], [], fun _ => ([], []), fun _ => []⟩
noncomputable def code : Code := (f294).body.getD .skip
noncomputable def fin := finK ctx sig [.tmp 4]
noncomputable def F (d : List (List Int) × List (List Int) × Unit) : Option ((Bool × Unit) × (Unit)) := anyK (runFn cfg fin code (initSt sig.ps d 8))
noncomputable def T (a_1 : List (List Int)) (b_2 : List (List Int)) : Option ((Bool × Unit) × (Unit)) :=
  (slices_EqualFunc_LLint64_LLint64_Lint64_Lint64.F (a_1, b_2, slices_Equal_Lint64_int64.cloG (()), ())).bind fun r3 =>
    some (((r3.1.1 : Bool), ()), ())
theorem eq (a_1 : List (List Int)) (b_2 : List (List Int)) : F (a_1, b_2, ()) = T a_1 b_2 := eq_any fun k => by kernel_rfl
theorem ok : CtxOK prog ctx := ⟨nilM, mixed_ok, tab_ok tab_good, consM ⟨slices_EqualFunc_LLint64_LLint64_Lint64_Lint64.S, nilM⟩, consM ⟨slices_Equal_Lint64_int64.cloS, nilM⟩, nilM⟩
theorem S : Sound prog ⟨294, sig, F⟩ := sound_k (res := [.tmp 4]) func294 ok
end impl_areSame
namespace impl_SameComplex
noncomputable def sig : Sig := ⟨[.val true (.sl (.sl (.int .i64))), .val true (.sl (.sl (.int .i64)))], [(.val false, .bool, .deep)]⟩
noncomputable def ctx : Ctx := ⟨tabOf tabl, [⟨294, impl_areSame.sig, impl_areSame.F⟩], [], [], [], []⟩
noncomputable def cfg : Cfg := ⟨ctx, [], [], fun _ => ([], []), fun _ => []⟩
noncomputable def code : Code := (f278).body.getD .skip
noncomputable def fin := finK ctx sig [.tmp 4]
noncomputable def F (d : List (List Int) × List (List Int) × Unit) : Option ((Bool × Unit) × (Unit)) := anyK (runFn cfg fin code (initSt sig.ps d 10))
noncomputable def T (a_1 : List (List Int)) (b_2 : List (List Int)) : Option ((Bool × Unit) × (Unit)) :=
  (impl_areSame.F (a_1, b_2, ())).bind fun r3 =>
    some (((r3.1.1 : Bool), ()), ())
theorem eq (a_1 : List (List Int)) (b_2 : List (List Int)) : F (a_1, b_2, ()) = T a_1 b_2 := eq_any fun k => by kernel_rfl
theorem ok : CtxOK prog ctx := ⟨nilM, mixed_ok, tab_ok tab_good, consM ⟨impl_areSame.S, nilM⟩, nilM, nilM⟩
theorem S : Sound prog ⟨278, sig, F⟩ := sound_k (res := [.tmp 4]) func278 ok
end impl_SameComplex
namespace impl_related
noncomputable def sig : Sig := ⟨[.val true TSheaf, .val true TSheaf], [(.val false, .bool, .deep)]⟩
noncomputable def ctx : Ctx := ⟨tabOf tabl, [⟨278, impl_SameComplex.sig, impl_SameComplex.F⟩], [], [], [], []⟩
noncomputable def cfg : Cfg := ⟨ctx, [], [], fun _ => ([], []), fun _ => []⟩
noncomputable def code : Code := (f219).body.getD .skip
noncomputable def fin := finK ctx sig [.tmp 4]
noncomputable def F (d : (List (List Int) × Int × List Int × List (Int × Int × Int × List Int)) × (List (List Int) × Int × List Int × List (Int × Int × Int × List Int)) × Unit) : Option ((Bool × Unit) × (Unit)) := anyK (runFn cfg fin code (initSt sig.ps d 17))
noncomputable def T (a_1 : List (List Int)) (a_2 : Int) (a_3 : List Int) (a_4 : List (Int × Int × Int × List Int)) (b_5 : List (List Int)) (b_6 : Int) (b_7 : List Int) (b_8 : List (Int × Int × Int × List Int)) : Option ((Bool × Unit) × (Unit)) :=
  (impl_SameComplex.F (a_1, b_5, ())).bind fun r9 =>
    if (r9.1.1 : Bool) = true then
      some ((a_2 == b_6, ()), ())
    else
      some ((false, ()), ())
theorem eq (a_1 : List (List Int)) (a_2 : Int) (a_3 : List Int) (a_4 : List (Int × Int × Int × List Int)) (b_5 : List (List Int)) (b_6 : Int) (b_7 : List Int) (b_8 : List (Int × Int × Int × List Int)) : F ((a_1, (a_2, (a_3, a_4))), (b_5, (b_6, (b_7, b_8))), ()) = T a_1 a_2 a_3 a_4 b_5 b_6 b_7 b_8 := eq_any fun k => by kernel_rfl
theorem ok : CtxOK prog ctx := ⟨nilM, mixed_ok, tab_ok tab_good, consM ⟨impl_SameComplex.S, nilM⟩, nilM, nilM⟩
theorem S : Sound prog ⟨219, sig, F⟩ := sound_k (res := [.tmp 4]) func219 ok
end impl_related
namespace impl_areSheaves_2
noncomputable def sig : Sig := ⟨[.val true TSheaf, .rptr (.sl TSheaf)], [(.val false, .bool, .deep)]⟩
noncomputable def ctx : Ctx := ⟨tabOf tabl, [⟨219, impl_related.sig, impl_related.F⟩], [], [], [], []⟩
noncomputable def cfg : Cfg := ⟨ctx, [], [], fun _ => ([], []), fun _ => []⟩
noncomputable def code : Code := (f218).body.getD .skip
noncomputable def fin := finK ctx sig [.tmp 3]
noncomputable def F (d : (List (List Int) × Int × List Int × List (Int × Int × Int × List Int)) × List (List (List Int) × Int × List Int × List (Int × Int × Int × List Int)) × Unit) : Option ((Bool × Unit) × (Unit)) := anyK (runFn cfg fin code (initSt sig.ps d 10))
noncomputable def T (s_1 : List (List Int)) (s_2 : Int) (s_3 : List Int) (s_4 : List (Int × Int × Int × List Int)) (a_5 : List (List (List Int) × Int × List Int × List (Int × Int × Int × List Int))) : Option ((Bool × Unit) × (Unit)) :=
  if 0 ≤ (0 : Int) ∧ (0 : Int) < (a_5.length : Int) then
    (impl_related.F ((s_1, (s_2, (s_3, s_4))), a_5.getD (0 : Int).toNat (([] : List (List Int)), 0, ([] : List Int), ([] : List (Int × Int × Int × List Int))), ())).bind fun r6 =>
      some ((!(r6.1.1 : Bool), ()), ())
  else
    none
theorem eq (s_1 : List (List Int)) (s_2 : Int) (s_3 : List Int) (s_4 : List (Int × Int × Int × List Int)) (a_5 : List (List (List Int) × Int × List Int × List (Int × Int × Int × List Int))) : F ((s_1, (s_2, (s_3, s_4))), a_5, ()) = T s_1 s_2 s_3 s_4 a_5 := eq_any fun k => by kernel_rfl
theorem ok : CtxOK prog ctx := ⟨nilM, mixed_ok, tab_ok tab_good, consM ⟨impl_related.S, nilM⟩, nilM, nilM⟩
theorem S : Sound prog ⟨218, sig, F⟩ := sound_k (res := [.tmp 3]) func218 ok
noncomputable def cloG (y : List (List (List Int) × Int × List Int × List (Int × Int × Int × List Int)) × Unit) (d : (List (List Int) × Int × List Int × List (Int × Int × Int × List Int)) × Unit) : Option (Bool × Unit) := (F (joinIns [.rptr (.sl TSheaf)] [(true, TSheaf)] d y)).map (·.1)
noncomputable def clo : Clo := ⟨218, ⟨[(true, TSheaf)], [(.val false, .bool, .deep)]⟩, [.rptr (.sl TSheaf)], cloG⟩
theorem cloS : SoundClo prog clo := sound_clo (s := ⟨[(true, TSheaf)], [(.val false, .bool, .deep)]⟩) (caps := [.rptr (.sl TSheaf)]) rfl S
end impl_areSheaves_2
namespace impl_areSheaves
noncomputable def sig : Sig := ⟨[.val false (.sl TSheaf)], [(.val false, (.int .i64), .deep)]⟩
noncomputable def ctx : Ctx := ⟨tabOf tabl, [⟨216, slices_ContainsFunc_Limpl_Sheaf_impl_Sheaf.sig, slices_ContainsFunc_Limpl_Sheaf_impl_Sheaf.F⟩], [impl_areSheaves_1.clo, impl_areSheaves_2.clo], [], [], []⟩
noncomputable def cfg : Cfg := ⟨ctx, [], [], fun _ => ([], []), fun _ => []⟩
noncomputable def code : Code := (f132).body.getD .skip
noncomputable def fin := finK ctx sig [.tmp 2]
noncomputable def F (d : List (List (List Int) × Int × List Int × List (Int × Int × Int × List Int)) × Unit) : Option ((Int × Unit) × (Unit)) := anyK (runFn cfg fin code (initSt sig.ps d 8))
noncomputable def T (list_1 : List (List (List Int) × Int × List Int × List (Int × Int × Int × List Int))) : Option ((Int × Unit) × (Unit)) :=
  (slices_ContainsFunc_Limpl_Sheaf_impl_Sheaf.F (list_1, impl_areSheaves_1.cloG (()), ())).bind fun r2 =>
    if (r2.1.1 : Bool) = true then
      some (((1 : Int), ()), ())
    else
      (slices_ContainsFunc_Limpl_Sheaf_impl_Sheaf.F (list_1, impl_areSheaves_2.cloG (list_1, ()), ())).bind fun r3 =>
        if (r3.1.1 : Bool) = true then
          some (((6 : Int), ()), ())
        else
          some (((0 : Int), ()), ())
theorem eq (list_1 : List (List (List Int) × Int × List Int × List (Int × Int × Int × List Int))) : F (list_1, ()) = T list_1 := eq_any fun k => by kernel_rfl
theorem ok : CtxOK prog ctx := ⟨nilM, mixed_ok, tab_ok tab_good, consM ⟨slices_ContainsFunc_Limpl_Sheaf_impl_Sheaf.S, nilM⟩, consM ⟨impl_areSheaves_1.cloS, consM ⟨impl_areSheaves_2.cloS, nilM⟩⟩, nilM⟩
theorem S : Sound prog ⟨132, sig, F⟩ := sound_k (res := [.tmp 2]) func132 ok
end impl_areSheaves
namespace impl_SumSheaves_1_1
noncomputable def sig : Sig := ⟨[.val false (.int .i64), .val false (.int .i64), .rptr TMatrix, .rptr TMatrix], [(.val false, (.int .i64), .deep)]⟩
noncomputable def ctx : Ctx := ⟨tabOf tabl, [⟨137, impl_Matrix_at.sig, impl_Matrix_at.F⟩], [], [], [], []⟩
noncomputable def cfg : Cfg := ⟨ctx, [], [], fun _ => ([], []), fun _ => []⟩
noncomputable def code : Code := (f136).body.getD .skip
noncomputable def fin := finK ctx sig [.tmp 6]
noncomputable def F (d : Int × Int × (Int × Int × Int × List Int) × (Int × Int × Int × List Int) × Unit) : Option ((Int × Unit) × (Unit)) := anyK (runFn cfg fin code (initSt sig.ps d 43))
noncomputable def T (i_1 : Int) (j_2 : Int) (a_3 : Int) (a_4 : Int) (a_5 : Int) (a_6 : List Int) (a_7 : Int) (a_8 : Int) (a_9 : Int) (a_10 : List Int) : Option ((Int × Unit) × (Unit)) :=
  if (decide (i_1 < a_4)) = true then
    if (decide (j_2 < a_5)) = true then
      (impl_Matrix_at.F ((a_3, (a_4, (a_5, a_6))), i_1, j_2, ())).bind fun r11 =>
        some (((r11.1.1 : Int), ()), ())
    else
      if (decide (i_1 ≥ a_4)) = true then
        if (decide (j_2 ≥ a_5)) = true then
          (impl_Matrix_at.F ((a_7, (a_8, (a_9, a_10))), IntKind.i64.wrap (i_1 - a_4), IntKind.i64.wrap (j_2 - a_5), ())).bind fun r12 =>
            some (((r12.1.1 : Int), ()), ())
        else
          some (((0 : Int), ()), ())
      else
        some (((0 : Int), ()), ())
  else
    if (decide (i_1 ≥ a_4)) = true then
      if (decide (j_2 ≥ a_5)) = true then
        (impl_Matrix_at.F ((a_7, (a_8, (a_9, a_10))), IntKind.i64.wrap (i_1 - a_4), IntKind.i64.wrap (j_2 - a_5), ())).bind fun r13 =>
          some (((r13.1.1 : Int), ()), ())
      else
        some (((0 : Int), ()), ())
    else
      some (((0 : Int), ()), ())
theorem eq (i_1 : Int) (j_2 : Int) (a_3 : Int) (a_4 : Int) (a_5 : Int) (a_6 : List Int) (a_7 : Int) (a_8 : Int) (a_9 : Int) (a_10 : List Int) : F (i_1, j_2, (a_3, (a_4, (a_5, a_6))), (a_7, (a_8, (a_9, a_10))), ()) = T i_1 j_2 a_3 a_4 a_5 a_6 a_7 a_8 a_9 a_10 := eq_any fun k => by kernel_rfl
theorem ok : CtxOK prog ctx := ⟨nilM, mixed_ok, tab_ok tab_good, consM ⟨impl_Matrix_at.S, nilM⟩, nilM, nilM⟩
theorem S : Sound prog ⟨136, sig, F⟩ := sound_k (res := [.tmp 6]) func136 ok
noncomputable def cloG (y : (Int × Int × Int × List Int) × (Int × Int × Int × List Int) × Unit) (d : Int × Int × Unit) : Option (Int × Unit) := (F (joinIns [.rptr TMatrix, .rptr TMatrix] [(false, (.int .i64)), (false, (.int .i64))] d y)).map (·.1)
noncomputable def clo : Clo := ⟨136, ⟨[(false, (.int .i64)), (false, (.int .i64))], [(.val false, (.int .i64), .deep)]⟩, [.rptr TMatrix, .rptr TMatrix], cloG⟩
theorem cloS : SoundClo prog clo := sound_clo (s := ⟨[(false, (.int .i64)), (false, (.int .i64))], [(.val false, (.int .i64), .deep)]⟩) (caps := [.rptr TMatrix, .rptr TMatrix]) rfl S
end impl_SumSheaves_1_1
namespace impl_SumSheaves_1
noncomputable def sig : Sig := ⟨[.val true TEdge, .rptr TSheaf, .rptr TSheaf], [(.val true, TMatrix, .deep)]⟩
noncomputable def ctx : Ctx := ⟨tabOf tabl, [⟨124, impl_direct.sig, impl_direct.F⟩, ⟨135, impl_filled.sig, impl_filled.F⟩], [impl_SumSheaves_1_1.clo], [], [], []⟩
noncomputable def cfg : Cfg := ⟨ctx, [], [], fun _ => ([], []), fun _ => []⟩
noncomputable def code : Code := (f134).body.getD .skip
noncomputable def fin := finK ctx sig [.cell 4 87]
noncomputable def F (d : (Int × Int × Int) × (List (List Int) × Int × List Int × List (Int × Int × Int × List Int)) × (List (List Int) × Int × List Int × List (Int × Int × Int × List Int)) × Unit) : Option (((Int × Int × Int × List Int) × Unit) × (Unit)) := anyK (runFn cfg fin code (initSt sig.ps d 33))
noncomputable def T (x_1 : Int) (x_2 : Int) (x_3 : Int) (a_4 : List (List Int)) (a_5 : Int) (a_6 : List Int) (a_7 : List (Int × Int × Int × List Int)) (a_8 : List (List Int)) (a_9 : Int) (a_10 : List Int) (a_11 : List (Int × Int × Int × List Int)) : Option (((Int × Int × Int × List Int) × Unit) × (Unit)) :=
  (impl_direct.F ((a_4, (a_5, (a_6, a_7))), x_1, x_2, ())).bind fun r12 =>
    (impl_direct.F ((a_8, (a_9, (a_10, a_11))), x_1, x_2, ())).bind fun r13 =>
      (impl_filled.F (a_5, IntKind.i64.wrap ((r12.1.1.2.1 : Int) + (r13.1.1.2.1 : Int)), IntKind.i64.wrap ((r12.1.1.2.2.1 : Int) + (r13.1.1.2.2.1 : Int)), impl_SumSheaves_1_1.cloG (r12.1.1, r13.1.1, ()), ())).bind fun r14 =>
        some ((r14.1.1, ()), ())
theorem eq (x_1 : Int) (x_2 : Int) (x_3 : Int) (a_4 : List (List Int)) (a_5 : Int) (a_6 : List Int) (a_7 : List (Int × Int × Int × List Int)) (a_8 : List (List Int)) (a_9 : Int) (a_10 : List Int) (a_11 : List (Int × Int × Int × List Int)) : F ((x_1, (x_2, x_3)), (a_4, (a_5, (a_6, a_7))), (a_8, (a_9, (a_10, a_11))), ()) = T x_1 x_2 x_3 a_4 a_5 a_6 a_7 a_8 a_9 a_10 a_11 := eq_any fun k => by kernel_rfl
theorem ok : CtxOK prog ctx := ⟨nilM, mixed_ok, tab_ok tab_good, consM ⟨impl_direct.S, consM ⟨impl_filled.S, nilM⟩⟩, consM ⟨impl_SumSheaves_1_1.cloS, nilM⟩, nilM⟩
theorem S : Sound prog ⟨134, sig, F⟩ := sound_k (res := [.cell 4 87]) func134 ok
noncomputable def cloG (y : (List (List Int) × Int × List Int × List (Int × Int × Int × List Int)) × (List (List Int) × Int × List Int × List (Int × Int × Int × List Int)) × Unit) (d : (Int × Int × Int) × Unit) : Option ((Int × Int × Int × List Int) × Unit) := (F (joinIns [.rptr TSheaf, .rptr TSheaf] [(true, TEdge)] d y)).map (·.1)
noncomputable def clo : Clo := ⟨134, ⟨[(true, TEdge)], [(.val true, TMatrix, .deep)]⟩, [.rptr TSheaf, .rptr TSheaf], cloG⟩
theorem cloS : SoundClo prog clo := sound_clo (s := ⟨[(true, TEdge)], [(.val true, TMatrix, .deep)]⟩) (caps := [.rptr TSheaf, .rptr TSheaf]) rfl S
end impl_SumSheaves_1
namespace impl_SumSheaves
noncomputable def sig : Sig := ⟨[.val true TSheaf, .val true TSheaf], [(.val true, TSheaf, .deep), (.val false, (.int .i64), .deep)]⟩
noncomputable def ctx : Ctx := ⟨tabOf tabl, [⟨122, impl_sheafOf.sig, impl_sheafOf.F⟩, ⟨132, impl_areSheaves.sig, impl_areSheaves.F⟩, ⟨133, impl_areStalks.sig, impl_areStalks.F⟩], [impl_SumSheaves_1.clo], [], [], []⟩
noncomputable def cfg : Cfg := ⟨ctx, [], [], fun id => match id with | 6 => ([2, 3, 4, 7, 19, 20], [8, 12, 16, 28]) | _ => ([], []), fun _ => []⟩
noncomputable def code : Code := (f55).body.getD .skip
noncomputable def fin := finK ctx sig [.cell 4 46, .tmp 5]
noncomputable def F (d : (List (List Int) × Int × List Int × List (Int × Int × Int × List Int)) × (List (List Int) × Int × List Int × List (Int × Int × Int × List Int)) × Unit) : Option (((List (List Int) × Int × List Int × List (Int × Int × Int × List Int)) × Int × Unit) × (Unit)) := anyK (runFn cfg fin code (initSt sig.ps d 51))
noncomputable def l6 (k : Nat) (i10 : Int) (i11 : Int) (x12 : List (List Int)) (i13 : Int) (x14 : List Int) (x15 : List (Int × Int × Int × List Int)) (x16 : List (List Int)) (i17 : Int) (x18 : List Int) (x19 : List (Int × Int × Int × List Int)) (x20 : List (List Int)) (i21 : Int) (x22 : List Int) (x23 : List (Int × Int × Int × List Int)) (x24 : List Int) : Option (((List (List Int) × Int × List Int × List (Int × Int × Int × List Int)) × Int × Unit) × (Unit)) :=
  Go.Vm.runT cfg fin k [.inLoop (sub [1, 1, 1, 0, 1, 0, 0] code), .inBlock 0, .code (sub [1, 1, 1, 1] code)]
    ⟨[.dead, .dead, .ref 8 (.root 0), .ref 12 (.root 0), .ref 16 (.root 0), .dead, .dead, .view 28 (.root 0) 1 false, .dead, .dead, .dead, .dead, .dead, .dead, .dead, .dead, .dead, .dead, .dead, .val false [⟨(.int .i64), .sh, i10⟩], .val false [⟨(.int .i64), .sh, i11⟩]] ++ deads 30, [(8, ⟨true, [⟨(.sl (.sl (.int .i64))), .sh, x12⟩, ⟨(.int .i64), .sh, i13⟩, ⟨(.sl (.int .i64)), .sh, x14⟩, ⟨(.sl TMatrix), .sh, x15⟩]⟩), (12, ⟨true, [⟨(.sl (.sl (.int .i64))), .sh, x16⟩, ⟨(.int .i64), .sh, i17⟩, ⟨(.sl (.int .i64)), .sh, x18⟩, ⟨(.sl TMatrix), .sh, x19⟩]⟩), (16, ⟨true, [⟨(.sl (.sl (.int .i64))), .deep, x20⟩, ⟨(.int .i64), .sh, i21⟩, ⟨(.sl (.int .i64)), .deep, x22⟩, ⟨(.sl TMatrix), .deep, x23⟩]⟩), (28, ⟨false, [⟨(.sl (.int .i64)), .deep, x24⟩]⟩)]⟩
theorem l6_eq (k : Nat) (i10 : Int) (i11 : Int) (x12 : List (List Int)) (i13 : Int) (x14 : List Int) (x15 : List (Int × Int × Int × List Int)) (x16 : List (List Int)) (i17 : Int) (x18 : List Int) (x19 : List (Int × Int × Int × List Int)) (x20 : List (List Int)) (i21 : Int) (x22 : List Int) (x23 : List (Int × Int × Int × List Int)) (x24 : List Int) : l6 (k + 1) i10 i11 x12 i13 x14 x15 x16 i17 x18 x19 x20 i21 x22 x23 x24 =
  if (decide (i11 < i10)) = true then
    if 0 ≤ i11 ∧ i11 < (x14.length : Int) then
      if 0 ≤ i11 ∧ i11 < (x18.length : Int) then
        if x24.length + ([IntKind.i64.wrap ((x14.getD i11.toNat 0 : Int) + (x18.getD i11.toNat 0 : Int))] : List Int).length ≤ bigA then
          l6 k i10 (IntKind.i64.wrap (i11 + (1 : Int))) x12 i13 x14 x15 x16 i17 x18 x19 x20 i21 x22 x23 (x24 ++ ([IntKind.i64.wrap ((x14.getD i11.toNat 0 : Int) + (x18.getD i11.toNat 0 : Int))]))
        else
          none
      else
        none
    else
      none
  else
    (impl_areStalks.F (x12, x24, ())).bind fun r25 =>
      if (!(r25.1.1 : Bool)) = true then
        some ((([], (0, ([], []))), ((5 : Int), ())), ())
      else
        (impl_sheafOf.F (x12, i13, x24, impl_SumSheaves_1.cloG ((x12, (i13, (x14, x15))), (x16, (i17, (x18, x19))), ()), ())).bind fun r26 =>
          some ((r26.1.1, ((0 : Int), ())), ()) := by kernel_rfl
noncomputable def T (k : Nat) (a_1 : List (List Int)) (a_2 : Int) (a_3 : List Int) (a_4 : List (Int × Int × Int × List Int)) (b_5 : List (List Int)) (b_6 : Int) (b_7 : List Int) (b_8 : List (Int × Int × Int × List Int)) : Option (((List (List Int) × Int × List Int × List (Int × Int × Int × List Int)) × Int × Unit) × (Unit)) :=
  (impl_areSheaves.F ([(a_1, (a_2, (a_3, a_4))), (b_5, (b_6, (b_7, b_8)))], ())).bind fun r9 =>
    if ((r9.1.1 : Int) != (0 : Int)) = true then
      some ((([], (0, ([], []))), ((r9.1.1 : Int), ())), ())
    else
      l6 k (a_3.length : Int) (0 : Int) a_1 a_2 a_3 a_4 b_5 b_6 b_7 b_8 ([]) 0 ([]) ([]) ([])
theorem of (a_1 : List (List Int)) (a_2 : Int) (a_3 : List Int) (a_4 : List (Int × Int × Int × List Int)) (b_5 : List (List Int)) (b_6 : Int) (b_7 : List Int) (b_8 : List (Int × Int × Int × List Int)) {r : ((List (List Int) × Int × List Int × List (Int × Int × Int × List Int)) × Int × Unit) × (Unit)} (h : Ev (fun k => T k a_1 a_2 a_3 a_4 b_5 b_6 b_7 b_8) r) : F ((a_1, (a_2, (a_3, a_4))), (b_5, (b_6, (b_7, b_8))), ()) = some r := Ev.run (fun k => by kernel_rfl) h
theorem ok : CtxOK prog ctx := ⟨nilM, mixed_ok, tab_ok tab_good, consM ⟨impl_sheafOf.S, consM ⟨impl_areSheaves.S, consM ⟨impl_areStalks.S, nilM⟩⟩⟩, consM ⟨impl_SumSheaves_1.cloS, nilM⟩, nilM⟩
theorem S : Sound prog ⟨55, sig, F⟩ := sound_k (res := [.cell 4 46, .tmp 5]) func55 ok
end impl_SumSheaves
namespace laws_FnExactSumSheaves
noncomputable def sig : Sig := ⟨[.val true TSheaf, .val true TSheaf], [(.val false, .bool, .deep)]⟩
noncomputable def ctx : Ctx := ⟨tabOf tabl, [⟨24, laws_szSheaf.sig, laws_szSheaf.F⟩, ⟨27, laws_toSheaf.sig, laws_toSheaf.F⟩, ⟨31, laws_eqSheaf.sig, laws_eqSheaf.F⟩, ⟨33, laws_markSheaf.sig, laws_markSheaf.F⟩, ⟨49, laws_heldSheaf.sig, laws_heldSheaf.F⟩, ⟨54, spec_SumSheaves.sig, spec_SumSheaves.F⟩, ⟨55, impl_SumSheaves.sig, impl_SumSheaves.F⟩], [], [], [], []⟩
noncomputable def cfg : Cfg := ⟨ctx, [], [], fun _ => ([], []), fun _ => []⟩
noncomputable def code : Code := (f11).body.getD .skip
noncomputable def fin := finK ctx sig [.tmp 4]
noncomputable def F (d : (List (List Int) × Int × List Int × List (Int × Int × Int × List Int)) × (List (List Int) × Int × List Int × List (Int × Int × Int × List Int)) × Unit) : Option ((Bool × Unit) × (Unit)) := anyK (runFn cfg fin code (initSt sig.ps d 119))
noncomputable def T (toArray_1 : List (List Int)) (toArray_2 : Int) (toArray_3 : List Int) (toArray_4 : List (Int × Int × Int × List Int)) (a_5 : List (List Int)) (a_6 : Int) (a_7 : List Int) (a_8 : List (Int × Int × Int × List Int)) : Option ((Bool × Unit) × (Unit)) :=
  (laws_szSheaf.F ((toArray_1, (toArray_2, (toArray_3, toArray_4))), (1048576 : Int), ())).bind fun r9 =>
    if (decide ((r9.1.1 : Int) < (0 : Int))) = true then
      some ((true, ()), ())
    else
      (laws_szSheaf.F ((a_5, (a_6, (a_7, a_8))), (r9.1.1 : Int), ())).bind fun r10 =>
        if (decide ((r10.1.1 : Int) < (0 : Int))) = true then
          some ((true, ()), ())
        else
          (laws_toSheaf.F ((toArray_1, (toArray_2, (toArray_3, toArray_4))), ())).bind fun r11 =>
            (laws_toSheaf.F ((a_5, (a_6, (a_7, a_8))), ())).bind fun r12 =>
              (spec_SumSheaves.F (r11.1.1, r12.1.1, ())).bind fun r13 =>
                (laws_toSheaf.F ((toArray_1, (toArray_2, (toArray_3, toArray_4))), ())).bind fun r14 =>
                  (laws_toSheaf.F ((a_5, (a_6, (a_7, a_8))), ())).bind fun r15 =>
                    (impl_SumSheaves.F (r14.1.1, r15.1.1, ())).bind fun r16 =>
                      (laws_eqSheaf.F (r16.1.1, r13.1.1, ())).bind fun r17 =>
                        if (!(r17.1.1 : Bool)) = true then
                          some ((false, ()), ())
                        else
                          if ((r16.1.2.1 : Int) != (r13.1.2.1 : Int)) = true then
                            some ((false, ()), ())
                          else
                            (laws_toSheaf.F ((toArray_1, (toArray_2, (toArray_3, toArray_4))), ())).bind fun r18 =>
                              (laws_eqSheaf.F (r14.1.1, r18.1.1, ())).bind fun r19 =>
                                if (!(r19.1.1 : Bool)) = true then
                                  some ((false, ()), ())
                                else
                                  (laws_toSheaf.F ((a_5, (a_6, (a_7, a_8))), ())).bind fun r20 =>
                                    (laws_eqSheaf.F (r15.1.1, r20.1.1, ())).bind fun r21 =>
                                      if (!(r21.1.1 : Bool)) = true then
                                        some ((false, ()), ())
                                      else
                                        (laws_markSheaf.F (r14.1.1, (1 : Int), ())).bind fun r22 =>
                                          (laws_markSheaf.F (r15.1.1, (r22.1.1 : Int), ())).bind fun r23 =>
                                            if (decide ((r23.1.1 : Int) < (0 : Int))) = true then
                                              some ((false, ()), ())
                                            else
                                              (laws_eqSheaf.F (r16.1.1, r13.1.1, ())).bind fun r24 =>
                                                if (!(r24.1.1 : Bool)) = true then
                                                  some ((false, ()), ())
                                                else
                                                  if ((r16.1.2.1 : Int) != (r13.1.2.1 : Int)) = true then
                                                    some ((false, ()), ())
                                                  else
                                                    (laws_markSheaf.F (r16.1.1, (1 : Int), ())).bind fun r25 =>
                                                      (laws_heldSheaf.F (r25.2.1, (1 : Int), ())).bind fun r26 =>
                                                        if (decide ((r26.1.1 : Int) < (0 : Int))) = true then
                                                          some ((false, ()), ())
                                                        else
                                                          if ((r26.1.1 : Int) != (r25.1.1 : Int)) = true then
                                                            some ((false, ()), ())
                                                          else
                                                            (laws_toSheaf.F ((toArray_1, (toArray_2, (toArray_3, toArray_4))), ())).bind fun r27 =>
                                                              (laws_toSheaf.F ((a_5, (a_6, (a_7, a_8))), ())).bind fun r28 =>
                                                                (impl_SumSheaves.F (r27.1.1, r28.1.1, ())).bind fun r29 =>
                                                                  (laws_eqSheaf.F (r29.1.1, r13.1.1, ())).bind fun r30 =>
                                                                    if (!(r30.1.1 : Bool)) = true then
                                                                      some ((false, ()), ())
                                                                    else
                                                                      if ((r29.1.2.1 : Int) != (r13.1.2.1 : Int)) = true then
                                                                        some ((false, ()), ())
                                                                      else
                                                                        (laws_heldSheaf.F (r25.2.1, (1 : Int), ())).bind fun r31 =>
                                                                          if (decide ((r31.1.1 : Int) < (0 : Int))) = true then
                                                                            some ((false, ()), ())
                                                                          else
                                                                            if ((r31.1.1 : Int) != (r25.1.1 : Int)) = true then
                                                                              some ((false, ()), ())
                                                                            else
                                                                              some ((true, ()), ())
theorem eq (toArray_1 : List (List Int)) (toArray_2 : Int) (toArray_3 : List Int) (toArray_4 : List (Int × Int × Int × List Int)) (a_5 : List (List Int)) (a_6 : Int) (a_7 : List Int) (a_8 : List (Int × Int × Int × List Int)) : F ((toArray_1, (toArray_2, (toArray_3, toArray_4))), (a_5, (a_6, (a_7, a_8))), ()) = T toArray_1 toArray_2 toArray_3 toArray_4 a_5 a_6 a_7 a_8 := eq_any fun k => by kernel_rfl
theorem ok : CtxOK prog ctx := ⟨nilM, mixed_ok, tab_ok tab_good, consM ⟨laws_szSheaf.S, consM ⟨laws_toSheaf.S, consM ⟨laws_eqSheaf.S, consM ⟨laws_markSheaf.S, consM ⟨laws_heldSheaf.S, consM ⟨spec_SumSheaves.S, consM ⟨impl_SumSheaves.S, nilM⟩⟩⟩⟩⟩⟩⟩, nilM, nilM⟩
theorem S : Sound prog ⟨11, sig, F⟩ := sound_k (res := [.tmp 4]) func11 ok
end laws_FnExactSumSheaves
end Go.Proofs.YtjimdbbeilfkfaaGreat
