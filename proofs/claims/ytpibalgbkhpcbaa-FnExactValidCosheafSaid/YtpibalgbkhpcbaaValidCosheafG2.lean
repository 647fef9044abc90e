/- The functions, as the machine runs them. -/
import Derived.Test.YtpibalgbkhpcbaaValidCosheafG1
import Derived.Test.YtpibalgbkhpcbaaProg
import Derived.KernelRfl
import Derived.WalkKit
import Derived.Lib.Walk
import Derived.Lib.AppendZeros
namespace Go.Proofs.Ytpibalgbkhpcbaa
open Go Go.Vm
set_option linter.unusedVariables false
set_option linter.unusedSimpArgs false
/-! ### slices_Clone_Lint64_int64 -/
noncomputable def slices_Clone_Lint64_int64.sig : Sig := ⟨[.val false (.sl (.int .i64))], [(.val false, (.sl (.int .i64)), .deep)]⟩
noncomputable def slices_Clone_Lint64_int64.ctx : Ctx := ⟨tabOf tabl, [], [], [], [], []⟩
noncomputable def slices_Clone_Lint64_int64.cfg : Cfg := ⟨slices_Clone_Lint64_int64.ctx, [], [], fun _ => ([], []), fun _ => []⟩
noncomputable def slices_Clone_Lint64_int64.code : Code := (Go.Proofs.Try.f134).body.getD .skip
noncomputable def slices_Clone_Lint64_int64.fin := finK slices_Clone_Lint64_int64.ctx slices_Clone_Lint64_int64.sig [.tmp 2]
noncomputable def slices_Clone_Lint64_int64.F (d : List Int × Unit) : Option ((List Int × Unit) × (Unit)) := anyK (runFn slices_Clone_Lint64_int64.cfg slices_Clone_Lint64_int64.fin slices_Clone_Lint64_int64.code (initSt slices_Clone_Lint64_int64.sig.ps d 8))
noncomputable def slices_Clone_Lint64_int64.T (s_1 : List Int) : Option ((List Int × Unit) × (Unit)) :=
  if 0 < s_1.length then
    if ([] : List Int).length + s_1.length ≤ bigA then
      some ((([] : List Int) ++ s_1, ()), ())
    else
      none
  else
    both (
      some (([], ()), ())
    ) (
      if ([] : List Int).length + s_1.length ≤ bigA then
        some ((([] : List Int) ++ s_1, ()), ())
      else
        none
    )
theorem slices_Clone_Lint64_int64.run (k : Nat) (s_1 : List Int) : runFn slices_Clone_Lint64_int64.cfg slices_Clone_Lint64_int64.fin slices_Clone_Lint64_int64.code (initSt slices_Clone_Lint64_int64.sig.ps (s_1, ()) 8) k = slices_Clone_Lint64_int64.T s_1 := by kernel_rfl
theorem slices_Clone_Lint64_int64.eq (s_1 : List Int) : slices_Clone_Lint64_int64.F (s_1, ()) = slices_Clone_Lint64_int64.T s_1 := (congrArg anyK (funext fun k => slices_Clone_Lint64_int64.run k s_1)).trans (anyK_const _)
theorem slices_Clone_Lint64_int64.ok : CtxOK Go.Proofs.Try.prog slices_Clone_Lint64_int64.ctx := ⟨List.forall_mem_nil _, mixed_ok, tab_ok tab_good, List.forall_mem_nil _, List.forall_mem_nil _, List.forall_mem_nil _⟩
theorem slices_Clone_Lint64_int64.S : Sound Go.Proofs.Try.prog ⟨134, slices_Clone_Lint64_int64.sig, slices_Clone_Lint64_int64.F⟩ := sound_any (fn := Go.Proofs.Try.f134) (code := slices_Clone_Lint64_int64.code) (g := slices_Clone_Lint64_int64.cfg) (res := [.tmp 2]) Go.Proofs.Try.func134 (by kernel_rfl) (by kernel_rfl) slices_Clone_Lint64_int64.ok (by kernel_rfl) (by kernel_rfl) (Nat.le_of_ble_eq_true (by kernel_rfl)) (by kernel_rfl)
noncomputable def slices_Clone_Lint64_int64.sigF : Sig := ⟨[.val false (.sl (.int .i64))], [(.fr false, (.sl (.int .i64)), .deep)]⟩
theorem slices_Clone_Lint64_int64.SF : Sound Go.Proofs.Try.prog ⟨134, slices_Clone_Lint64_int64.sigF, slices_Clone_Lint64_int64.F⟩ := sound_fr slices_Clone_Lint64_int64.S
/-! ### impl_copyLists -/
noncomputable def impl_copyLists.sig : Sig := ⟨[.val false (.sl (.sl (.int .i64)))], [(.val false, (.sl (.sl (.int .i64))), .deep)]⟩
noncomputable def impl_copyLists.ctx : Ctx := ⟨tabOf tabl, [⟨134, slices_Clone_Lint64_int64.sig, slices_Clone_Lint64_int64.F⟩], [], [], [], []⟩
noncomputable def impl_copyLists.cfg : Cfg := ⟨impl_copyLists.ctx, [], [], fun id => match id with | 3 => ([3, 6, 7, 8], [12]) | _ => ([], []), fun _ => []⟩
noncomputable def impl_copyLists.code : Code := (Go.Proofs.Try.f133).body.getD .skip
noncomputable def impl_copyLists.fin := finK impl_copyLists.ctx impl_copyLists.sig [.tmp 2]
noncomputable def impl_copyLists.F (d : List (List Int) × Unit) : Option ((List (List Int) × Unit) × (Unit)) := anyK (runFn impl_copyLists.cfg impl_copyLists.fin impl_copyLists.code (initSt impl_copyLists.sig.ps d 19))
noncomputable def impl_copyLists.l3 (k : Nat) (x2 : List (List Int)) (i3 : Int) (i4 : Int) (x5 : List (List Int)) : Option ((List (List Int) × Unit) × (Unit)) :=
  Go.Vm.runT impl_copyLists.cfg impl_copyLists.fin k [.inLoop (sub [1, 1, 0, 1, 0, 0] impl_copyLists.code), .inBlock 0, .code (sub [1, 1, 1] impl_copyLists.code)]
    ⟨[.dead, .dead, .dead, .view 12 (.root 0) 1 false, .dead, .dead, .val false [⟨(.sl (.sl (.int .i64))), .sh, x2⟩], .val false [⟨(.int .i64), .sh, i3⟩], .val false [⟨(.int .i64), .sh, i4⟩]] ++ deads 10, [(12, ⟨false, [⟨(.sl (.sl (.int .i64))), .deep, x5⟩]⟩)]⟩
theorem impl_copyLists.l3_eq (k : Nat) (x2 : List (List Int)) (i3 : Int) (i4 : Int) (x5 : List (List Int)) : impl_copyLists.l3 (k + 1) x2 i3 i4 x5 =
  if (decide (i4 < i3)) = true then
    if 0 ≤ i4 ∧ i4 < (x2.length : Int) then
      (slices_Clone_Lint64_int64.F (x2.getD i4.toNat ([] : List Int), ())).bind fun r6 =>
        if x5.length + ([r6.1.1] : List (List Int)).length ≤ bigA then
          impl_copyLists.l3 k x2 i3 (IntKind.i64.wrap (i4 + (1 : Int))) (x5 ++ ([r6.1.1]))
        else
          none
    else
      none
  else
    some ((x5, ()), ()) := by kernel_rfl
noncomputable def impl_copyLists.T (k : Nat) (lists_1 : List (List Int)) : Option ((List (List Int) × Unit) × (Unit)) :=
  impl_copyLists.l3 k lists_1 (lists_1.length : Int) (0 : Int) ([])
theorem impl_copyLists.run (k : Nat) (lists_1 : List (List Int)) : runFn impl_copyLists.cfg impl_copyLists.fin impl_copyLists.code (initSt impl_copyLists.sig.ps (lists_1, ()) 19) k = impl_copyLists.T k lists_1 := by kernel_rfl
theorem impl_copyLists.of (lists_1 : List (List Int)) {r : (List (List Int) × Unit) × (Unit)} (h : Ev (fun k => impl_copyLists.T k lists_1) r) : impl_copyLists.F (lists_1, ()) = some r := Ev.run (fun k => impl_copyLists.run k lists_1) h
theorem impl_copyLists.ok : CtxOK Go.Proofs.Try.prog impl_copyLists.ctx := ⟨List.forall_mem_nil _, mixed_ok, tab_ok tab_good, List.forall_mem_cons.2 ⟨slices_Clone_Lint64_int64.S, List.forall_mem_nil _⟩, List.forall_mem_nil _, List.forall_mem_nil _⟩
theorem impl_copyLists.S : Sound Go.Proofs.Try.prog ⟨133, impl_copyLists.sig, impl_copyLists.F⟩ := sound_any (fn := Go.Proofs.Try.f133) (code := impl_copyLists.code) (g := impl_copyLists.cfg) (res := [.tmp 2]) Go.Proofs.Try.func133 (by kernel_rfl) (by kernel_rfl) impl_copyLists.ok (by kernel_rfl) (by kernel_rfl) (Nat.le_of_ble_eq_true (by kernel_rfl)) (by kernel_rfl)
noncomputable def impl_copyLists.sigF : Sig := ⟨[.val false (.sl (.sl (.int .i64)))], [(.fr false, (.sl (.sl (.int .i64))), .deep)]⟩
theorem impl_copyLists.SF : Sound Go.Proofs.Try.prog ⟨133, impl_copyLists.sigF, impl_copyLists.F⟩ := sound_fr impl_copyLists.S
/-! ### impl_filled -/
noncomputable def impl_filled.sig : Sig := ⟨[.val false (.int .i64), .val false (.int .i64), .val false (.int .i64), .fnx ⟨[(false, (.int .i64)), (false, (.int .i64))], [(.val false, (.int .i64), .deep)]⟩], [(.val true, TMatrix, .deep)]⟩
noncomputable def impl_filled.ctx : Ctx := ⟨tabOf tabl, [], [], [], [], []⟩
noncomputable def impl_filled.cfg : Cfg := ⟨impl_filled.ctx, [], [], fun id => match id with | 3 => ([2, 3, 8, 9, 16, 17], [32, 36]) | 6 => ([2, 3, 8, 9, 10, 16, 17, 20, 21], [32, 36]) | _ => ([], []), fun _ => []⟩
noncomputable def impl_filled.code : Code := (Go.Proofs.Try.f189).body.getD .skip
noncomputable def impl_filled.fin := finK impl_filled.ctx impl_filled.sig [.cell 8 99]
noncomputable def impl_filled.F (d : Int × Int × Int × ((Int × Int × Unit) → Option (Int × Unit)) × Unit) : Option (((Int × Int × Int × List Int) × Unit) × (Unit)) := anyK (runFn impl_filled.cfg impl_filled.fin impl_filled.code (initSt impl_filled.sig.ps d 36))
noncomputable def impl_filled.l3 (k : Nat) (i5 : Int) (f6 : (Int × Int × Unit) → Option (Int × Unit)) (i7 : Int) (i8 : Int) (i9 : Int) (i10 : Int) (i11 : Int) (x12 : List Int) (i13 : Int) (i14 : Int) (i15 : Int) (x16 : List Int) : Option (((Int × Int × Int × List Int) × Unit) × (Unit)) :=
  Go.Vm.runT impl_filled.cfg impl_filled.fin k [.inLoop (sub [1, 1, 0, 1, 0, 0] impl_filled.code), .inBlock 0, .code (sub [1, 1, 1] impl_filled.code)]
    ⟨[.dead, .dead, .val false [⟨(.int .i64), .sh, i5⟩], .fnx ⟨[(false, (.int .i64)), (false, (.int .i64))], [(.val false, (.int .i64), .deep)]⟩ f6, .dead, .dead, .dead, .dead, .ref 32 (.root 0), .ref 36 (.root 0), .dead, .dead, .dead, .dead, .dead, .dead, .val false [⟨(.int .i64), .sh, i7⟩], .val false [⟨(.int .i64), .sh, i8⟩]] ++ deads 18, [(32, ⟨true, [⟨(.int .i64), .sh, i9⟩, ⟨(.int .i64), .sh, i10⟩, ⟨(.int .i64), .sh, i11⟩, ⟨(.sl (.int .i64)), .deep, x12⟩]⟩), (36, ⟨true, [⟨(.int .i64), .sh, i13⟩, ⟨(.int .i64), .sh, i14⟩, ⟨(.int .i64), .sh, i15⟩, ⟨(.sl (.int .i64)), .deep, x16⟩]⟩)]⟩
noncomputable def impl_filled.l6 (k : Nat) (i17 : Int) (f18 : (Int × Int × Unit) → Option (Int × Unit)) (i19 : Int) (i20 : Int) (i21 : Int) (i22 : Int) (i23 : Int) (i24 : Int) (i25 : Int) (i26 : Int) (x27 : List Int) (i28 : Int) (i29 : Int) (i30 : Int) (x31 : List Int) : Option (((Int × Int × Int × List Int) × Unit) × (Unit)) :=
  Go.Vm.runT impl_filled.cfg impl_filled.fin k [.inLoop (sub [1, 1, 0, 1, 0, 0, 1, 1, 0, 0, 1, 1, 0, 0] impl_filled.code), .inBlock 2, .inBlock 1, .code (sub [1, 1, 0, 1, 0, 0, 1, 1, 1] impl_filled.code), .inLoop (sub [1, 1, 0, 1, 0, 0] impl_filled.code), .inBlock 0, .code (sub [1, 1, 1] impl_filled.code)]
    ⟨[.dead, .dead, .val false [⟨(.int .i64), .sh, i17⟩], .fnx ⟨[(false, (.int .i64)), (false, (.int .i64))], [(.val false, (.int .i64), .deep)]⟩ f18, .dead, .dead, .dead, .dead, .ref 32 (.root 0), .ref 36 (.root 0), .val false [⟨(.int .i64), .sh, i19⟩], .dead, .dead, .dead, .dead, .dead, .val false [⟨(.int .i64), .sh, i20⟩], .val false [⟨(.int .i64), .sh, i21⟩], .dead, .dead, .val false [⟨(.int .i64), .sh, i22⟩], .val false [⟨(.int .i64), .sh, i23⟩]] ++ deads 14, [(32, ⟨true, [⟨(.int .i64), .sh, i24⟩, ⟨(.int .i64), .sh, i25⟩, ⟨(.int .i64), .sh, i26⟩, ⟨(.sl (.int .i64)), .deep, x27⟩]⟩), (36, ⟨true, [⟨(.int .i64), .sh, i28⟩, ⟨(.int .i64), .sh, i29⟩, ⟨(.int .i64), .sh, i30⟩, ⟨(.sl (.int .i64)), .deep, x31⟩]⟩)]⟩
theorem impl_filled.l3_eq (k : Nat) (i5 : Int) (f6 : (Int × Int × Unit) → Option (Int × Unit)) (i7 : Int) (i8 : Int) (i9 : Int) (i10 : Int) (i11 : Int) (x12 : List Int) (i13 : Int) (i14 : Int) (i15 : Int) (x16 : List Int) : impl_filled.l3 (k + 1) i5 f6 i7 i8 i9 i10 i11 x12 i13 i14 i15 x16 =
  if (decide (i8 < i7)) = true then
    impl_filled.l6 k i5 f6 i8 i7 i8 i5 (0 : Int) i9 i10 i11 x12 i13 i14 i15 x16
  else
    some (((i13, (i14, (i15, x16))), ()), ()) := by kernel_rfl
theorem impl_filled.l6_eq (k : Nat) (i17 : Int) (f18 : (Int × Int × Unit) → Option (Int × Unit)) (i19 : Int) (i20 : Int) (i21 : Int) (i22 : Int) (i23 : Int) (i24 : Int) (i25 : Int) (i26 : Int) (x27 : List Int) (i28 : Int) (i29 : Int) (i30 : Int) (x31 : List Int) : impl_filled.l6 (k + 1) i17 f18 i19 i20 i21 i22 i23 i24 i25 i26 x27 i28 i29 i30 x31 =
  if (decide (i23 < i22)) = true then
    (f18 (i19, i23, ())).bind fun r32 =>
      if x31.length + ([(r32.1 : Int)] : List Int).length ≤ bigA then
        impl_filled.l6 k i17 f18 i19 i20 i21 i22 (IntKind.i64.wrap (i23 + (1 : Int))) i24 i25 i26 x27 i28 i29 i30 (x31 ++ ([(r32.1 : Int)]))
      else
        none
  else
    impl_filled.l3 k i17 f18 i20 (IntKind.i64.wrap (i21 + (1 : Int))) i24 i25 i26 x27 i28 i29 i30 x31 := by kernel_rfl
noncomputable def impl_filled.T (k : Nat) (p_1 : Int) (rows_2 : Int) (columns_3 : Int) (f_4 : (Int × Int × Unit) → Option (Int × Unit)) : Option (((Int × Int × Int × List Int) × Unit) × (Unit)) :=
  impl_filled.l3 k columns_3 f_4 rows_2 (0 : Int) 0 0 0 ([]) p_1 rows_2 columns_3 ([])
theorem impl_filled.run (k : Nat) (p_1 : Int) (rows_2 : Int) (columns_3 : Int) (f_4 : (Int × Int × Unit) → Option (Int × Unit)) : runFn impl_filled.cfg impl_filled.fin impl_filled.code (initSt impl_filled.sig.ps (p_1, rows_2, columns_3, f_4, ()) 36) k = impl_filled.T k p_1 rows_2 columns_3 f_4 := by kernel_rfl
theorem impl_filled.of (p_1 : Int) (rows_2 : Int) (columns_3 : Int) (f_4 : (Int × Int × Unit) → Option (Int × Unit)) {r : ((Int × Int × Int × List Int) × Unit) × (Unit)} (h : Ev (fun k => impl_filled.T k p_1 rows_2 columns_3 f_4) r) : impl_filled.F (p_1, rows_2, columns_3, f_4, ()) = some r := Ev.run (fun k => impl_filled.run k p_1 rows_2 columns_3 f_4) h
theorem impl_filled.ok : CtxOK Go.Proofs.Try.prog impl_filled.ctx := ⟨List.forall_mem_nil _, mixed_ok, tab_ok tab_good, List.forall_mem_nil _, List.forall_mem_nil _, List.forall_mem_nil _⟩
theorem impl_filled.S : Sound Go.Proofs.Try.prog ⟨189, impl_filled.sig, impl_filled.F⟩ := sound_any (fn := Go.Proofs.Try.f189) (code := impl_filled.code) (g := impl_filled.cfg) (res := [.cell 8 99]) Go.Proofs.Try.func189 (by kernel_rfl) (by kernel_rfl) impl_filled.ok (by kernel_rfl) (by kernel_rfl) (Nat.le_of_ble_eq_true (by kernel_rfl)) (by kernel_rfl)
/-! ### impl_Matrix_at -/
noncomputable def impl_Matrix_at.sig : Sig := ⟨[.val true TMatrix, .val false (.int .i64), .val false (.int .i64)], [(.val false, (.int .i64), .deep)]⟩
noncomputable def impl_Matrix_at.ctx : Ctx := ⟨tabOf tabl, [], [], [], [], []⟩
noncomputable def impl_Matrix_at.cfg : Cfg := ⟨impl_Matrix_at.ctx, [], [], fun _ => ([], []), fun _ => []⟩
noncomputable def impl_Matrix_at.code : Code := (Go.Proofs.Try.f191).body.getD .skip
noncomputable def impl_Matrix_at.fin := finK impl_Matrix_at.ctx impl_Matrix_at.sig [.tmp 6]
noncomputable def impl_Matrix_at.F (d : (Int × Int × Int × List Int) × Int × Int × Unit) : Option ((Int × Unit) × (Unit)) := anyK (runFn impl_Matrix_at.cfg impl_Matrix_at.fin impl_Matrix_at.code (initSt impl_Matrix_at.sig.ps d 17))
noncomputable def impl_Matrix_at.T (m_1 : Int) (m_2 : Int) (m_3 : Int) (m_4 : List Int) (i_5 : Int) (j_6 : Int) : Option ((Int × Unit) × (Unit)) :=
  if 0 ≤ (IntKind.i64.wrap ((IntKind.i64.wrap (i_5 * m_3)) + j_6)) ∧ (IntKind.i64.wrap ((IntKind.i64.wrap (i_5 * m_3)) + j_6)) < (m_4.length : Int) then
    some (((m_4.getD (IntKind.i64.wrap ((IntKind.i64.wrap (i_5 * m_3)) + j_6)).toNat 0 : Int), ()), ())
  else
    none
theorem impl_Matrix_at.run (k : Nat) (m_1 : Int) (m_2 : Int) (m_3 : Int) (m_4 : List Int) (i_5 : Int) (j_6 : Int) : runFn impl_Matrix_at.cfg impl_Matrix_at.fin impl_Matrix_at.code (initSt impl_Matrix_at.sig.ps ((m_1, (m_2, (m_3, m_4))), i_5, j_6, ()) 17) k = impl_Matrix_at.T m_1 m_2 m_3 m_4 i_5 j_6 := by kernel_rfl
theorem impl_Matrix_at.eq (m_1 : Int) (m_2 : Int) (m_3 : Int) (m_4 : List Int) (i_5 : Int) (j_6 : Int) : impl_Matrix_at.F ((m_1, (m_2, (m_3, m_4))), i_5, j_6, ()) = impl_Matrix_at.T m_1 m_2 m_3 m_4 i_5 j_6 := (congrArg anyK (funext fun k => impl_Matrix_at.run k m_1 m_2 m_3 m_4 i_5 j_6)).trans (anyK_const _)
theorem impl_Matrix_at.ok : CtxOK Go.Proofs.Try.prog impl_Matrix_at.ctx := ⟨List.forall_mem_nil _, mixed_ok, tab_ok tab_good, List.forall_mem_nil _, List.forall_mem_nil _, List.forall_mem_nil _⟩
theorem impl_Matrix_at.S : Sound Go.Proofs.Try.prog ⟨191, impl_Matrix_at.sig, impl_Matrix_at.F⟩ := sound_any (fn := Go.Proofs.Try.f191) (code := impl_Matrix_at.code) (g := impl_Matrix_at.cfg) (res := [.tmp 6]) Go.Proofs.Try.func191 (by kernel_rfl) (by kernel_rfl) impl_Matrix_at.ok (by kernel_rfl) (by kernel_rfl) (Nat.le_of_ble_eq_true (by kernel_rfl)) (by kernel_rfl)
/-! ### impl_transpose_1 -/
noncomputable def impl_transpose_1.sig : Sig := ⟨[.val false (.int .i64), .val false (.int .i64), .rptr TMatrix], [(.val false, (.int .i64), .deep)]⟩
noncomputable def impl_transpose_1.ctx : Ctx := ⟨tabOf tabl, [⟨191, impl_Matrix_at.sig, impl_Matrix_at.F⟩], [], [], [], []⟩
noncomputable def impl_transpose_1.cfg : Cfg := ⟨impl_transpose_1.ctx, [], [], fun _ => ([], []), fun _ => []⟩
noncomputable def impl_transpose_1.code : Code := (Go.Proofs.Try.f190).body.getD .skip
noncomputable def impl_transpose_1.fin := finK impl_transpose_1.ctx impl_transpose_1.sig [.tmp 5]
noncomputable def impl_transpose_1.F (d : Int × Int × (Int × Int × Int × List Int) × Unit) : Option ((Int × Unit) × (Unit)) := anyK (runFn impl_transpose_1.cfg impl_transpose_1.fin impl_transpose_1.code (initSt impl_transpose_1.sig.ps d 10))
noncomputable def impl_transpose_1.T (i_1 : Int) (j_2 : Int) (a_3 : Int) (a_4 : Int) (a_5 : Int) (a_6 : List Int) : Option ((Int × Unit) × (Unit)) :=
  (impl_Matrix_at.F ((a_3, (a_4, (a_5, a_6))), j_2, i_1, ())).bind fun r7 =>
    some (((r7.1.1 : Int), ()), ())
theorem impl_transpose_1.run (k : Nat) (i_1 : Int) (j_2 : Int) (a_3 : Int) (a_4 : Int) (a_5 : Int) (a_6 : List Int) : runFn impl_transpose_1.cfg impl_transpose_1.fin impl_transpose_1.code (initSt impl_transpose_1.sig.ps (i_1, j_2, (a_3, (a_4, (a_5, a_6))), ()) 10) k = impl_transpose_1.T i_1 j_2 a_3 a_4 a_5 a_6 := by kernel_rfl
theorem impl_transpose_1.eq (i_1 : Int) (j_2 : Int) (a_3 : Int) (a_4 : Int) (a_5 : Int) (a_6 : List Int) : impl_transpose_1.F (i_1, j_2, (a_3, (a_4, (a_5, a_6))), ()) = impl_transpose_1.T i_1 j_2 a_3 a_4 a_5 a_6 := (congrArg anyK (funext fun k => impl_transpose_1.run k i_1 j_2 a_3 a_4 a_5 a_6)).trans (anyK_const _)
theorem impl_transpose_1.ok : CtxOK Go.Proofs.Try.prog impl_transpose_1.ctx := ⟨List.forall_mem_nil _, mixed_ok, tab_ok tab_good, List.forall_mem_cons.2 ⟨impl_Matrix_at.S, List.forall_mem_nil _⟩, List.forall_mem_nil _, List.forall_mem_nil _⟩
theorem impl_transpose_1.S : Sound Go.Proofs.Try.prog ⟨190, impl_transpose_1.sig, impl_transpose_1.F⟩ := sound_any (fn := Go.Proofs.Try.f190) (code := impl_transpose_1.code) (g := impl_transpose_1.cfg) (res := [.tmp 5]) Go.Proofs.Try.func190 (by kernel_rfl) (by kernel_rfl) impl_transpose_1.ok (by kernel_rfl) (by kernel_rfl) (Nat.le_of_ble_eq_true (by kernel_rfl)) (by kernel_rfl)
noncomputable def impl_transpose_1.cloG (y : (Int × Int × Int × List Int) × Unit) (d : Int × Int × Unit) : Option (Int × Unit) := (impl_transpose_1.F (joinIns [.rptr TMatrix] [(false, (.int .i64)), (false, (.int .i64))] d y)).map (·.1)
noncomputable def impl_transpose_1.clo : Clo := ⟨190, ⟨[(false, (.int .i64)), (false, (.int .i64))], [(.val false, (.int .i64), .deep)]⟩, [.rptr TMatrix], impl_transpose_1.cloG⟩
theorem impl_transpose_1.cloS : SoundClo Go.Proofs.Try.prog impl_transpose_1.clo := sound_clo (s := ⟨[(false, (.int .i64)), (false, (.int .i64))], [(.val false, (.int .i64), .deep)]⟩) (caps := [.rptr TMatrix]) rfl impl_transpose_1.S
/-! ### impl_transpose -/
noncomputable def impl_transpose.sig : Sig := ⟨[.val true TMatrix], [(.val true, TMatrix, .deep)]⟩
noncomputable def impl_transpose.ctx : Ctx := ⟨tabOf tabl, [⟨189, impl_filled.sig, impl_filled.F⟩], [impl_transpose_1.clo], [], [], []⟩
noncomputable def impl_transpose.cfg : Cfg := ⟨impl_transpose.ctx, [], [], fun _ => ([], []), fun _ => []⟩
noncomputable def impl_transpose.code : Code := (Go.Proofs.Try.f171).body.getD .skip
noncomputable def impl_transpose.fin := finK impl_transpose.ctx impl_transpose.sig [.cell 2 99]
noncomputable def impl_transpose.F (d : (Int × Int × Int × List Int) × Unit) : Option (((Int × Int × Int × List Int) × Unit) × (Unit)) := anyK (runFn impl_transpose.cfg impl_transpose.fin impl_transpose.code (initSt impl_transpose.sig.ps d 11))
noncomputable def impl_transpose.T (m_1 : Int) (m_2 : Int) (m_3 : Int) (m_4 : List Int) : Option (((Int × Int × Int × List Int) × Unit) × (Unit)) :=
  (impl_filled.F (m_1, m_3, m_2, impl_transpose_1.cloG ((m_1, (m_2, (m_3, m_4))), ()), ())).bind fun r5 =>
    some ((r5.1.1, ()), ())
theorem impl_transpose.run (k : Nat) (m_1 : Int) (m_2 : Int) (m_3 : Int) (m_4 : List Int) : runFn impl_transpose.cfg impl_transpose.fin impl_transpose.code (initSt impl_transpose.sig.ps ((m_1, (m_2, (m_3, m_4))), ()) 11) k = impl_transpose.T m_1 m_2 m_3 m_4 := by kernel_rfl
theorem impl_transpose.eq (m_1 : Int) (m_2 : Int) (m_3 : Int) (m_4 : List Int) : impl_transpose.F ((m_1, (m_2, (m_3, m_4))), ()) = impl_transpose.T m_1 m_2 m_3 m_4 := (congrArg anyK (funext fun k => impl_transpose.run k m_1 m_2 m_3 m_4)).trans (anyK_const _)
theorem impl_transpose.ok : CtxOK Go.Proofs.Try.prog impl_transpose.ctx := ⟨List.forall_mem_nil _, mixed_ok, tab_ok tab_good, List.forall_mem_cons.2 ⟨impl_filled.S, List.forall_mem_nil _⟩, List.forall_mem_cons.2 ⟨impl_transpose_1.cloS, List.forall_mem_nil _⟩, List.forall_mem_nil _⟩
theorem impl_transpose.S : Sound Go.Proofs.Try.prog ⟨171, impl_transpose.sig, impl_transpose.F⟩ := sound_any (fn := Go.Proofs.Try.f171) (code := impl_transpose.code) (g := impl_transpose.cfg) (res := [.cell 2 99]) Go.Proofs.Try.func171 (by kernel_rfl) (by kernel_rfl) impl_transpose.ok (by kernel_rfl) (by kernel_rfl) (Nat.le_of_ble_eq_true (by kernel_rfl)) (by kernel_rfl)
/-! ### impl_turned -/
noncomputable def impl_turned.sig : Sig := ⟨[.val false (.sl TMatrix)], [(.val false, (.sl TMatrix), .deep)]⟩
noncomputable def impl_turned.ctx : Ctx := ⟨tabOf tabl, [⟨171, impl_transpose.sig, impl_transpose.F⟩], [], [], [], []⟩
noncomputable def impl_turned.cfg : Cfg := ⟨impl_turned.ctx, [], [], fun id => match id with | 3 => ([3, 6, 7, 8], [12]) | _ => ([], []), fun _ => []⟩
noncomputable def impl_turned.code : Code := (Go.Proofs.Try.f135).body.getD .skip
noncomputable def impl_turned.fin := finK impl_turned.ctx impl_turned.sig [.tmp 2]
noncomputable def impl_turned.F (d : List (Int × Int × Int × List Int) × Unit) : Option ((List (Int × Int × Int × List Int) × Unit) × (Unit)) := anyK (runFn impl_turned.cfg impl_turned.fin impl_turned.code (initSt impl_turned.sig.ps d 19))
noncomputable def impl_turned.l3 (k : Nat) (x2 : List (Int × Int × Int × List Int)) (i3 : Int) (i4 : Int) (x5 : List (Int × Int × Int × List Int)) : Option ((List (Int × Int × Int × List Int) × Unit) × (Unit)) :=
  Go.Vm.runT impl_turned.cfg impl_turned.fin k [.inLoop (sub [1, 1, 0, 1, 0, 0] impl_turned.code), .inBlock 0, .code (sub [1, 1, 1] impl_turned.code)]
    ⟨[.dead, .dead, .dead, .view 12 (.root 0) 1 false, .dead, .dead, .val false [⟨(.sl TMatrix), .sh, x2⟩], .val false [⟨(.int .i64), .sh, i3⟩], .val false [⟨(.int .i64), .sh, i4⟩]] ++ deads 10, [(12, ⟨false, [⟨(.sl TMatrix), .deep, x5⟩]⟩)]⟩
theorem impl_turned.l3_eq (k : Nat) (x2 : List (Int × Int × Int × List Int)) (i3 : Int) (i4 : Int) (x5 : List (Int × Int × Int × List Int)) : impl_turned.l3 (k + 1) x2 i3 i4 x5 =
  if (decide (i4 < i3)) = true then
    if 0 ≤ i4 ∧ i4 < (x2.length : Int) then
      (impl_transpose.F (x2.getD i4.toNat (0, 0, 0, ([] : List Int)), ())).bind fun r6 =>
        if x5.length + ([r6.1.1] : List (Int × Int × Int × List Int)).length ≤ bigA then
          impl_turned.l3 k x2 i3 (IntKind.i64.wrap (i4 + (1 : Int))) (x5 ++ ([r6.1.1]))
        else
          none
    else
      none
  else
    some ((x5, ()), ()) := by kernel_rfl
noncomputable def impl_turned.T (k : Nat) (maps_1 : List (Int × Int × Int × List Int)) : Option ((List (Int × Int × Int × List Int) × Unit) × (Unit)) :=
  impl_turned.l3 k maps_1 (maps_1.length : Int) (0 : Int) ([])
theorem impl_turned.run (k : Nat) (maps_1 : List (Int × Int × Int × List Int)) : runFn impl_turned.cfg impl_turned.fin impl_turned.code (initSt impl_turned.sig.ps (maps_1, ()) 19) k = impl_turned.T k maps_1 := by kernel_rfl
theorem impl_turned.of (maps_1 : List (Int × Int × Int × List Int)) {r : (List (Int × Int × Int × List Int) × Unit) × (Unit)} (h : Ev (fun k => impl_turned.T k maps_1) r) : impl_turned.F (maps_1, ()) = some r := Ev.run (fun k => impl_turned.run k maps_1) h
theorem impl_turned.ok : CtxOK Go.Proofs.Try.prog impl_turned.ctx := ⟨List.forall_mem_nil _, mixed_ok, tab_ok tab_good, List.forall_mem_cons.2 ⟨impl_transpose.S, List.forall_mem_nil _⟩, List.forall_mem_nil _, List.forall_mem_nil _⟩
theorem impl_turned.S : Sound Go.Proofs.Try.prog ⟨135, impl_turned.sig, impl_turned.F⟩ := sound_any (fn := Go.Proofs.Try.f135) (code := impl_turned.code) (g := impl_turned.cfg) (res := [.tmp 2]) Go.Proofs.Try.func135 (by kernel_rfl) (by kernel_rfl) impl_turned.ok (by kernel_rfl) (by kernel_rfl) (Nat.le_of_ble_eq_true (by kernel_rfl)) (by kernel_rfl)
noncomputable def impl_turned.sigF : Sig := ⟨[.val false (.sl TMatrix)], [(.fr false, (.sl TMatrix), .deep)]⟩
theorem impl_turned.SF : Sound Go.Proofs.Try.prog ⟨135, impl_turned.sigF, impl_turned.F⟩ := sound_fr impl_turned.S
/-! ### impl_sheafBehind -/
noncomputable def impl_sheafBehind.sig : Sig := ⟨[.val true TSheaf], [(.val true, TSheaf, .sh)]⟩
noncomputable def impl_sheafBehind.ctx : Ctx := ⟨tabOf tabl, [⟨133, impl_copyLists.sigF, impl_copyLists.F⟩, ⟨134, slices_Clone_Lint64_int64.sigF, slices_Clone_Lint64_int64.F⟩, ⟨135, impl_turned.sigF, impl_turned.F⟩], [], [], [], []⟩
noncomputable def impl_sheafBehind.cfg : Cfg := ⟨impl_sheafBehind.ctx, [], [], fun _ => ([], []), fun _ => []⟩
noncomputable def impl_sheafBehind.code : Code := (Go.Proofs.Try.f78).body.getD .skip
noncomputable def impl_sheafBehind.fin := finK impl_sheafBehind.ctx impl_sheafBehind.sig [.cell 2 79]
noncomputable def impl_sheafBehind.F (d : (List (List Int) × Int × List Int × List (Int × Int × Int × List Int)) × Unit) : Option (((List (List Int) × Int × List Int × List (Int × Int × Int × List Int)) × Unit) × (Unit)) := anyK (runFn impl_sheafBehind.cfg impl_sheafBehind.fin impl_sheafBehind.code (initSt impl_sheafBehind.sig.ps d 17))
noncomputable def impl_sheafBehind.T (t_1 : List (List Int)) (t_2 : Int) (t_3 : List Int) (t_4 : List (Int × Int × Int × List Int)) : Option (((List (List Int) × Int × List Int × List (Int × Int × Int × List Int)) × Unit) × (Unit)) :=
  (impl_copyLists.F (t_1, ())).bind fun r5 =>
    (slices_Clone_Lint64_int64.F (t_3, ())).bind fun r6 =>
      (impl_turned.F (t_4, ())).bind fun r7 =>
        some (((r5.1.1, (t_2, (r6.1.1, r7.1.1))), ()), ())
theorem impl_sheafBehind.run (k : Nat) (t_1 : List (List Int)) (t_2 : Int) (t_3 : List Int) (t_4 : List (Int × Int × Int × List Int)) : runFn impl_sheafBehind.cfg impl_sheafBehind.fin impl_sheafBehind.code (initSt impl_sheafBehind.sig.ps ((t_1, (t_2, (t_3, t_4))), ()) 17) k = impl_sheafBehind.T t_1 t_2 t_3 t_4 := by kernel_rfl
theorem impl_sheafBehind.eq (t_1 : List (List Int)) (t_2 : Int) (t_3 : List Int) (t_4 : List (Int × Int × Int × List Int)) : impl_sheafBehind.F ((t_1, (t_2, (t_3, t_4))), ()) = impl_sheafBehind.T t_1 t_2 t_3 t_4 := (congrArg anyK (funext fun k => impl_sheafBehind.run k t_1 t_2 t_3 t_4)).trans (anyK_const _)
theorem impl_sheafBehind.ok : CtxOK Go.Proofs.Try.prog impl_sheafBehind.ctx := ⟨List.forall_mem_nil _, mixed_ok, tab_ok tab_good, List.forall_mem_cons.2 ⟨impl_copyLists.SF, List.forall_mem_cons.2 ⟨slices_Clone_Lint64_int64.SF, List.forall_mem_cons.2 ⟨impl_turned.SF, List.forall_mem_nil _⟩⟩⟩, List.forall_mem_nil _, List.forall_mem_nil _⟩
theorem impl_sheafBehind.S : Sound Go.Proofs.Try.prog ⟨78, impl_sheafBehind.sig, impl_sheafBehind.F⟩ := sound_any (fn := Go.Proofs.Try.f78) (code := impl_sheafBehind.code) (g := impl_sheafBehind.cfg) (res := [.cell 2 79]) Go.Proofs.Try.func78 (by kernel_rfl) (by kernel_rfl) impl_sheafBehind.ok (by kernel_rfl) (by kernel_rfl) (Nat.le_of_ble_eq_true (by kernel_rfl)) (by kernel_rfl)
/-! ### impl_ValidCosheaf_1 -/
noncomputable def impl_ValidCosheaf_1.sig : Sig := ⟨[.val true TMatrix], [(.val false, .bool, .deep)]⟩
noncomputable def impl_ValidCosheaf_1.ctx : Ctx := ⟨tabOf tabl, [⟨76, impl_ValidMatrix.sig, impl_ValidMatrix.F⟩], [], [], [], []⟩
noncomputable def impl_ValidCosheaf_1.cfg : Cfg := ⟨impl_ValidCosheaf_1.ctx, [], [], fun _ => ([], []), fun _ => []⟩
noncomputable def impl_ValidCosheaf_1.code : Code := (Go.Proofs.Try.f75).body.getD .skip
noncomputable def impl_ValidCosheaf_1.fin := finK impl_ValidCosheaf_1.ctx impl_ValidCosheaf_1.sig [.tmp 2]
noncomputable def impl_ValidCosheaf_1.F (d : (Int × Int × Int × List Int) × Unit) : Option ((Bool × Unit) × (Unit)) := anyK (runFn impl_ValidCosheaf_1.cfg impl_ValidCosheaf_1.fin impl_ValidCosheaf_1.code (initSt impl_ValidCosheaf_1.sig.ps d 6))
noncomputable def impl_ValidCosheaf_1.T (m_1 : Int) (m_2 : Int) (m_3 : Int) (m_4 : List Int) : Option ((Bool × Unit) × (Unit)) :=
  (impl_ValidMatrix.F ((m_1, (m_2, (m_3, m_4))), ())).bind fun r5 =>
    some ((!(r5.1.1 : Bool), ()), ())
theorem impl_ValidCosheaf_1.run (k : Nat) (m_1 : Int) (m_2 : Int) (m_3 : Int) (m_4 : List Int) : runFn impl_ValidCosheaf_1.cfg impl_ValidCosheaf_1.fin impl_ValidCosheaf_1.code (initSt impl_ValidCosheaf_1.sig.ps ((m_1, (m_2, (m_3, m_4))), ()) 6) k = impl_ValidCosheaf_1.T m_1 m_2 m_3 m_4 := by kernel_rfl
theorem impl_ValidCosheaf_1.eq (m_1 : Int) (m_2 : Int) (m_3 : Int) (m_4 : List Int) : impl_ValidCosheaf_1.F ((m_1, (m_2, (m_3, m_4))), ()) = impl_ValidCosheaf_1.T m_1 m_2 m_3 m_4 := (congrArg anyK (funext fun k => impl_ValidCosheaf_1.run k m_1 m_2 m_3 m_4)).trans (anyK_const _)
theorem impl_ValidCosheaf_1.ok : CtxOK Go.Proofs.Try.prog impl_ValidCosheaf_1.ctx := ⟨List.forall_mem_nil _, mixed_ok, tab_ok tab_good, List.forall_mem_cons.2 ⟨impl_ValidMatrix.S, List.forall_mem_nil _⟩, List.forall_mem_nil _, List.forall_mem_nil _⟩
theorem impl_ValidCosheaf_1.S : Sound Go.Proofs.Try.prog ⟨75, impl_ValidCosheaf_1.sig, impl_ValidCosheaf_1.F⟩ := sound_any (fn := Go.Proofs.Try.f75) (code := impl_ValidCosheaf_1.code) (g := impl_ValidCosheaf_1.cfg) (res := [.tmp 2]) Go.Proofs.Try.func75 (by kernel_rfl) (by kernel_rfl) impl_ValidCosheaf_1.ok (by kernel_rfl) (by kernel_rfl) (Nat.le_of_ble_eq_true (by kernel_rfl)) (by kernel_rfl)
noncomputable def impl_ValidCosheaf_1.cloG (y : Unit) (d : (Int × Int × Int × List Int) × Unit) : Option (Bool × Unit) := (impl_ValidCosheaf_1.F (joinIns [] [(true, TMatrix)] d y)).map (·.1)
noncomputable def impl_ValidCosheaf_1.clo : Clo := ⟨75, ⟨[(true, TMatrix)], [(.val false, .bool, .deep)]⟩, [], impl_ValidCosheaf_1.cloG⟩
theorem impl_ValidCosheaf_1.cloS : SoundClo Go.Proofs.Try.prog impl_ValidCosheaf_1.clo := sound_clo (s := ⟨[(true, TMatrix)], [(.val false, .bool, .deep)]⟩) (caps := []) rfl impl_ValidCosheaf_1.S
/-! ### impl_ValidCosheaf -/
noncomputable def impl_ValidCosheaf.sig : Sig := ⟨[.val true TSheaf], [(.val false, .bool, .deep)]⟩
noncomputable def impl_ValidCosheaf.ctx : Ctx := ⟨tabOf tabl, [⟨74, slices_ContainsFunc_Limpl_Matrix_impl_Matrix.sig, slices_ContainsFunc_Limpl_Matrix_impl_Matrix.F⟩, ⟨77, impl_ValidSheaf.sig, impl_ValidSheaf.F⟩, ⟨78, impl_sheafBehind.sig, impl_sheafBehind.F⟩], [impl_ValidCosheaf_1.clo], [], [], []⟩
noncomputable def impl_ValidCosheaf.cfg : Cfg := ⟨impl_ValidCosheaf.ctx, [], [], fun _ => ([], []), fun _ => []⟩
noncomputable def impl_ValidCosheaf.code : Code := (Go.Proofs.Try.f35).body.getD .skip
noncomputable def impl_ValidCosheaf.fin := finK impl_ValidCosheaf.ctx impl_ValidCosheaf.sig [.tmp 2]
noncomputable def impl_ValidCosheaf.F (d : (List (List Int) × Int × List Int × List (Int × Int × Int × List Int)) × Unit) : Option ((Bool × Unit) × (Unit)) := anyK (runFn impl_ValidCosheaf.cfg impl_ValidCosheaf.fin impl_ValidCosheaf.code (initSt impl_ValidCosheaf.sig.ps d 12))
noncomputable def impl_ValidCosheaf.T (t_1 : List (List Int)) (t_2 : Int) (t_3 : List Int) (t_4 : List (Int × Int × Int × List Int)) : Option ((Bool × Unit) × (Unit)) :=
  (slices_ContainsFunc_Limpl_Matrix_impl_Matrix.F (t_4, impl_ValidCosheaf_1.cloG (()), ())).bind fun r5 =>
    if (!(r5.1.1 : Bool)) = true then
      (impl_sheafBehind.F ((t_1, (t_2, (t_3, t_4))), ())).bind fun r6 =>
        (impl_ValidSheaf.F (r6.1.1, ())).bind fun r7 =>
          some (((r7.1.1 : Bool), ()), ())
    else
      some ((false, ()), ())
theorem impl_ValidCosheaf.run (k : Nat) (t_1 : List (List Int)) (t_2 : Int) (t_3 : List Int) (t_4 : List (Int × Int × Int × List Int)) : runFn impl_ValidCosheaf.cfg impl_ValidCosheaf.fin impl_ValidCosheaf.code (initSt impl_ValidCosheaf.sig.ps ((t_1, (t_2, (t_3, t_4))), ()) 12) k = impl_ValidCosheaf.T t_1 t_2 t_3 t_4 := by kernel_rfl
theorem impl_ValidCosheaf.eq (t_1 : List (List Int)) (t_2 : Int) (t_3 : List Int) (t_4 : List (Int × Int × Int × List Int)) : impl_ValidCosheaf.F ((t_1, (t_2, (t_3, t_4))), ()) = impl_ValidCosheaf.T t_1 t_2 t_3 t_4 := (congrArg anyK (funext fun k => impl_ValidCosheaf.run k t_1 t_2 t_3 t_4)).trans (anyK_const _)
theorem impl_ValidCosheaf.ok : CtxOK Go.Proofs.Try.prog impl_ValidCosheaf.ctx := ⟨List.forall_mem_nil _, mixed_ok, tab_ok tab_good, List.forall_mem_cons.2 ⟨slices_ContainsFunc_Limpl_Matrix_impl_Matrix.S, List.forall_mem_cons.2 ⟨impl_ValidSheaf.S, List.forall_mem_cons.2 ⟨impl_sheafBehind.S, List.forall_mem_nil _⟩⟩⟩, List.forall_mem_cons.2 ⟨impl_ValidCosheaf_1.cloS, List.forall_mem_nil _⟩, List.forall_mem_nil _⟩
theorem impl_ValidCosheaf.S : Sound Go.Proofs.Try.prog ⟨35, impl_ValidCosheaf.sig, impl_ValidCosheaf.F⟩ := sound_any (fn := Go.Proofs.Try.f35) (code := impl_ValidCosheaf.code) (g := impl_ValidCosheaf.cfg) (res := [.tmp 2]) Go.Proofs.Try.func35 (by kernel_rfl) (by kernel_rfl) impl_ValidCosheaf.ok (by kernel_rfl) (by kernel_rfl) (Nat.le_of_ble_eq_true (by kernel_rfl)) (by kernel_rfl)
/-! ### laws_FnExactValidCosheaf -/
noncomputable def laws_FnExactValidCosheaf.sig : Sig := ⟨[.val true TSheaf], [(.val false, .bool, .deep)]⟩
noncomputable def laws_FnExactValidCosheaf.ctx : Ctx := ⟨tabOf tabl, [⟨19, laws_szCosheaf.sig, laws_szCosheaf.F⟩, ⟨21, laws_toCosheaf.sig, laws_toCosheaf.F⟩, ⟨23, laws_eqCosheaf.sig, laws_eqCosheaf.F⟩, ⟨34, spec_ValidCosheaf.sig, spec_ValidCosheaf.F⟩, ⟨35, impl_ValidCosheaf.sig, impl_ValidCosheaf.F⟩], [], [], [], []⟩
noncomputable def laws_FnExactValidCosheaf.cfg : Cfg := ⟨laws_FnExactValidCosheaf.ctx, [], [], fun _ => ([], []), fun _ => []⟩
noncomputable def laws_FnExactValidCosheaf.code : Code := (Go.Proofs.Try.f7).body.getD .skip
noncomputable def laws_FnExactValidCosheaf.fin := finK laws_FnExactValidCosheaf.ctx laws_FnExactValidCosheaf.sig [.tmp 2]
noncomputable def laws_FnExactValidCosheaf.F (d : (List (List Int) × Int × List Int × List (Int × Int × Int × List Int)) × Unit) : Option ((Bool × Unit) × (Unit)) := anyK (runFn laws_FnExactValidCosheaf.cfg laws_FnExactValidCosheaf.fin laws_FnExactValidCosheaf.code (initSt laws_FnExactValidCosheaf.sig.ps d 27))
noncomputable def laws_FnExactValidCosheaf.T (aT_1 : List (List Int)) (aT_2 : Int) (aT_3 : List Int) (aT_4 : List (Int × Int × Int × List Int)) : Option ((Bool × Unit) × (Unit)) :=
  (laws_szCosheaf.F ((aT_1, (aT_2, (aT_3, aT_4))), (1048576 : Int), ())).bind fun r5 =>
    if (decide ((r5.1.1 : Int) < (0 : Int))) = true then
      some ((true, ()), ())
    else
      (laws_toCosheaf.F ((aT_1, (aT_2, (aT_3, aT_4))), ())).bind fun r6 =>
        (spec_ValidCosheaf.F (r6.1.1, ())).bind fun r7 =>
          (laws_toCosheaf.F ((aT_1, (aT_2, (aT_3, aT_4))), ())).bind fun r8 =>
            (impl_ValidCosheaf.F (r8.1.1, ())).bind fun r9 =>
              if (!((r9.1.1 : Bool) == (r7.1.1 : Bool))) = true then
                some ((false, ()), ())
              else
                (laws_toCosheaf.F ((aT_1, (aT_2, (aT_3, aT_4))), ())).bind fun r10 =>
                  (laws_eqCosheaf.F (r8.1.1, r10.1.1, ())).bind fun r11 =>
                    if (!(r11.1.1 : Bool)) = true then
                      some ((false, ()), ())
                    else
                      some ((true, ()), ())
theorem laws_FnExactValidCosheaf.run (k : Nat) (aT_1 : List (List Int)) (aT_2 : Int) (aT_3 : List Int) (aT_4 : List (Int × Int × Int × List Int)) : runFn laws_FnExactValidCosheaf.cfg laws_FnExactValidCosheaf.fin laws_FnExactValidCosheaf.code (initSt laws_FnExactValidCosheaf.sig.ps ((aT_1, (aT_2, (aT_3, aT_4))), ()) 27) k = laws_FnExactValidCosheaf.T aT_1 aT_2 aT_3 aT_4 := by kernel_rfl
theorem laws_FnExactValidCosheaf.eq (aT_1 : List (List Int)) (aT_2 : Int) (aT_3 : List Int) (aT_4 : List (Int × Int × Int × List Int)) : laws_FnExactValidCosheaf.F ((aT_1, (aT_2, (aT_3, aT_4))), ()) = laws_FnExactValidCosheaf.T aT_1 aT_2 aT_3 aT_4 := (congrArg anyK (funext fun k => laws_FnExactValidCosheaf.run k aT_1 aT_2 aT_3 aT_4)).trans (anyK_const _)
theorem laws_FnExactValidCosheaf.ok : CtxOK Go.Proofs.Try.prog laws_FnExactValidCosheaf.ctx := ⟨List.forall_mem_nil _, mixed_ok, tab_ok tab_good, List.forall_mem_cons.2 ⟨laws_szCosheaf.S, List.forall_mem_cons.2 ⟨laws_toCosheaf.S, List.forall_mem_cons.2 ⟨laws_eqCosheaf.S, List.forall_mem_cons.2 ⟨spec_ValidCosheaf.S, List.forall_mem_cons.2 ⟨impl_ValidCosheaf.S, List.forall_mem_nil _⟩⟩⟩⟩⟩, List.forall_mem_nil _, List.forall_mem_nil _⟩
theorem laws_FnExactValidCosheaf.S : Sound Go.Proofs.Try.prog ⟨7, laws_FnExactValidCosheaf.sig, laws_FnExactValidCosheaf.F⟩ := sound_any (fn := Go.Proofs.Try.f7) (code := laws_FnExactValidCosheaf.code) (g := laws_FnExactValidCosheaf.cfg) (res := [.tmp 2]) Go.Proofs.Try.func7 (by kernel_rfl) (by kernel_rfl) laws_FnExactValidCosheaf.ok (by kernel_rfl) (by kernel_rfl) (Nat.le_of_ble_eq_true (by kernel_rfl)) (by kernel_rfl)
end Go.Proofs.Ytpibalgbkhpcbaa
