/- The functions, as the machine runs them. -/
import Derived.Test.YtpibalgbkhpcbaaGreatDualBackG1
import Derived.Test.YtpibalgbkhpcbaaGreatProg
import Derived.KernelRfl
import Derived.WalkKit
import Derived.Lib.Walk
import Derived.Lib.AppendZeros
namespace Go.Proofs.YtpibalgbkhpcbaaGreat
open Go Go.Vm
set_option linter.unusedVariables false
set_option linter.unusedSimpArgs false
/-! ### impl_ValidMatrix -/
noncomputable def impl_ValidMatrix.sig : Sig := ⟨[.val true TMatrix], [(.val false, .bool, .deep)]⟩
noncomputable def impl_ValidMatrix.ctx : Ctx := ⟨tabOf tabl, [⟨65, impl_ValidPrime.sig, impl_ValidPrime.F⟩, ⟨84, impl_size_int64.sig, impl_size_int64.F⟩, ⟨85, impl_areElements.sig, impl_areElements.F⟩, ⟨106, impl_isSide.sig, impl_isSide.F⟩], [], [], [], []⟩
noncomputable def impl_ValidMatrix.cfg : Cfg := ⟨impl_ValidMatrix.ctx, [], [], fun _ => ([], []), fun _ => []⟩
noncomputable def impl_ValidMatrix.code : Code := (Go.Proofs.Tryz.f76).body.getD .skip
noncomputable def impl_ValidMatrix.fin := finK impl_ValidMatrix.ctx impl_ValidMatrix.sig [.tmp 2]
noncomputable def impl_ValidMatrix.F (d : (Int × Int × Int × List Int) × Unit) : Option ((Bool × Unit) × (Unit)) := anyK (runFn impl_ValidMatrix.cfg impl_ValidMatrix.fin impl_ValidMatrix.code (initSt impl_ValidMatrix.sig.ps d 34))
noncomputable def impl_ValidMatrix.T (m_1 : Int) (m_2 : Int) (m_3 : Int) (m_4 : List Int) : Option ((Bool × Unit) × (Unit)) :=
  (impl_ValidPrime.F (m_1, ())).bind fun r5 =>
    if (r5.1.1 : Bool) = true then
      (impl_isSide.F (m_2, ())).bind fun r6 =>
        if (r6.1.1 : Bool) = true then
          (impl_isSide.F (m_3, ())).bind fun r7 =>
            if (r7.1.1 : Bool) = true then
              (impl_size_int64.F (m_4, ())).bind fun r8 =>
                if ((r8.1.1 : Int) == (IntKind.i64.wrap (m_2 * m_3))) = true then
                  (impl_areElements.F (m_4, m_1, ())).bind fun r9 =>
                    some (((r9.1.1 : Bool), ()), ())
                else
                  some ((false, ()), ())
            else
              some ((false, ()), ())
        else
          some ((false, ()), ())
    else
      some ((false, ()), ())
theorem impl_ValidMatrix.run (k : Nat) (m_1 : Int) (m_2 : Int) (m_3 : Int) (m_4 : List Int) : runFn impl_ValidMatrix.cfg impl_ValidMatrix.fin impl_ValidMatrix.code (initSt impl_ValidMatrix.sig.ps ((m_1, (m_2, (m_3, m_4))), ()) 34) k = impl_ValidMatrix.T m_1 m_2 m_3 m_4 := by kernel_rfl
theorem impl_ValidMatrix.eq (m_1 : Int) (m_2 : Int) (m_3 : Int) (m_4 : List Int) : impl_ValidMatrix.F ((m_1, (m_2, (m_3, m_4))), ()) = impl_ValidMatrix.T m_1 m_2 m_3 m_4 := (congrArg anyK (funext fun k => impl_ValidMatrix.run k m_1 m_2 m_3 m_4)).trans (anyK_const _)
theorem impl_ValidMatrix.ok : CtxOK Go.Proofs.Tryz.prog impl_ValidMatrix.ctx := ⟨List.forall_mem_nil _, mixed_ok, tab_ok tab_good, List.forall_mem_cons.2 ⟨impl_ValidPrime.S, List.forall_mem_cons.2 ⟨impl_size_int64.S, List.forall_mem_cons.2 ⟨impl_areElements.S, List.forall_mem_cons.2 ⟨impl_isSide.S, List.forall_mem_nil _⟩⟩⟩⟩, List.forall_mem_nil _, List.forall_mem_nil _⟩
theorem impl_ValidMatrix.S : Sound Go.Proofs.Tryz.prog ⟨76, impl_ValidMatrix.sig, impl_ValidMatrix.F⟩ := sound_any (fn := Go.Proofs.Tryz.f76) (code := impl_ValidMatrix.code) (g := impl_ValidMatrix.cfg) (res := [.tmp 2]) Go.Proofs.Tryz.func76 (by kernel_rfl) (by kernel_rfl) impl_ValidMatrix.ok (by kernel_rfl) (by kernel_rfl) (Nat.le_of_ble_eq_true (by kernel_rfl)) (by kernel_rfl)
/-! ### impl_isBetween -/
noncomputable def impl_isBetween.sig : Sig := ⟨[.val true TMatrix, .val false (.int .i64), .val false (.int .i64), .val false (.int .i64)], [(.val false, .bool, .deep)]⟩
noncomputable def impl_isBetween.ctx : Ctx := ⟨tabOf tabl, [⟨76, impl_ValidMatrix.sig, impl_ValidMatrix.F⟩], [], [], [], []⟩
noncomputable def impl_isBetween.cfg : Cfg := ⟨impl_isBetween.ctx, [], [], fun _ => ([], []), fun _ => []⟩
noncomputable def impl_isBetween.code : Code := (Go.Proofs.Tryz.f68).body.getD .skip
noncomputable def impl_isBetween.fin := finK impl_isBetween.ctx impl_isBetween.sig [.tmp 8]
noncomputable def impl_isBetween.F (d : (Int × Int × Int × List Int) × Int × Int × Int × Unit) : Option ((Bool × Unit) × (Unit)) := anyK (runFn impl_isBetween.cfg impl_isBetween.fin impl_isBetween.code (initSt impl_isBetween.sig.ps d 29))
noncomputable def impl_isBetween.T (m_1 : Int) (m_2 : Int) (m_3 : Int) (m_4 : List Int) (p_5 : Int) (from_6 : Int) (to_7 : Int) : Option ((Bool × Unit) × (Unit)) :=
  (impl_ValidMatrix.F ((m_1, (m_2, (m_3, m_4))), ())).bind fun r8 =>
    if (r8.1.1 : Bool) = true then
      if (m_1 == p_5) = true then
        if (m_2 == to_7) = true then
          some ((m_3 == from_6, ()), ())
        else
          some ((false, ()), ())
      else
        some ((false, ()), ())
    else
      some ((false, ()), ())
theorem impl_isBetween.run (k : Nat) (m_1 : Int) (m_2 : Int) (m_3 : Int) (m_4 : List Int) (p_5 : Int) (from_6 : Int) (to_7 : Int) : runFn impl_isBetween.cfg impl_isBetween.fin impl_isBetween.code (initSt impl_isBetween.sig.ps ((m_1, (m_2, (m_3, m_4))), p_5, from_6, to_7, ()) 29) k = impl_isBetween.T m_1 m_2 m_3 m_4 p_5 from_6 to_7 := by kernel_rfl
theorem impl_isBetween.eq (m_1 : Int) (m_2 : Int) (m_3 : Int) (m_4 : List Int) (p_5 : Int) (from_6 : Int) (to_7 : Int) : impl_isBetween.F ((m_1, (m_2, (m_3, m_4))), p_5, from_6, to_7, ()) = impl_isBetween.T m_1 m_2 m_3 m_4 p_5 from_6 to_7 := (congrArg anyK (funext fun k => impl_isBetween.run k m_1 m_2 m_3 m_4 p_5 from_6 to_7)).trans (anyK_const _)
theorem impl_isBetween.ok : CtxOK Go.Proofs.Tryz.prog impl_isBetween.ctx := ⟨List.forall_mem_nil _, mixed_ok, tab_ok tab_good, List.forall_mem_cons.2 ⟨impl_ValidMatrix.S, List.forall_mem_nil _⟩, List.forall_mem_nil _, List.forall_mem_nil _⟩
theorem impl_isBetween.S : Sound Go.Proofs.Tryz.prog ⟨68, impl_isBetween.sig, impl_isBetween.F⟩ := sound_any (fn := Go.Proofs.Tryz.f68) (code := impl_isBetween.code) (g := impl_isBetween.cfg) (res := [.tmp 8]) Go.Proofs.Tryz.func68 (by kernel_rfl) (by kernel_rfl) impl_isBetween.ok (by kernel_rfl) (by kernel_rfl) (Nat.le_of_ble_eq_true (by kernel_rfl)) (by kernel_rfl)
/-! ### impl_ValidSheaf -/
noncomputable def impl_ValidSheaf.sig : Sig := ⟨[.val true TSheaf], [(.val false, .bool, .deep)]⟩
noncomputable def impl_ValidSheaf.ctx : Ctx := ⟨tabOf tabl, [⟨64, impl_ValidComplex.sig, impl_ValidComplex.F⟩, ⟨65, impl_ValidPrime.sig, impl_ValidPrime.F⟩, ⟨66, impl_areStalks.sig, impl_areStalks.F⟩, ⟨67, impl_arrows.sig, impl_arrows.F⟩, ⟨68, impl_isBetween.sig, impl_isBetween.F⟩], [], [], [], []⟩
noncomputable def impl_ValidSheaf.cfg : Cfg := ⟨impl_ValidSheaf.ctx, [], [], fun id => match id with | 5 => ([1, 3, 27, 28, 29], [4, 12]) | _ => ([], []), fun _ => []⟩
noncomputable def impl_ValidSheaf.code : Code := (Go.Proofs.Tryz.f31).body.getD .skip
noncomputable def impl_ValidSheaf.fin := finK impl_ValidSheaf.ctx impl_ValidSheaf.sig [.tmp 2]
noncomputable def impl_ValidSheaf.F (d : (List (List Int) × Int × List Int × List (Int × Int × Int × List Int)) × Unit) : Option ((Bool × Unit) × (Unit)) := anyK (runFn impl_ValidSheaf.cfg impl_ValidSheaf.fin impl_ValidSheaf.code (initSt impl_ValidSheaf.sig.ps d 69))
noncomputable def impl_ValidSheaf.l5 (k : Nat) (i9 : Int) (i10 : Int) (x11 : List (List Int)) (i12 : Int) (x13 : List Int) (x14 : List (Int × Int × Int × List Int)) (x15 : List (Int × Int × Int)) : Option ((Bool × Unit) × (Unit)) :=
  Go.Vm.runT impl_ValidSheaf.cfg impl_ValidSheaf.fin k [.inLoop (sub [1, 1, 1, 0, 1, 0, 0] impl_ValidSheaf.code), .inBlock 0, .code (sub [1, 1, 1, 1] impl_ValidSheaf.code)]
    ⟨[.dead, .ref 4 (.root 0), .dead, .view 12 (.root 0) 1 false, .dead, .dead, .dead, .dead, .dead, .dead, .dead, .dead, .dead, .dead, .dead, .dead, .dead, .dead, .dead, .dead, .dead, .dead, .dead, .dead, .dead, .dead, .dead, .view 12 (.root 0) 1 false, .val false [⟨(.int .i64), .sh, i9⟩], .val false [⟨(.int .i64), .sh, i10⟩]] ++ deads 39, [(4, ⟨true, [⟨(.sl (.sl (.int .i64))), .sh, x11⟩, ⟨(.int .i64), .sh, i12⟩, ⟨(.sl (.int .i64)), .sh, x13⟩, ⟨(.sl TMatrix), .sh, x14⟩]⟩), (12, ⟨false, [⟨(.sl TEdge), .deep, x15⟩]⟩)]⟩
theorem impl_ValidSheaf.l5_eq (k : Nat) (i9 : Int) (i10 : Int) (x11 : List (List Int)) (i12 : Int) (x13 : List Int) (x14 : List (Int × Int × Int × List Int)) (x15 : List (Int × Int × Int)) : impl_ValidSheaf.l5 (k + 1) i9 i10 x11 i12 x13 x14 x15 =
  if (decide (i10 < i9)) = true then
    if 0 ≤ i10 ∧ i10 < (x15.length : Int) then
      if (decide (i10 ≥ (x14.length : Int))) = true then
        some ((false, ()), ())
      else
        if 0 ≤ i10 ∧ i10 < (x14.length : Int) then
          if 0 ≤ (((x15.getD i10.toNat (0, 0, 0)).2).2 : Int) ∧ (((x15.getD i10.toNat (0, 0, 0)).2).2 : Int) < (x13.length : Int) then
            if 0 ≤ ((x15.getD i10.toNat (0, 0, 0)).1 : Int) ∧ ((x15.getD i10.toNat (0, 0, 0)).1 : Int) < (x13.length : Int) then
              (impl_isBetween.F (x14.getD i10.toNat (0, 0, 0, ([] : List Int)), i12, x13.getD (((x15.getD i10.toNat (0, 0, 0)).2).2 : Int).toNat 0, x13.getD ((x15.getD i10.toNat (0, 0, 0)).1 : Int).toNat 0, ())).bind fun r16 =>
                if (!(r16.1.1 : Bool)) = true then
                  some ((false, ()), ())
                else
                  impl_ValidSheaf.l5 k i9 (IntKind.i64.wrap (i10 + (1 : Int))) x11 i12 x13 x14 x15
            else
              none
          else
            none
        else
          none
    else
      none
  else
    some (((x15.length : Int) == (x14.length : Int), ()), ()) := by kernel_rfl
noncomputable def impl_ValidSheaf.T (k : Nat) (toArray_1 : List (List Int)) (toArray_2 : Int) (toArray_3 : List Int) (toArray_4 : List (Int × Int × Int × List Int)) : Option ((Bool × Unit) × (Unit)) :=
  (impl_ValidComplex.F (toArray_1, ())).bind fun r5 =>
    if (!(r5.1.1 : Bool)) = true then
      some ((false, ()), ())
    else
      (impl_ValidPrime.F (toArray_2, ())).bind fun r6 =>
        if (!(r6.1.1 : Bool)) = true then
          some ((false, ()), ())
        else
          (impl_areStalks.F (toArray_1, toArray_3, ())).bind fun r7 =>
            if (!(r7.1.1 : Bool)) = true then
              some ((false, ()), ())
            else
              (impl_arrows.F (toArray_1, ())).bind fun r8 =>
                impl_ValidSheaf.l5 k (r8.1.1.length : Int) (0 : Int) toArray_1 toArray_2 toArray_3 toArray_4 r8.1.1
theorem impl_ValidSheaf.run (k : Nat) (toArray_1 : List (List Int)) (toArray_2 : Int) (toArray_3 : List Int) (toArray_4 : List (Int × Int × Int × List Int)) : runFn impl_ValidSheaf.cfg impl_ValidSheaf.fin impl_ValidSheaf.code (initSt impl_ValidSheaf.sig.ps ((toArray_1, (toArray_2, (toArray_3, toArray_4))), ()) 69) k = impl_ValidSheaf.T k toArray_1 toArray_2 toArray_3 toArray_4 := by kernel_rfl
theorem impl_ValidSheaf.of (toArray_1 : List (List Int)) (toArray_2 : Int) (toArray_3 : List Int) (toArray_4 : List (Int × Int × Int × List Int)) {r : (Bool × Unit) × (Unit)} (h : Ev (fun k => impl_ValidSheaf.T k toArray_1 toArray_2 toArray_3 toArray_4) r) : impl_ValidSheaf.F ((toArray_1, (toArray_2, (toArray_3, toArray_4))), ()) = some r := Ev.run (fun k => impl_ValidSheaf.run k toArray_1 toArray_2 toArray_3 toArray_4) h
theorem impl_ValidSheaf.ok : CtxOK Go.Proofs.Tryz.prog impl_ValidSheaf.ctx := ⟨List.forall_mem_nil _, mixed_ok, tab_ok tab_good, List.forall_mem_cons.2 ⟨impl_ValidComplex.S, List.forall_mem_cons.2 ⟨impl_ValidPrime.S, List.forall_mem_cons.2 ⟨impl_areStalks.S, List.forall_mem_cons.2 ⟨impl_arrows.S, List.forall_mem_cons.2 ⟨impl_isBetween.S, List.forall_mem_nil _⟩⟩⟩⟩⟩, List.forall_mem_nil _, List.forall_mem_nil _⟩
theorem impl_ValidSheaf.S : Sound Go.Proofs.Tryz.prog ⟨31, impl_ValidSheaf.sig, impl_ValidSheaf.F⟩ := sound_any (fn := Go.Proofs.Tryz.f31) (code := impl_ValidSheaf.code) (g := impl_ValidSheaf.cfg) (res := [.tmp 2]) Go.Proofs.Tryz.func31 (by kernel_rfl) (by kernel_rfl) impl_ValidSheaf.ok (by kernel_rfl) (by kernel_rfl) (Nat.le_of_ble_eq_true (by kernel_rfl)) (by kernel_rfl)
/-! ### slices_Clone_Lint64_int64 -/
noncomputable def slices_Clone_Lint64_int64.sig : Sig := ⟨[.val false (.sl (.int .i64))], [(.val false, (.sl (.int .i64)), .deep)]⟩
noncomputable def slices_Clone_Lint64_int64.ctx : Ctx := ⟨tabOf tabl, [], [], [], [], []⟩
noncomputable def slices_Clone_Lint64_int64.cfg : Cfg := ⟨slices_Clone_Lint64_int64.ctx, [], [], fun _ => ([], []), fun _ => []⟩
noncomputable def slices_Clone_Lint64_int64.code : Code := (Go.Proofs.Tryz.f78).body.getD .skip
noncomputable def slices_Clone_Lint64_int64.fin := finK slices_Clone_Lint64_int64.ctx slices_Clone_Lint64_int64.sig [.tmp 2]
noncomputable def slices_Clone_Lint64_int64.F (d : List Int × Unit) : Option ((List Int × Unit) × (Unit)) := anyK (runFn slices_Clone_Lint64_int64.cfg slices_Clone_Lint64_int64.fin slices_Clone_Lint64_int64.code (initSt slices_Clone_Lint64_int64.sig.ps d 8))
noncomputable def slices_Clone_Lint64_int64.T (s_1 : List Int) : Option ((List Int × Unit) × (Unit)) :=
  if 0 < s_1.length then
    if ([] : List Int).length + s_1.length ≤ bigA then
      some ((([] : List Int) ++ s_1, ()), ())
    else
      none
  else
    both (
      some (([], ()), ())
    ) (
      if ([] : List Int).length + s_1.length ≤ bigA then
        some ((([] : List Int) ++ s_1, ()), ())
      else
        none
    )
theorem slices_Clone_Lint64_int64.run (k : Nat) (s_1 : List Int) : runFn slices_Clone_Lint64_int64.cfg slices_Clone_Lint64_int64.fin slices_Clone_Lint64_int64.code (initSt slices_Clone_Lint64_int64.sig.ps (s_1, ()) 8) k = slices_Clone_Lint64_int64.T s_1 := by kernel_rfl
theorem slices_Clone_Lint64_int64.eq (s_1 : List Int) : slices_Clone_Lint64_int64.F (s_1, ()) = slices_Clone_Lint64_int64.T s_1 := (congrArg anyK (funext fun k => slices_Clone_Lint64_int64.run k s_1)).trans (anyK_const _)
theorem slices_Clone_Lint64_int64.ok : CtxOK Go.Proofs.Tryz.prog slices_Clone_Lint64_int64.ctx := ⟨List.forall_mem_nil _, mixed_ok, tab_ok tab_good, List.forall_mem_nil _, List.forall_mem_nil _, List.forall_mem_nil _⟩
theorem slices_Clone_Lint64_int64.S : Sound Go.Proofs.Tryz.prog ⟨78, slices_Clone_Lint64_int64.sig, slices_Clone_Lint64_int64.F⟩ := sound_any (fn := Go.Proofs.Tryz.f78) (code := slices_Clone_Lint64_int64.code) (g := slices_Clone_Lint64_int64.cfg) (res := [.tmp 2]) Go.Proofs.Tryz.func78 (by kernel_rfl) (by kernel_rfl) slices_Clone_Lint64_int64.ok (by kernel_rfl) (by kernel_rfl) (Nat.le_of_ble_eq_true (by kernel_rfl)) (by kernel_rfl)
/-! ### impl_copyLists -/
noncomputable def impl_copyLists.sig : Sig := ⟨[.val false (.sl (.sl (.int .i64)))], [(.val false, (.sl (.sl (.int .i64))), .deep)]⟩
noncomputable def impl_copyLists.ctx : Ctx := ⟨tabOf tabl, [⟨78, slices_Clone_Lint64_int64.sig, slices_Clone_Lint64_int64.F⟩], [], [], [], []⟩
noncomputable def impl_copyLists.cfg : Cfg := ⟨impl_copyLists.ctx, [], [], fun id => match id with | 3 => ([3, 6, 7, 8], [12]) | _ => ([], []), fun _ => []⟩
noncomputable def impl_copyLists.code : Code := (Go.Proofs.Tryz.f77).body.getD .skip
noncomputable def impl_copyLists.fin := finK impl_copyLists.ctx impl_copyLists.sig [.tmp 2]
noncomputable def impl_copyLists.F (d : List (List Int) × Unit) : Option ((List (List Int) × Unit) × (Unit)) := anyK (runFn impl_copyLists.cfg impl_copyLists.fin impl_copyLists.code (initSt impl_copyLists.sig.ps d 19))
noncomputable def impl_copyLists.l3 (k : Nat) (x2 : List (List Int)) (i3 : Int) (i4 : Int) (x5 : List (List Int)) : Option ((List (List Int) × Unit) × (Unit)) :=
  Go.Vm.runT impl_copyLists.cfg impl_copyLists.fin k [.inLoop (sub [1, 1, 0, 1, 0, 0] impl_copyLists.code), .inBlock 0, .code (sub [1, 1, 1] impl_copyLists.code)]
    ⟨[.dead, .dead, .dead, .view 12 (.root 0) 1 false, .dead, .dead, .val false [⟨(.sl (.sl (.int .i64))), .sh, x2⟩], .val false [⟨(.int .i64), .sh, i3⟩], .val false [⟨(.int .i64), .sh, i4⟩]] ++ deads 10, [(12, ⟨false, [⟨(.sl (.sl (.int .i64))), .deep, x5⟩]⟩)]⟩
theorem impl_copyLists.l3_eq (k : Nat) (x2 : List (List Int)) (i3 : Int) (i4 : Int) (x5 : List (List Int)) : impl_copyLists.l3 (k + 1) x2 i3 i4 x5 =
  if (decide (i4 < i3)) = true then
    if 0 ≤ i4 ∧ i4 < (x2.length : Int) then
      (slices_Clone_Lint64_int64.F (x2.getD i4.toNat ([] : List Int), ())).bind fun r6 =>
        if x5.length + ([r6.1.1] : List (List Int)).length ≤ bigA then
          impl_copyLists.l3 k x2 i3 (IntKind.i64.wrap (i4 + (1 : Int))) (x5 ++ ([r6.1.1]))
        else
          none
    else
      none
  else
    some ((x5, ()), ()) := by kernel_rfl
noncomputable def impl_copyLists.T (k : Nat) (lists_1 : List (List Int)) : Option ((List (List Int) × Unit) × (Unit)) :=
  impl_copyLists.l3 k lists_1 (lists_1.length : Int) (0 : Int) ([])
theorem impl_copyLists.run (k : Nat) (lists_1 : List (List Int)) : runFn impl_copyLists.cfg impl_copyLists.fin impl_copyLists.code (initSt impl_copyLists.sig.ps (lists_1, ()) 19) k = impl_copyLists.T k lists_1 := by kernel_rfl
theorem impl_copyLists.of (lists_1 : List (List Int)) {r : (List (List Int) × Unit) × (Unit)} (h : Ev (fun k => impl_copyLists.T k lists_1) r) : impl_copyLists.F (lists_1, ()) = some r := Ev.run (fun k => impl_copyLists.run k lists_1) h
theorem impl_copyLists.ok : CtxOK Go.Proofs.Tryz.prog impl_copyLists.ctx := ⟨List.forall_mem_nil _, mixed_ok, tab_ok tab_good, List.forall_mem_cons.2 ⟨slices_Clone_Lint64_int64.S, List.forall_mem_nil _⟩, List.forall_mem_nil _, List.forall_mem_nil _⟩
theorem impl_copyLists.S : Sound Go.Proofs.Tryz.prog ⟨77, impl_copyLists.sig, impl_copyLists.F⟩ := sound_any (fn := Go.Proofs.Tryz.f77) (code := impl_copyLists.code) (g := impl_copyLists.cfg) (res := [.tmp 2]) Go.Proofs.Tryz.func77 (by kernel_rfl) (by kernel_rfl) impl_copyLists.ok (by kernel_rfl) (by kernel_rfl) (Nat.le_of_ble_eq_true (by kernel_rfl)) (by kernel_rfl)
/-! ### impl_filled -/
noncomputable def impl_filled.sig : Sig := ⟨[.val false (.int .i64), .val false (.int .i64), .val false (.int .i64), .fnx ⟨[(false, (.int .i64)), (false, (.int .i64))], [(.val false, (.int .i64), .deep)]⟩], [(.val true, TMatrix, .deep)]⟩
noncomputable def impl_filled.ctx : Ctx := ⟨tabOf tabl, [], [], [], [], []⟩
noncomputable def impl_filled.cfg : Cfg := ⟨impl_filled.ctx, [], [], fun id => match id with | 3 => ([2, 3, 8, 9, 16, 17], [32, 36]) | 6 => ([2, 3, 8, 9, 10, 16, 17, 20, 21], [32, 36]) | _ => ([], []), fun _ => []⟩
noncomputable def impl_filled.code : Code := (Go.Proofs.Tryz.f127).body.getD .skip
noncomputable def impl_filled.fin := finK impl_filled.ctx impl_filled.sig [.cell 8 89]
noncomputable def impl_filled.F (d : Int × Int × Int × ((Int × Int × Unit) → Option (Int × Unit)) × Unit) : Option (((Int × Int × Int × List Int) × Unit) × (Unit)) := anyK (runFn impl_filled.cfg impl_filled.fin impl_filled.code (initSt impl_filled.sig.ps d 36))
noncomputable def impl_filled.l3 (k : Nat) (i5 : Int) (f6 : (Int × Int × Unit) → Option (Int × Unit)) (i7 : Int) (i8 : Int) (i9 : Int) (i10 : Int) (i11 : Int) (x12 : List Int) (i13 : Int) (i14 : Int) (i15 : Int) (x16 : List Int) : Option (((Int × Int × Int × List Int) × Unit) × (Unit)) :=
  Go.Vm.runT impl_filled.cfg impl_filled.fin k [.inLoop (sub [1, 1, 0, 1, 0, 0] impl_filled.code), .inBlock 0, .code (sub [1, 1, 1] impl_filled.code)]
    ⟨[.dead, .dead, .val false [⟨(.int .i64), .sh, i5⟩], .fnx ⟨[(false, (.int .i64)), (false, (.int .i64))], [(.val false, (.int .i64), .deep)]⟩ f6, .dead, .dead, .dead, .dead, .ref 32 (.root 0), .ref 36 (.root 0), .dead, .dead, .dead, .dead, .dead, .dead, .val false [⟨(.int .i64), .sh, i7⟩], .val false [⟨(.int .i64), .sh, i8⟩]] ++ deads 18, [(32, ⟨true, [⟨(.int .i64), .sh, i9⟩, ⟨(.int .i64), .sh, i10⟩, ⟨(.int .i64), .sh, i11⟩, ⟨(.sl (.int .i64)), .deep, x12⟩]⟩), (36, ⟨true, [⟨(.int .i64), .sh, i13⟩, ⟨(.int .i64), .sh, i14⟩, ⟨(.int .i64), .sh, i15⟩, ⟨(.sl (.int .i64)), .deep, x16⟩]⟩)]⟩
noncomputable def impl_filled.l6 (k : Nat) (i17 : Int) (f18 : (Int × Int × Unit) → Option (Int × Unit)) (i19 : Int) (i20 : Int) (i21 : Int) (i22 : Int) (i23 : Int) (i24 : Int) (i25 : Int) (i26 : Int) (x27 : List Int) (i28 : Int) (i29 : Int) (i30 : Int) (x31 : List Int) : Option (((Int × Int × Int × List Int) × Unit) × (Unit)) :=
  Go.Vm.runT impl_filled.cfg impl_filled.fin k [.inLoop (sub [1, 1, 0, 1, 0, 0, 1, 1, 0, 0, 1, 1, 0, 0] impl_filled.code), .inBlock 2, .inBlock 1, .code (sub [1, 1, 0, 1, 0, 0, 1, 1, 1] impl_filled.code), .inLoop (sub [1, 1, 0, 1, 0, 0] impl_filled.code), .inBlock 0, .code (sub [1, 1, 1] impl_filled.code)]
    ⟨[.dead, .dead, .val false [⟨(.int .i64), .sh, i17⟩], .fnx ⟨[(false, (.int .i64)), (false, (.int .i64))], [(.val false, (.int .i64), .deep)]⟩ f18, .dead, .dead, .dead, .dead, .ref 32 (.root 0), .ref 36 (.root 0), .val false [⟨(.int .i64), .sh, i19⟩], .dead, .dead, .dead, .dead, .dead, .val false [⟨(.int .i64), .sh, i20⟩], .val false [⟨(.int .i64), .sh, i21⟩], .dead, .dead, .val false [⟨(.int .i64), .sh, i22⟩], .val false [⟨(.int .i64), .sh, i23⟩]] ++ deads 14, [(32, ⟨true, [⟨(.int .i64), .sh, i24⟩, ⟨(.int .i64), .sh, i25⟩, ⟨(.int .i64), .sh, i26⟩, ⟨(.sl (.int .i64)), .deep, x27⟩]⟩), (36, ⟨true, [⟨(.int .i64), .sh, i28⟩, ⟨(.int .i64), .sh, i29⟩, ⟨(.int .i64), .sh, i30⟩, ⟨(.sl (.int .i64)), .deep, x31⟩]⟩)]⟩
theorem impl_filled.l3_eq (k : Nat) (i5 : Int) (f6 : (Int × Int × Unit) → Option (Int × Unit)) (i7 : Int) (i8 : Int) (i9 : Int) (i10 : Int) (i11 : Int) (x12 : List Int) (i13 : Int) (i14 : Int) (i15 : Int) (x16 : List Int) : impl_filled.l3 (k + 1) i5 f6 i7 i8 i9 i10 i11 x12 i13 i14 i15 x16 =
  if (decide (i8 < i7)) = true then
    impl_filled.l6 k i5 f6 i8 i7 i8 i5 (0 : Int) i9 i10 i11 x12 i13 i14 i15 x16
  else
    some (((i13, (i14, (i15, x16))), ()), ()) := by kernel_rfl
theorem impl_filled.l6_eq (k : Nat) (i17 : Int) (f18 : (Int × Int × Unit) → Option (Int × Unit)) (i19 : Int) (i20 : Int) (i21 : Int) (i22 : Int) (i23 : Int) (i24 : Int) (i25 : Int) (i26 : Int) (x27 : List Int) (i28 : Int) (i29 : Int) (i30 : Int) (x31 : List Int) : impl_filled.l6 (k + 1) i17 f18 i19 i20 i21 i22 i23 i24 i25 i26 x27 i28 i29 i30 x31 =
  if (decide (i23 < i22)) = true then
    (f18 (i19, i23, ())).bind fun r32 =>
      if x31.length + ([(r32.1 : Int)] : List Int).length ≤ bigA then
        impl_filled.l6 k i17 f18 i19 i20 i21 i22 (IntKind.i64.wrap (i23 + (1 : Int))) i24 i25 i26 x27 i28 i29 i30 (x31 ++ ([(r32.1 : Int)]))
      else
        none
  else
    impl_filled.l3 k i17 f18 i20 (IntKind.i64.wrap (i21 + (1 : Int))) i24 i25 i26 x27 i28 i29 i30 x31 := by kernel_rfl
noncomputable def impl_filled.T (k : Nat) (p_1 : Int) (rows_2 : Int) (columns_3 : Int) (f_4 : (Int × Int × Unit) → Option (Int × Unit)) : Option (((Int × Int × Int × List Int) × Unit) × (Unit)) :=
  impl_filled.l3 k columns_3 f_4 rows_2 (0 : Int) 0 0 0 ([]) p_1 rows_2 columns_3 ([])
theorem impl_filled.run (k : Nat) (p_1 : Int) (rows_2 : Int) (columns_3 : Int) (f_4 : (Int × Int × Unit) → Option (Int × Unit)) : runFn impl_filled.cfg impl_filled.fin impl_filled.code (initSt impl_filled.sig.ps (p_1, rows_2, columns_3, f_4, ()) 36) k = impl_filled.T k p_1 rows_2 columns_3 f_4 := by kernel_rfl
theorem impl_filled.of (p_1 : Int) (rows_2 : Int) (columns_3 : Int) (f_4 : (Int × Int × Unit) → Option (Int × Unit)) {r : ((Int × Int × Int × List Int) × Unit) × (Unit)} (h : Ev (fun k => impl_filled.T k p_1 rows_2 columns_3 f_4) r) : impl_filled.F (p_1, rows_2, columns_3, f_4, ()) = some r := Ev.run (fun k => impl_filled.run k p_1 rows_2 columns_3 f_4) h
theorem impl_filled.ok : CtxOK Go.Proofs.Tryz.prog impl_filled.ctx := ⟨List.forall_mem_nil _, mixed_ok, tab_ok tab_good, List.forall_mem_nil _, List.forall_mem_nil _, List.forall_mem_nil _⟩
theorem impl_filled.S : Sound Go.Proofs.Tryz.prog ⟨127, impl_filled.sig, impl_filled.F⟩ := sound_any (fn := Go.Proofs.Tryz.f127) (code := impl_filled.code) (g := impl_filled.cfg) (res := [.cell 8 89]) Go.Proofs.Tryz.func127 (by kernel_rfl) (by kernel_rfl) impl_filled.ok (by kernel_rfl) (by kernel_rfl) (Nat.le_of_ble_eq_true (by kernel_rfl)) (by kernel_rfl)
/-! ### impl_Matrix_at -/
noncomputable def impl_Matrix_at.sig : Sig := ⟨[.val true TMatrix, .val false (.int .i64), .val false (.int .i64)], [(.val false, (.int .i64), .deep)]⟩
noncomputable def impl_Matrix_at.ctx : Ctx := ⟨tabOf tabl, [], [], [], [], []⟩
noncomputable def impl_Matrix_at.cfg : Cfg := ⟨impl_Matrix_at.ctx, [], [], fun _ => ([], []), fun _ => []⟩
noncomputable def impl_Matrix_at.code : Code := (Go.Proofs.Tryz.f129).body.getD .skip
noncomputable def impl_Matrix_at.fin := finK impl_Matrix_at.ctx impl_Matrix_at.sig [.tmp 6]
noncomputable def impl_Matrix_at.F (d : (Int × Int × Int × List Int) × Int × Int × Unit) : Option ((Int × Unit) × (Unit)) := anyK (runFn impl_Matrix_at.cfg impl_Matrix_at.fin impl_Matrix_at.code (initSt impl_Matrix_at.sig.ps d 17))
noncomputable def impl_Matrix_at.T (m_1 : Int) (m_2 : Int) (m_3 : Int) (m_4 : List Int) (i_5 : Int) (j_6 : Int) : Option ((Int × Unit) × (Unit)) :=
  if 0 ≤ (IntKind.i64.wrap ((IntKind.i64.wrap (i_5 * m_3)) + j_6)) ∧ (IntKind.i64.wrap ((IntKind.i64.wrap (i_5 * m_3)) + j_6)) < (m_4.length : Int) then
    some (((m_4.getD (IntKind.i64.wrap ((IntKind.i64.wrap (i_5 * m_3)) + j_6)).toNat 0 : Int), ()), ())
  else
    none
theorem impl_Matrix_at.run (k : Nat) (m_1 : Int) (m_2 : Int) (m_3 : Int) (m_4 : List Int) (i_5 : Int) (j_6 : Int) : runFn impl_Matrix_at.cfg impl_Matrix_at.fin impl_Matrix_at.code (initSt impl_Matrix_at.sig.ps ((m_1, (m_2, (m_3, m_4))), i_5, j_6, ()) 17) k = impl_Matrix_at.T m_1 m_2 m_3 m_4 i_5 j_6 := by kernel_rfl
theorem impl_Matrix_at.eq (m_1 : Int) (m_2 : Int) (m_3 : Int) (m_4 : List Int) (i_5 : Int) (j_6 : Int) : impl_Matrix_at.F ((m_1, (m_2, (m_3, m_4))), i_5, j_6, ()) = impl_Matrix_at.T m_1 m_2 m_3 m_4 i_5 j_6 := (congrArg anyK (funext fun k => impl_Matrix_at.run k m_1 m_2 m_3 m_4 i_5 j_6)).trans (anyK_const _)
theorem impl_Matrix_at.ok : CtxOK Go.Proofs.Tryz.prog impl_Matrix_at.ctx := ⟨List.forall_mem_nil _, mixed_ok, tab_ok tab_good, List.forall_mem_nil _, List.forall_mem_nil _, List.forall_mem_nil _⟩
theorem impl_Matrix_at.S : Sound Go.Proofs.Tryz.prog ⟨129, impl_Matrix_at.sig, impl_Matrix_at.F⟩ := sound_any (fn := Go.Proofs.Tryz.f129) (code := impl_Matrix_at.code) (g := impl_Matrix_at.cfg) (res := [.tmp 6]) Go.Proofs.Tryz.func129 (by kernel_rfl) (by kernel_rfl) impl_Matrix_at.ok (by kernel_rfl) (by kernel_rfl) (Nat.le_of_ble_eq_true (by kernel_rfl)) (by kernel_rfl)
/-! ### impl_transpose_1 -/
noncomputable def impl_transpose_1.sig : Sig := ⟨[.val false (.int .i64), .val false (.int .i64), .rptr TMatrix], [(.val false, (.int .i64), .deep)]⟩
noncomputable def impl_transpose_1.ctx : Ctx := ⟨tabOf tabl, [⟨129, impl_Matrix_at.sig, impl_Matrix_at.F⟩], [], [], [], []⟩
noncomputable def impl_transpose_1.cfg : Cfg := ⟨impl_transpose_1.ctx, [], [], fun _ => ([], []), fun _ => []⟩
noncomputable def impl_transpose_1.code : Code := (Go.Proofs.Tryz.f128).body.getD .skip
noncomputable def impl_transpose_1.fin := finK impl_transpose_1.ctx impl_transpose_1.sig [.tmp 5]
noncomputable def impl_transpose_1.F (d : Int × Int × (Int × Int × Int × List Int) × Unit) : Option ((Int × Unit) × (Unit)) := anyK (runFn impl_transpose_1.cfg impl_transpose_1.fin impl_transpose_1.code (initSt impl_transpose_1.sig.ps d 10))
noncomputable def impl_transpose_1.T (i_1 : Int) (j_2 : Int) (a_3 : Int) (a_4 : Int) (a_5 : Int) (a_6 : List Int) : Option ((Int × Unit) × (Unit)) :=
  (impl_Matrix_at.F ((a_3, (a_4, (a_5, a_6))), j_2, i_1, ())).bind fun r7 =>
    some (((r7.1.1 : Int), ()), ())
theorem impl_transpose_1.run (k : Nat) (i_1 : Int) (j_2 : Int) (a_3 : Int) (a_4 : Int) (a_5 : Int) (a_6 : List Int) : runFn impl_transpose_1.cfg impl_transpose_1.fin impl_transpose_1.code (initSt impl_transpose_1.sig.ps (i_1, j_2, (a_3, (a_4, (a_5, a_6))), ()) 10) k = impl_transpose_1.T i_1 j_2 a_3 a_4 a_5 a_6 := by kernel_rfl
theorem impl_transpose_1.eq (i_1 : Int) (j_2 : Int) (a_3 : Int) (a_4 : Int) (a_5 : Int) (a_6 : List Int) : impl_transpose_1.F (i_1, j_2, (a_3, (a_4, (a_5, a_6))), ()) = impl_transpose_1.T i_1 j_2 a_3 a_4 a_5 a_6 := (congrArg anyK (funext fun k => impl_transpose_1.run k i_1 j_2 a_3 a_4 a_5 a_6)).trans (anyK_const _)
theorem impl_transpose_1.ok : CtxOK Go.Proofs.Tryz.prog impl_transpose_1.ctx := ⟨List.forall_mem_nil _, mixed_ok, tab_ok tab_good, List.forall_mem_cons.2 ⟨impl_Matrix_at.S, List.forall_mem_nil _⟩, List.forall_mem_nil _, List.forall_mem_nil _⟩
theorem impl_transpose_1.S : Sound Go.Proofs.Tryz.prog ⟨128, impl_transpose_1.sig, impl_transpose_1.F⟩ := sound_any (fn := Go.Proofs.Tryz.f128) (code := impl_transpose_1.code) (g := impl_transpose_1.cfg) (res := [.tmp 5]) Go.Proofs.Tryz.func128 (by kernel_rfl) (by kernel_rfl) impl_transpose_1.ok (by kernel_rfl) (by kernel_rfl) (Nat.le_of_ble_eq_true (by kernel_rfl)) (by kernel_rfl)
noncomputable def impl_transpose_1.cloG (y : (Int × Int × Int × List Int) × Unit) (d : Int × Int × Unit) : Option (Int × Unit) := (impl_transpose_1.F (joinIns [.rptr TMatrix] [(false, (.int .i64)), (false, (.int .i64))] d y)).map (·.1)
noncomputable def impl_transpose_1.clo : Clo := ⟨128, ⟨[(false, (.int .i64)), (false, (.int .i64))], [(.val false, (.int .i64), .deep)]⟩, [.rptr TMatrix], impl_transpose_1.cloG⟩
theorem impl_transpose_1.cloS : SoundClo Go.Proofs.Tryz.prog impl_transpose_1.clo := sound_clo (s := ⟨[(false, (.int .i64)), (false, (.int .i64))], [(.val false, (.int .i64), .deep)]⟩) (caps := [.rptr TMatrix]) rfl impl_transpose_1.S
/-! ### impl_transpose -/
noncomputable def impl_transpose.sig : Sig := ⟨[.val true TMatrix], [(.val true, TMatrix, .deep)]⟩
noncomputable def impl_transpose.ctx : Ctx := ⟨tabOf tabl, [⟨127, impl_filled.sig, impl_filled.F⟩], [impl_transpose_1.clo], [], [], []⟩
noncomputable def impl_transpose.cfg : Cfg := ⟨impl_transpose.ctx, [], [], fun _ => ([], []), fun _ => []⟩
noncomputable def impl_transpose.code : Code := (Go.Proofs.Tryz.f107).body.getD .skip
noncomputable def impl_transpose.fin := finK impl_transpose.ctx impl_transpose.sig [.cell 2 89]
noncomputable def impl_transpose.F (d : (Int × Int × Int × List Int) × Unit) : Option (((Int × Int × Int × List Int) × Unit) × (Unit)) := anyK (runFn impl_transpose.cfg impl_transpose.fin impl_transpose.code (initSt impl_transpose.sig.ps d 11))
noncomputable def impl_transpose.T (m_1 : Int) (m_2 : Int) (m_3 : Int) (m_4 : List Int) : Option (((Int × Int × Int × List Int) × Unit) × (Unit)) :=
  (impl_filled.F (m_1, m_3, m_2, impl_transpose_1.cloG ((m_1, (m_2, (m_3, m_4))), ()), ())).bind fun r5 =>
    some ((r5.1.1, ()), ())
theorem impl_transpose.run (k : Nat) (m_1 : Int) (m_2 : Int) (m_3 : Int) (m_4 : List Int) : runFn impl_transpose.cfg impl_transpose.fin impl_transpose.code (initSt impl_transpose.sig.ps ((m_1, (m_2, (m_3, m_4))), ()) 11) k = impl_transpose.T m_1 m_2 m_3 m_4 := by kernel_rfl
theorem impl_transpose.eq (m_1 : Int) (m_2 : Int) (m_3 : Int) (m_4 : List Int) : impl_transpose.F ((m_1, (m_2, (m_3, m_4))), ()) = impl_transpose.T m_1 m_2 m_3 m_4 := (congrArg anyK (funext fun k => impl_transpose.run k m_1 m_2 m_3 m_4)).trans (anyK_const _)
theorem impl_transpose.ok : CtxOK Go.Proofs.Tryz.prog impl_transpose.ctx := ⟨List.forall_mem_nil _, mixed_ok, tab_ok tab_good, List.forall_mem_cons.2 ⟨impl_filled.S, List.forall_mem_nil _⟩, List.forall_mem_cons.2 ⟨impl_transpose_1.cloS, List.forall_mem_nil _⟩, List.forall_mem_nil _⟩
theorem impl_transpose.S : Sound Go.Proofs.Tryz.prog ⟨107, impl_transpose.sig, impl_transpose.F⟩ := sound_any (fn := Go.Proofs.Tryz.f107) (code := impl_transpose.code) (g := impl_transpose.cfg) (res := [.cell 2 89]) Go.Proofs.Tryz.func107 (by kernel_rfl) (by kernel_rfl) impl_transpose.ok (by kernel_rfl) (by kernel_rfl) (Nat.le_of_ble_eq_true (by kernel_rfl)) (by kernel_rfl)
/-! ### impl_turned -/
noncomputable def impl_turned.sig : Sig := ⟨[.val false (.sl TMatrix)], [(.val false, (.sl TMatrix), .deep)]⟩
noncomputable def impl_turned.ctx : Ctx := ⟨tabOf tabl, [⟨107, impl_transpose.sig, impl_transpose.F⟩], [], [], [], []⟩
noncomputable def impl_turned.cfg : Cfg := ⟨impl_turned.ctx, [], [], fun id => match id with | 3 => ([3, 6, 7, 8], [12]) | _ => ([], []), fun _ => []⟩
noncomputable def impl_turned.code : Code := (Go.Proofs.Tryz.f79).body.getD .skip
noncomputable def impl_turned.fin := finK impl_turned.ctx impl_turned.sig [.tmp 2]
noncomputable def impl_turned.F (d : List (Int × Int × Int × List Int) × Unit) : Option ((List (Int × Int × Int × List Int) × Unit) × (Unit)) := anyK (runFn impl_turned.cfg impl_turned.fin impl_turned.code (initSt impl_turned.sig.ps d 19))
noncomputable def impl_turned.l3 (k : Nat) (x2 : List (Int × Int × Int × List Int)) (i3 : Int) (i4 : Int) (x5 : List (Int × Int × Int × List Int)) : Option ((List (Int × Int × Int × List Int) × Unit) × (Unit)) :=
  Go.Vm.runT impl_turned.cfg impl_turned.fin k [.inLoop (sub [1, 1, 0, 1, 0, 0] impl_turned.code), .inBlock 0, .code (sub [1, 1, 1] impl_turned.code)]
    ⟨[.dead, .dead, .dead, .view 12 (.root 0) 1 false, .dead, .dead, .val false [⟨(.sl TMatrix), .sh, x2⟩], .val false [⟨(.int .i64), .sh, i3⟩], .val false [⟨(.int .i64), .sh, i4⟩]] ++ deads 10, [(12, ⟨false, [⟨(.sl TMatrix), .deep, x5⟩]⟩)]⟩
theorem impl_turned.l3_eq (k : Nat) (x2 : List (Int × Int × Int × List Int)) (i3 : Int) (i4 : Int) (x5 : List (Int × Int × Int × List Int)) : impl_turned.l3 (k + 1) x2 i3 i4 x5 =
  if (decide (i4 < i3)) = true then
    if 0 ≤ i4 ∧ i4 < (x2.length : Int) then
      (impl_transpose.F (x2.getD i4.toNat (0, 0, 0, ([] : List Int)), ())).bind fun r6 =>
        if x5.length + ([r6.1.1] : List (Int × Int × Int × List Int)).length ≤ bigA then
          impl_turned.l3 k x2 i3 (IntKind.i64.wrap (i4 + (1 : Int))) (x5 ++ ([r6.1.1]))
        else
          none
    else
      none
  else
    some ((x5, ()), ()) := by kernel_rfl
noncomputable def impl_turned.T (k : Nat) (maps_1 : List (Int × Int × Int × List Int)) : Option ((List (Int × Int × Int × List Int) × Unit) × (Unit)) :=
  impl_turned.l3 k maps_1 (maps_1.length : Int) (0 : Int) ([])
theorem impl_turned.run (k : Nat) (maps_1 : List (Int × Int × Int × List Int)) : runFn impl_turned.cfg impl_turned.fin impl_turned.code (initSt impl_turned.sig.ps (maps_1, ()) 19) k = impl_turned.T k maps_1 := by kernel_rfl
theorem impl_turned.of (maps_1 : List (Int × Int × Int × List Int)) {r : (List (Int × Int × Int × List Int) × Unit) × (Unit)} (h : Ev (fun k => impl_turned.T k maps_1) r) : impl_turned.F (maps_1, ()) = some r := Ev.run (fun k => impl_turned.run k maps_1) h
theorem impl_turned.ok : CtxOK Go.Proofs.Tryz.prog impl_turned.ctx := ⟨List.forall_mem_nil _, mixed_ok, tab_ok tab_good, List.forall_mem_cons.2 ⟨impl_transpose.S, List.forall_mem_nil _⟩, List.forall_mem_nil _, List.forall_mem_nil _⟩
theorem impl_turned.S : Sound Go.Proofs.Tryz.prog ⟨79, impl_turned.sig, impl_turned.F⟩ := sound_any (fn := Go.Proofs.Tryz.f79) (code := impl_turned.code) (g := impl_turned.cfg) (res := [.tmp 2]) Go.Proofs.Tryz.func79 (by kernel_rfl) (by kernel_rfl) impl_turned.ok (by kernel_rfl) (by kernel_rfl) (Nat.le_of_ble_eq_true (by kernel_rfl)) (by kernel_rfl)
/-! ### impl_sheafBehind -/
noncomputable def impl_sheafBehind.sig : Sig := ⟨[.val true TSheaf], [(.val true, TSheaf, .deep)]⟩
noncomputable def impl_sheafBehind.ctx : Ctx := ⟨tabOf tabl, [⟨77, impl_copyLists.sig, impl_copyLists.F⟩, ⟨78, slices_Clone_Lint64_int64.sig, slices_Clone_Lint64_int64.F⟩, ⟨79, impl_turned.sig, impl_turned.F⟩], [], [], [], []⟩
noncomputable def impl_sheafBehind.cfg : Cfg := ⟨impl_sheafBehind.ctx, [], [], fun _ => ([], []), fun _ => []⟩
noncomputable def impl_sheafBehind.code : Code := (Go.Proofs.Tryz.f44).body.getD .skip
noncomputable def impl_sheafBehind.fin := finK impl_sheafBehind.ctx impl_sheafBehind.sig [.cell 2 36]
noncomputable def impl_sheafBehind.F (d : (List (List Int) × Int × List Int × List (Int × Int × Int × List Int)) × Unit) : Option (((List (List Int) × Int × List Int × List (Int × Int × Int × List Int)) × Unit) × (Unit)) := anyK (runFn impl_sheafBehind.cfg impl_sheafBehind.fin impl_sheafBehind.code (initSt impl_sheafBehind.sig.ps d 17))
noncomputable def impl_sheafBehind.T (t_1 : List (List Int)) (t_2 : Int) (t_3 : List Int) (t_4 : List (Int × Int × Int × List Int)) : Option (((List (List Int) × Int × List Int × List (Int × Int × Int × List Int)) × Unit) × (Unit)) :=
  (impl_copyLists.F (t_1, ())).bind fun r5 =>
    (slices_Clone_Lint64_int64.F (t_3, ())).bind fun r6 =>
      (impl_turned.F (t_4, ())).bind fun r7 =>
        some (((r5.1.1, (t_2, (r6.1.1, r7.1.1))), ()), ())
theorem impl_sheafBehind.run (k : Nat) (t_1 : List (List Int)) (t_2 : Int) (t_3 : List Int) (t_4 : List (Int × Int × Int × List Int)) : runFn impl_sheafBehind.cfg impl_sheafBehind.fin impl_sheafBehind.code (initSt impl_sheafBehind.sig.ps ((t_1, (t_2, (t_3, t_4))), ()) 17) k = impl_sheafBehind.T t_1 t_2 t_3 t_4 := by kernel_rfl
theorem impl_sheafBehind.eq (t_1 : List (List Int)) (t_2 : Int) (t_3 : List Int) (t_4 : List (Int × Int × Int × List Int)) : impl_sheafBehind.F ((t_1, (t_2, (t_3, t_4))), ()) = impl_sheafBehind.T t_1 t_2 t_3 t_4 := (congrArg anyK (funext fun k => impl_sheafBehind.run k t_1 t_2 t_3 t_4)).trans (anyK_const _)
theorem impl_sheafBehind.ok : CtxOK Go.Proofs.Tryz.prog impl_sheafBehind.ctx := ⟨List.forall_mem_nil _, mixed_ok, tab_ok tab_good, List.forall_mem_cons.2 ⟨impl_copyLists.S, List.forall_mem_cons.2 ⟨slices_Clone_Lint64_int64.S, List.forall_mem_cons.2 ⟨impl_turned.S, List.forall_mem_nil _⟩⟩⟩, List.forall_mem_nil _, List.forall_mem_nil _⟩
theorem impl_sheafBehind.S : Sound Go.Proofs.Tryz.prog ⟨44, impl_sheafBehind.sig, impl_sheafBehind.F⟩ := sound_any (fn := Go.Proofs.Tryz.f44) (code := impl_sheafBehind.code) (g := impl_sheafBehind.cfg) (res := [.cell 2 36]) Go.Proofs.Tryz.func44 (by kernel_rfl) (by kernel_rfl) impl_sheafBehind.ok (by kernel_rfl) (by kernel_rfl) (Nat.le_of_ble_eq_true (by kernel_rfl)) (by kernel_rfl)
/-! ### slices_IndexFunc_Limpl_Matrix_impl_Matrix -/
noncomputable def slices_IndexFunc_Limpl_Matrix_impl_Matrix.sig : Sig := ⟨[.val false (.sl TMatrix), .fnx ⟨[(true, TMatrix)], [(.val false, .bool, .deep)]⟩], [(.val false, (.int .i64), .deep)]⟩
noncomputable def slices_IndexFunc_Limpl_Matrix_impl_Matrix.ctx : Ctx := ⟨tabOf tabl, [], [], [], [], []⟩
noncomputable def slices_IndexFunc_Limpl_Matrix_impl_Matrix.cfg : Cfg := ⟨slices_IndexFunc_Limpl_Matrix_impl_Matrix.ctx, [], [], fun id => match id with | 2 => ([0, 1, 7, 8], []) | _ => ([], []), fun _ => []⟩
noncomputable def slices_IndexFunc_Limpl_Matrix_impl_Matrix.code : Code := (Go.Proofs.Tryz.f105).body.getD .skip
noncomputable def slices_IndexFunc_Limpl_Matrix_impl_Matrix.fin := finK slices_IndexFunc_Limpl_Matrix_impl_Matrix.ctx slices_IndexFunc_Limpl_Matrix_impl_Matrix.sig [.tmp 4]
noncomputable def slices_IndexFunc_Limpl_Matrix_impl_Matrix.F (d : List (Int × Int × Int × List Int) × (((Int × Int × Int × List Int) × Unit) → Option (Bool × Unit)) × Unit) : Option ((Int × Unit) × (Unit)) := anyK (runFn slices_IndexFunc_Limpl_Matrix_impl_Matrix.cfg slices_IndexFunc_Limpl_Matrix_impl_Matrix.fin slices_IndexFunc_Limpl_Matrix_impl_Matrix.code (initSt slices_IndexFunc_Limpl_Matrix_impl_Matrix.sig.ps d 19))
noncomputable def slices_IndexFunc_Limpl_Matrix_impl_Matrix.l2 (k : Nat) (x3 : List (Int × Int × Int × List Int)) (f4 : ((Int × Int × Int × List Int) × Unit) → Option (Bool × Unit)) (i5 : Int) (i6 : Int) : Option ((Int × Unit) × (Unit)) :=
  Go.Vm.runT slices_IndexFunc_Limpl_Matrix_impl_Matrix.cfg slices_IndexFunc_Limpl_Matrix_impl_Matrix.fin k [.inLoop (sub [1, 0, 1, 0, 0] slices_IndexFunc_Limpl_Matrix_impl_Matrix.code), .inBlock 0, .code (sub [1, 1] slices_IndexFunc_Limpl_Matrix_impl_Matrix.code)]
    ⟨[.val false [⟨(.sl TMatrix), .sh, x3⟩], .fnx ⟨[(true, TMatrix)], [(.val false, .bool, .deep)]⟩ f4, .dead, .dead, .dead, .dead, .dead, .val false [⟨(.int .i64), .sh, i5⟩], .val false [⟨(.int .i64), .sh, i6⟩]] ++ deads 10, []⟩
theorem slices_IndexFunc_Limpl_Matrix_impl_Matrix.l2_eq (k : Nat) (x3 : List (Int × Int × Int × List Int)) (f4 : ((Int × Int × Int × List Int) × Unit) → Option (Bool × Unit)) (i5 : Int) (i6 : Int) : slices_IndexFunc_Limpl_Matrix_impl_Matrix.l2 (k + 1) x3 f4 i5 i6 =
  if (decide (i6 < i5)) = true then
    if 0 ≤ i6 ∧ i6 < (x3.length : Int) then
      (f4 (x3.getD i6.toNat (0, 0, 0, ([] : List Int)), ())).bind fun r7 =>
        if (r7.1 : Bool) = true then
          some ((i6, ()), ())
        else
          slices_IndexFunc_Limpl_Matrix_impl_Matrix.l2 k x3 f4 i5 (IntKind.i64.wrap (i6 + (1 : Int)))
    else
      none
  else
    some (((-1 : Int), ()), ()) := by kernel_rfl
noncomputable def slices_IndexFunc_Limpl_Matrix_impl_Matrix.T (k : Nat) (s_1 : List (Int × Int × Int × List Int)) (f_2 : ((Int × Int × Int × List Int) × Unit) → Option (Bool × Unit)) : Option ((Int × Unit) × (Unit)) :=
  slices_IndexFunc_Limpl_Matrix_impl_Matrix.l2 k s_1 f_2 (s_1.length : Int) (0 : Int)
theorem slices_IndexFunc_Limpl_Matrix_impl_Matrix.run (k : Nat) (s_1 : List (Int × Int × Int × List Int)) (f_2 : ((Int × Int × Int × List Int) × Unit) → Option (Bool × Unit)) : runFn slices_IndexFunc_Limpl_Matrix_impl_Matrix.cfg slices_IndexFunc_Limpl_Matrix_impl_Matrix.fin slices_IndexFunc_Limpl_Matrix_impl_Matrix.code (initSt slices_IndexFunc_Limpl_Matrix_impl_Matrix.sig.ps (s_1, f_2, ()) 19) k = slices_IndexFunc_Limpl_Matrix_impl_Matrix.T k s_1 f_2 := by kernel_rfl
theorem slices_IndexFunc_Limpl_Matrix_impl_Matrix.of (s_1 : List (Int × Int × Int × List Int)) (f_2 : ((Int × Int × Int × List Int) × Unit) → Option (Bool × Unit)) {r : (Int × Unit) × (Unit)} (h : Ev (fun k => slices_IndexFunc_Limpl_Matrix_impl_Matrix.T k s_1 f_2) r) : slices_IndexFunc_Limpl_Matrix_impl_Matrix.F (s_1, f_2, ()) = some r := Ev.run (fun k => slices_IndexFunc_Limpl_Matrix_impl_Matrix.run k s_1 f_2) h
theorem slices_IndexFunc_Limpl_Matrix_impl_Matrix.ok : CtxOK Go.Proofs.Tryz.prog slices_IndexFunc_Limpl_Matrix_impl_Matrix.ctx := ⟨List.forall_mem_nil _, mixed_ok, tab_ok tab_good, List.forall_mem_nil _, List.forall_mem_nil _, List.forall_mem_nil _⟩
theorem slices_IndexFunc_Limpl_Matrix_impl_Matrix.S : Sound Go.Proofs.Tryz.prog ⟨105, slices_IndexFunc_Limpl_Matrix_impl_Matrix.sig, slices_IndexFunc_Limpl_Matrix_impl_Matrix.F⟩ := sound_any (fn := Go.Proofs.Tryz.f105) (code := slices_IndexFunc_Limpl_Matrix_impl_Matrix.code) (g := slices_IndexFunc_Limpl_Matrix_impl_Matrix.cfg) (res := [.tmp 4]) Go.Proofs.Tryz.func105 (by kernel_rfl) (by kernel_rfl) slices_IndexFunc_Limpl_Matrix_impl_Matrix.ok (by kernel_rfl) (by kernel_rfl) (Nat.le_of_ble_eq_true (by kernel_rfl)) (by kernel_rfl)
/-! ### slices_ContainsFunc_Limpl_Matrix_impl_Matrix -/
noncomputable def slices_ContainsFunc_Limpl_Matrix_impl_Matrix.sig : Sig := ⟨[.val false (.sl TMatrix), .fnx ⟨[(true, TMatrix)], [(.val false, .bool, .deep)]⟩], [(.val false, .bool, .deep)]⟩
noncomputable def slices_ContainsFunc_Limpl_Matrix_impl_Matrix.ctx : Ctx := ⟨tabOf tabl, [⟨105, slices_IndexFunc_Limpl_Matrix_impl_Matrix.sig, slices_IndexFunc_Limpl_Matrix_impl_Matrix.F⟩], [], [], [], []⟩
noncomputable def slices_ContainsFunc_Limpl_Matrix_impl_Matrix.cfg : Cfg := ⟨slices_ContainsFunc_Limpl_Matrix_impl_Matrix.ctx, [], [], fun _ => ([], []), fun _ => []⟩
noncomputable def slices_ContainsFunc_Limpl_Matrix_impl_Matrix.code : Code := (Go.Proofs.Tryz.f74).body.getD .skip
noncomputable def slices_ContainsFunc_Limpl_Matrix_impl_Matrix.fin := finK slices_ContainsFunc_Limpl_Matrix_impl_Matrix.ctx slices_ContainsFunc_Limpl_Matrix_impl_Matrix.sig [.tmp 4]
noncomputable def slices_ContainsFunc_Limpl_Matrix_impl_Matrix.F (d : List (Int × Int × Int × List Int) × (((Int × Int × Int × List Int) × Unit) → Option (Bool × Unit)) × Unit) : Option ((Bool × Unit) × (Unit)) := anyK (runFn slices_ContainsFunc_Limpl_Matrix_impl_Matrix.cfg slices_ContainsFunc_Limpl_Matrix_impl_Matrix.fin slices_ContainsFunc_Limpl_Matrix_impl_Matrix.code (initSt slices_ContainsFunc_Limpl_Matrix_impl_Matrix.sig.ps d 9))
noncomputable def slices_ContainsFunc_Limpl_Matrix_impl_Matrix.T (s_1 : List (Int × Int × Int × List Int)) (f_2 : ((Int × Int × Int × List Int) × Unit) → Option (Bool × Unit)) : Option ((Bool × Unit) × (Unit)) :=
  (slices_IndexFunc_Limpl_Matrix_impl_Matrix.F (s_1, f_2, ())).bind fun r3 =>
    some ((decide ((r3.1.1 : Int) ≥ (0 : Int)), ()), ())
theorem slices_ContainsFunc_Limpl_Matrix_impl_Matrix.run (k : Nat) (s_1 : List (Int × Int × Int × List Int)) (f_2 : ((Int × Int × Int × List Int) × Unit) → Option (Bool × Unit)) : runFn slices_ContainsFunc_Limpl_Matrix_impl_Matrix.cfg slices_ContainsFunc_Limpl_Matrix_impl_Matrix.fin slices_ContainsFunc_Limpl_Matrix_impl_Matrix.code (initSt slices_ContainsFunc_Limpl_Matrix_impl_Matrix.sig.ps (s_1, f_2, ()) 9) k = slices_ContainsFunc_Limpl_Matrix_impl_Matrix.T s_1 f_2 := by kernel_rfl
theorem slices_ContainsFunc_Limpl_Matrix_impl_Matrix.eq (s_1 : List (Int × Int × Int × List Int)) (f_2 : ((Int × Int × Int × List Int) × Unit) → Option (Bool × Unit)) : slices_ContainsFunc_Limpl_Matrix_impl_Matrix.F (s_1, f_2, ()) = slices_ContainsFunc_Limpl_Matrix_impl_Matrix.T s_1 f_2 := (congrArg anyK (funext fun k => slices_ContainsFunc_Limpl_Matrix_impl_Matrix.run k s_1 f_2)).trans (anyK_const _)
theorem slices_ContainsFunc_Limpl_Matrix_impl_Matrix.ok : CtxOK Go.Proofs.Tryz.prog slices_ContainsFunc_Limpl_Matrix_impl_Matrix.ctx := ⟨List.forall_mem_nil _, mixed_ok, tab_ok tab_good, List.forall_mem_cons.2 ⟨slices_IndexFunc_Limpl_Matrix_impl_Matrix.S, List.forall_mem_nil _⟩, List.forall_mem_nil _, List.forall_mem_nil _⟩
theorem slices_ContainsFunc_Limpl_Matrix_impl_Matrix.S : Sound Go.Proofs.Tryz.prog ⟨74, slices_ContainsFunc_Limpl_Matrix_impl_Matrix.sig, slices_ContainsFunc_Limpl_Matrix_impl_Matrix.F⟩ := sound_any (fn := Go.Proofs.Tryz.f74) (code := slices_ContainsFunc_Limpl_Matrix_impl_Matrix.code) (g := slices_ContainsFunc_Limpl_Matrix_impl_Matrix.cfg) (res := [.tmp 4]) Go.Proofs.Tryz.func74 (by kernel_rfl) (by kernel_rfl) slices_ContainsFunc_Limpl_Matrix_impl_Matrix.ok (by kernel_rfl) (by kernel_rfl) (Nat.le_of_ble_eq_true (by kernel_rfl)) (by kernel_rfl)
/-! ### impl_ValidCosheaf_1 -/
noncomputable def impl_ValidCosheaf_1.sig : Sig := ⟨[.val true TMatrix], [(.val false, .bool, .deep)]⟩
noncomputable def impl_ValidCosheaf_1.ctx : Ctx := ⟨tabOf tabl, [⟨76, impl_ValidMatrix.sig, impl_ValidMatrix.F⟩], [], [], [], []⟩
noncomputable def impl_ValidCosheaf_1.cfg : Cfg := ⟨impl_ValidCosheaf_1.ctx, [], [], fun _ => ([], []), fun _ => []⟩
noncomputable def impl_ValidCosheaf_1.code : Code := (Go.Proofs.Tryz.f75).body.getD .skip
noncomputable def impl_ValidCosheaf_1.fin := finK impl_ValidCosheaf_1.ctx impl_ValidCosheaf_1.sig [.tmp 2]
noncomputable def impl_ValidCosheaf_1.F (d : (Int × Int × Int × List Int) × Unit) : Option ((Bool × Unit) × (Unit)) := anyK (runFn impl_ValidCosheaf_1.cfg impl_ValidCosheaf_1.fin impl_ValidCosheaf_1.code (initSt impl_ValidCosheaf_1.sig.ps d 6))
noncomputable def impl_ValidCosheaf_1.T (m_1 : Int) (m_2 : Int) (m_3 : Int) (m_4 : List Int) : Option ((Bool × Unit) × (Unit)) :=
  (impl_ValidMatrix.F ((m_1, (m_2, (m_3, m_4))), ())).bind fun r5 =>
    some ((!(r5.1.1 : Bool), ()), ())
theorem impl_ValidCosheaf_1.run (k : Nat) (m_1 : Int) (m_2 : Int) (m_3 : Int) (m_4 : List Int) : runFn impl_ValidCosheaf_1.cfg impl_ValidCosheaf_1.fin impl_ValidCosheaf_1.code (initSt impl_ValidCosheaf_1.sig.ps ((m_1, (m_2, (m_3, m_4))), ()) 6) k = impl_ValidCosheaf_1.T m_1 m_2 m_3 m_4 := by kernel_rfl
theorem impl_ValidCosheaf_1.eq (m_1 : Int) (m_2 : Int) (m_3 : Int) (m_4 : List Int) : impl_ValidCosheaf_1.F ((m_1, (m_2, (m_3, m_4))), ()) = impl_ValidCosheaf_1.T m_1 m_2 m_3 m_4 := (congrArg anyK (funext fun k => impl_ValidCosheaf_1.run k m_1 m_2 m_3 m_4)).trans (anyK_const _)
theorem impl_ValidCosheaf_1.ok : CtxOK Go.Proofs.Tryz.prog impl_ValidCosheaf_1.ctx := ⟨List.forall_mem_nil _, mixed_ok, tab_ok tab_good, List.forall_mem_cons.2 ⟨impl_ValidMatrix.S, List.forall_mem_nil _⟩, List.forall_mem_nil _, List.forall_mem_nil _⟩
theorem impl_ValidCosheaf_1.S : Sound Go.Proofs.Tryz.prog ⟨75, impl_ValidCosheaf_1.sig, impl_ValidCosheaf_1.F⟩ := sound_any (fn := Go.Proofs.Tryz.f75) (code := impl_ValidCosheaf_1.code) (g := impl_ValidCosheaf_1.cfg) (res := [.tmp 2]) Go.Proofs.Tryz.func75 (by kernel_rfl) (by kernel_rfl) impl_ValidCosheaf_1.ok (by kernel_rfl) (by kernel_rfl) (Nat.le_of_ble_eq_true (by kernel_rfl)) (by kernel_rfl)
noncomputable def impl_ValidCosheaf_1.cloG (y : Unit) (d : (Int × Int × Int × List Int) × Unit) : Option (Bool × Unit) := (impl_ValidCosheaf_1.F (joinIns [] [(true, TMatrix)] d y)).map (·.1)
noncomputable def impl_ValidCosheaf_1.clo : Clo := ⟨75, ⟨[(true, TMatrix)], [(.val false, .bool, .deep)]⟩, [], impl_ValidCosheaf_1.cloG⟩
theorem impl_ValidCosheaf_1.cloS : SoundClo Go.Proofs.Tryz.prog impl_ValidCosheaf_1.clo := sound_clo (s := ⟨[(true, TMatrix)], [(.val false, .bool, .deep)]⟩) (caps := []) rfl impl_ValidCosheaf_1.S
/-! ### impl_ValidCosheaf -/
noncomputable def impl_ValidCosheaf.sig : Sig := ⟨[.val true TSheaf], [(.val false, .bool, .deep)]⟩
noncomputable def impl_ValidCosheaf.ctx : Ctx := ⟨tabOf tabl, [⟨31, impl_ValidSheaf.sig, impl_ValidSheaf.F⟩, ⟨44, impl_sheafBehind.sig, impl_sheafBehind.F⟩, ⟨74, slices_ContainsFunc_Limpl_Matrix_impl_Matrix.sig, slices_ContainsFunc_Limpl_Matrix_impl_Matrix.F⟩], [impl_ValidCosheaf_1.clo], [], [], []⟩
noncomputable def impl_ValidCosheaf.cfg : Cfg := ⟨impl_ValidCosheaf.ctx, [], [], fun _ => ([], []), fun _ => []⟩
noncomputable def impl_ValidCosheaf.code : Code := (Go.Proofs.Tryz.f43).body.getD .skip
noncomputable def impl_ValidCosheaf.fin := finK impl_ValidCosheaf.ctx impl_ValidCosheaf.sig [.tmp 2]
noncomputable def impl_ValidCosheaf.F (d : (List (List Int) × Int × List Int × List (Int × Int × Int × List Int)) × Unit) : Option ((Bool × Unit) × (Unit)) := anyK (runFn impl_ValidCosheaf.cfg impl_ValidCosheaf.fin impl_ValidCosheaf.code (initSt impl_ValidCosheaf.sig.ps d 12))
noncomputable def impl_ValidCosheaf.T (t_1 : List (List Int)) (t_2 : Int) (t_3 : List Int) (t_4 : List (Int × Int × Int × List Int)) : Option ((Bool × Unit) × (Unit)) :=
  (slices_ContainsFunc_Limpl_Matrix_impl_Matrix.F (t_4, impl_ValidCosheaf_1.cloG (()), ())).bind fun r5 =>
    if (!(r5.1.1 : Bool)) = true then
      (impl_sheafBehind.F ((t_1, (t_2, (t_3, t_4))), ())).bind fun r6 =>
        (impl_ValidSheaf.F (r6.1.1, ())).bind fun r7 =>
          some (((r7.1.1 : Bool), ()), ())
    else
      some ((false, ()), ())
theorem impl_ValidCosheaf.run (k : Nat) (t_1 : List (List Int)) (t_2 : Int) (t_3 : List Int) (t_4 : List (Int × Int × Int × List Int)) : runFn impl_ValidCosheaf.cfg impl_ValidCosheaf.fin impl_ValidCosheaf.code (initSt impl_ValidCosheaf.sig.ps ((t_1, (t_2, (t_3, t_4))), ()) 12) k = impl_ValidCosheaf.T t_1 t_2 t_3 t_4 := by kernel_rfl
theorem impl_ValidCosheaf.eq (t_1 : List (List Int)) (t_2 : Int) (t_3 : List Int) (t_4 : List (Int × Int × Int × List Int)) : impl_ValidCosheaf.F ((t_1, (t_2, (t_3, t_4))), ()) = impl_ValidCosheaf.T t_1 t_2 t_3 t_4 := (congrArg anyK (funext fun k => impl_ValidCosheaf.run k t_1 t_2 t_3 t_4)).trans (anyK_const _)
theorem impl_ValidCosheaf.ok : CtxOK Go.Proofs.Tryz.prog impl_ValidCosheaf.ctx := ⟨List.forall_mem_nil _, mixed_ok, tab_ok tab_good, List.forall_mem_cons.2 ⟨impl_ValidSheaf.S, List.forall_mem_cons.2 ⟨impl_sheafBehind.S, List.forall_mem_cons.2 ⟨slices_ContainsFunc_Limpl_Matrix_impl_Matrix.S, List.forall_mem_nil _⟩⟩⟩, List.forall_mem_cons.2 ⟨impl_ValidCosheaf_1.cloS, List.forall_mem_nil _⟩, List.forall_mem_nil _⟩
theorem impl_ValidCosheaf.S : Sound Go.Proofs.Tryz.prog ⟨43, impl_ValidCosheaf.sig, impl_ValidCosheaf.F⟩ := sound_any (fn := Go.Proofs.Tryz.f43) (code := impl_ValidCosheaf.code) (g := impl_ValidCosheaf.cfg) (res := [.tmp 2]) Go.Proofs.Tryz.func43 (by kernel_rfl) (by kernel_rfl) impl_ValidCosheaf.ok (by kernel_rfl) (by kernel_rfl) (Nat.le_of_ble_eq_true (by kernel_rfl)) (by kernel_rfl)
/-! ### impl_DualBack -/
noncomputable def impl_DualBack.sig : Sig := ⟨[.val true TSheaf], [(.val true, TSheaf, .deep), (.val false, (.int .i64), .deep)]⟩
noncomputable def impl_DualBack.ctx : Ctx := ⟨tabOf tabl, [⟨43, impl_ValidCosheaf.sig, impl_ValidCosheaf.F⟩, ⟨44, impl_sheafBehind.sig, impl_sheafBehind.F⟩], [], [], [], []⟩
noncomputable def impl_DualBack.cfg : Cfg := ⟨impl_DualBack.ctx, [], [], fun _ => ([], []), fun _ => []⟩
noncomputable def impl_DualBack.code : Code := (Go.Proofs.Tryz.f18).body.getD .skip
noncomputable def impl_DualBack.fin := finK impl_DualBack.ctx impl_DualBack.sig [.cell 2 36, .tmp 3]
noncomputable def impl_DualBack.F (d : (List (List Int) × Int × List Int × List (Int × Int × Int × List Int)) × Unit) : Option (((List (List Int) × Int × List Int × List (Int × Int × Int × List Int)) × Int × Unit) × (Unit)) := anyK (runFn impl_DualBack.cfg impl_DualBack.fin impl_DualBack.code (initSt impl_DualBack.sig.ps d 10))
noncomputable def impl_DualBack.T (t_1 : List (List Int)) (t_2 : Int) (t_3 : List Int) (t_4 : List (Int × Int × Int × List Int)) : Option (((List (List Int) × Int × List Int × List (Int × Int × Int × List Int)) × Int × Unit) × (Unit)) :=
  (impl_ValidCosheaf.F ((t_1, (t_2, (t_3, t_4))), ())).bind fun r5 =>
    if (!(r5.1.1 : Bool)) = true then
      some ((([], (0, ([], []))), ((1 : Int), ())), ())
    else
      (impl_sheafBehind.F ((t_1, (t_2, (t_3, t_4))), ())).bind fun r6 =>
        some ((r6.1.1, ((0 : Int), ())), ())
theorem impl_DualBack.run (k : Nat) (t_1 : List (List Int)) (t_2 : Int) (t_3 : List Int) (t_4 : List (Int × Int × Int × List Int)) : runFn impl_DualBack.cfg impl_DualBack.fin impl_DualBack.code (initSt impl_DualBack.sig.ps ((t_1, (t_2, (t_3, t_4))), ()) 10) k = impl_DualBack.T t_1 t_2 t_3 t_4 := by kernel_rfl
theorem impl_DualBack.eq (t_1 : List (List Int)) (t_2 : Int) (t_3 : List Int) (t_4 : List (Int × Int × Int × List Int)) : impl_DualBack.F ((t_1, (t_2, (t_3, t_4))), ()) = impl_DualBack.T t_1 t_2 t_3 t_4 := (congrArg anyK (funext fun k => impl_DualBack.run k t_1 t_2 t_3 t_4)).trans (anyK_const _)
theorem impl_DualBack.ok : CtxOK Go.Proofs.Tryz.prog impl_DualBack.ctx := ⟨List.forall_mem_nil _, mixed_ok, tab_ok tab_good, List.forall_mem_cons.2 ⟨impl_ValidCosheaf.S, List.forall_mem_cons.2 ⟨impl_sheafBehind.S, List.forall_mem_nil _⟩⟩, List.forall_mem_nil _, List.forall_mem_nil _⟩
theorem impl_DualBack.S : Sound Go.Proofs.Tryz.prog ⟨18, impl_DualBack.sig, impl_DualBack.F⟩ := sound_any (fn := Go.Proofs.Tryz.f18) (code := impl_DualBack.code) (g := impl_DualBack.cfg) (res := [.cell 2 36, .tmp 3]) Go.Proofs.Tryz.func18 (by kernel_rfl) (by kernel_rfl) impl_DualBack.ok (by kernel_rfl) (by kernel_rfl) (Nat.le_of_ble_eq_true (by kernel_rfl)) (by kernel_rfl)
/-! ### laws_heldInt64S -/
noncomputable def laws_heldInt64S.sig : Sig := ⟨[.val false (.sl (.int .i64)), .val false (.int .i64)], [(.val false, (.int .i64), .deep)]⟩
noncomputable def laws_heldInt64S.ctx : Ctx := ⟨tabOf tabl, [], [], [], [], []⟩
noncomputable def laws_heldInt64S.cfg : Cfg := ⟨laws_heldInt64S.ctx, [], [], fun id => match id with | 2 => ([0, 1, 5], []) | _ => ([], []), fun _ => []⟩
noncomputable def laws_heldInt64S.code : Code := (Go.Proofs.Tryz.f39).body.getD .skip
noncomputable def laws_heldInt64S.fin := finK laws_heldInt64S.ctx laws_heldInt64S.sig [.tmp 4]
noncomputable def laws_heldInt64S.F (d : List Int × Int × Unit) : Option ((Int × Unit) × (Unit)) := anyK (runFn laws_heldInt64S.cfg laws_heldInt64S.fin laws_heldInt64S.code (initSt laws_heldInt64S.sig.ps d 21))
noncomputable def laws_heldInt64S.l2 (k : Nat) (x3 : List Int) (i4 : Int) (i5 : Int) : Option ((Int × Unit) × (Unit)) :=
  Go.Vm.runT laws_heldInt64S.cfg laws_heldInt64S.fin k [.inLoop (sub [1, 0, 1, 0, 0] laws_heldInt64S.code), .inBlock 0, .code (sub [1, 1] laws_heldInt64S.code)]
    ⟨[.val false [⟨(.sl (.int .i64)), .sh, x3⟩], .val false [⟨(.int .i64), .sh, i4⟩], .dead, .dead, .dead, .val false [⟨(.int .i64), .sh, i5⟩]] ++ deads 15, []⟩
theorem laws_heldInt64S.l2_eq (k : Nat) (x3 : List Int) (i4 : Int) (i5 : Int) : laws_heldInt64S.l2 (k + 1) x3 i4 i5 =
  if (decide (i5 < (x3.length : Int))) = true then
    if 0 ≤ i5 ∧ i5 < (x3.length : Int) then
      if ((x3.getD i5.toNat 0 : Int) != i4) = true then
        some (((-1 : Int), ()), ())
      else
        laws_heldInt64S.l2 k x3 (IntKind.i64.wrap (i4 + (1 : Int))) (IntKind.i64.wrap (i5 + (1 : Int)))
    else
      none
  else
    some ((i4, ()), ()) := by kernel_rfl
noncomputable def laws_heldInt64S.T (k : Nat) (a_1 : List Int) (k_2 : Int) : Option ((Int × Unit) × (Unit)) :=
  laws_heldInt64S.l2 k a_1 k_2 (0 : Int)
theorem laws_heldInt64S.run (k : Nat) (a_1 : List Int) (k_2 : Int) : runFn laws_heldInt64S.cfg laws_heldInt64S.fin laws_heldInt64S.code (initSt laws_heldInt64S.sig.ps (a_1, k_2, ()) 21) k = laws_heldInt64S.T k a_1 k_2 := by kernel_rfl
theorem laws_heldInt64S.of (a_1 : List Int) (k_2 : Int) {r : (Int × Unit) × (Unit)} (h : Ev (fun k => laws_heldInt64S.T k a_1 k_2) r) : laws_heldInt64S.F (a_1, k_2, ()) = some r := Ev.run (fun k => laws_heldInt64S.run k a_1 k_2) h
theorem laws_heldInt64S.ok : CtxOK Go.Proofs.Tryz.prog laws_heldInt64S.ctx := ⟨List.forall_mem_nil _, mixed_ok, tab_ok tab_good, List.forall_mem_nil _, List.forall_mem_nil _, List.forall_mem_nil _⟩
theorem laws_heldInt64S.S : Sound Go.Proofs.Tryz.prog ⟨39, laws_heldInt64S.sig, laws_heldInt64S.F⟩ := sound_any (fn := Go.Proofs.Tryz.f39) (code := laws_heldInt64S.code) (g := laws_heldInt64S.cfg) (res := [.tmp 4]) Go.Proofs.Tryz.func39 (by kernel_rfl) (by kernel_rfl) laws_heldInt64S.ok (by kernel_rfl) (by kernel_rfl) (Nat.le_of_ble_eq_true (by kernel_rfl)) (by kernel_rfl)
/-! ### laws_heldInt64SS -/
noncomputable def laws_heldInt64SS.sig : Sig := ⟨[.val false (.sl (.sl (.int .i64))), .val false (.int .i64)], [(.val false, (.int .i64), .deep)]⟩
noncomputable def laws_heldInt64SS.ctx : Ctx := ⟨tabOf tabl, [⟨39, laws_heldInt64S.sig, laws_heldInt64S.F⟩], [], [], [], []⟩
noncomputable def laws_heldInt64SS.cfg : Cfg := ⟨laws_heldInt64SS.ctx, [], [], fun id => match id with | 2 => ([0, 1, 5], []) | _ => ([], []), fun _ => []⟩
noncomputable def laws_heldInt64SS.code : Code := (Go.Proofs.Tryz.f72).body.getD .skip
noncomputable def laws_heldInt64SS.fin := finK laws_heldInt64SS.ctx laws_heldInt64SS.sig [.tmp 4]
noncomputable def laws_heldInt64SS.F (d : List (List Int) × Int × Unit) : Option ((Int × Unit) × (Unit)) := anyK (runFn laws_heldInt64SS.cfg laws_heldInt64SS.fin laws_heldInt64SS.code (initSt laws_heldInt64SS.sig.ps d 21))
noncomputable def laws_heldInt64SS.l2 (k : Nat) (x3 : List (List Int)) (i4 : Int) (i5 : Int) : Option ((Int × Unit) × (Unit)) :=
  Go.Vm.runT laws_heldInt64SS.cfg laws_heldInt64SS.fin k [.inLoop (sub [1, 0, 1, 0, 0] laws_heldInt64SS.code), .inBlock 0, .code (sub [1, 1] laws_heldInt64SS.code)]
    ⟨[.val false [⟨(.sl (.sl (.int .i64))), .sh, x3⟩], .val false [⟨(.int .i64), .sh, i4⟩], .dead, .dead, .dead, .val false [⟨(.int .i64), .sh, i5⟩]] ++ deads 15, []⟩
theorem laws_heldInt64SS.l2_eq (k : Nat) (x3 : List (List Int)) (i4 : Int) (i5 : Int) : laws_heldInt64SS.l2 (k + 1) x3 i4 i5 =
  if (decide (i5 < (x3.length : Int))) = true then
    if 0 ≤ i5 ∧ i5 < (x3.length : Int) then
      (laws_heldInt64S.F (x3.getD i5.toNat ([] : List Int), i4, ())).bind fun r6 =>
        if (decide ((r6.1.1 : Int) < (0 : Int))) = true then
          some (((-1 : Int), ()), ())
        else
          laws_heldInt64SS.l2 k x3 (r6.1.1 : Int) (IntKind.i64.wrap (i5 + (1 : Int)))
    else
      none
  else
    some ((i4, ()), ()) := by kernel_rfl
noncomputable def laws_heldInt64SS.T (k : Nat) (a_1 : List (List Int)) (k_2 : Int) : Option ((Int × Unit) × (Unit)) :=
  laws_heldInt64SS.l2 k a_1 k_2 (0 : Int)
theorem laws_heldInt64SS.run (k : Nat) (a_1 : List (List Int)) (k_2 : Int) : runFn laws_heldInt64SS.cfg laws_heldInt64SS.fin laws_heldInt64SS.code (initSt laws_heldInt64SS.sig.ps (a_1, k_2, ()) 21) k = laws_heldInt64SS.T k a_1 k_2 := by kernel_rfl
theorem laws_heldInt64SS.of (a_1 : List (List Int)) (k_2 : Int) {r : (Int × Unit) × (Unit)} (h : Ev (fun k => laws_heldInt64SS.T k a_1 k_2) r) : laws_heldInt64SS.F (a_1, k_2, ()) = some r := Ev.run (fun k => laws_heldInt64SS.run k a_1 k_2) h
theorem laws_heldInt64SS.ok : CtxOK Go.Proofs.Tryz.prog laws_heldInt64SS.ctx := ⟨List.forall_mem_nil _, mixed_ok, tab_ok tab_good, List.forall_mem_cons.2 ⟨laws_heldInt64S.S, List.forall_mem_nil _⟩, List.forall_mem_nil _, List.forall_mem_nil _⟩
theorem laws_heldInt64SS.S : Sound Go.Proofs.Tryz.prog ⟨72, laws_heldInt64SS.sig, laws_heldInt64SS.F⟩ := sound_any (fn := Go.Proofs.Tryz.f72) (code := laws_heldInt64SS.code) (g := laws_heldInt64SS.cfg) (res := [.tmp 4]) Go.Proofs.Tryz.func72 (by kernel_rfl) (by kernel_rfl) laws_heldInt64SS.ok (by kernel_rfl) (by kernel_rfl) (Nat.le_of_ble_eq_true (by kernel_rfl)) (by kernel_rfl)
/-! ### laws_heldComplex -/
noncomputable def laws_heldComplex.sig : Sig := ⟨[.val true (.sl (.sl (.int .i64))), .val false (.int .i64)], [(.val false, (.int .i64), .deep)]⟩
noncomputable def laws_heldComplex.ctx : Ctx := ⟨tabOf tabl, [⟨72, laws_heldInt64SS.sig, laws_heldInt64SS.F⟩], [], [], [], []⟩
noncomputable def laws_heldComplex.cfg : Cfg := ⟨laws_heldComplex.ctx, [], [], fun _ => ([], []), fun _ => []⟩
noncomputable def laws_heldComplex.code : Code := (Go.Proofs.Tryz.f38).body.getD .skip
noncomputable def laws_heldComplex.fin := finK laws_heldComplex.ctx laws_heldComplex.sig [.tmp 4]
noncomputable def laws_heldComplex.F (d : List (List Int) × Int × Unit) : Option ((Int × Unit) × (Unit)) := anyK (runFn laws_heldComplex.cfg laws_heldComplex.fin laws_heldComplex.code (initSt laws_heldComplex.sig.ps d 12))
noncomputable def laws_heldComplex.T (a_1 : List (List Int)) (k_2 : Int) : Option ((Int × Unit) × (Unit)) :=
  (laws_heldInt64SS.F (a_1, k_2, ())).bind fun r3 =>
    if (decide ((r3.1.1 : Int) < (0 : Int))) = true then
      some (((-1 : Int), ()), ())
    else
      some (((r3.1.1 : Int), ()), ())
theorem laws_heldComplex.run (k : Nat) (a_1 : List (List Int)) (k_2 : Int) : runFn laws_heldComplex.cfg laws_heldComplex.fin laws_heldComplex.code (initSt laws_heldComplex.sig.ps (a_1, k_2, ()) 12) k = laws_heldComplex.T a_1 k_2 := by kernel_rfl
theorem laws_heldComplex.eq (a_1 : List (List Int)) (k_2 : Int) : laws_heldComplex.F (a_1, k_2, ()) = laws_heldComplex.T a_1 k_2 := (congrArg anyK (funext fun k => laws_heldComplex.run k a_1 k_2)).trans (anyK_const _)
theorem laws_heldComplex.ok : CtxOK Go.Proofs.Tryz.prog laws_heldComplex.ctx := ⟨List.forall_mem_nil _, mixed_ok, tab_ok tab_good, List.forall_mem_cons.2 ⟨laws_heldInt64SS.S, List.forall_mem_nil _⟩, List.forall_mem_nil _, List.forall_mem_nil _⟩
theorem laws_heldComplex.S : Sound Go.Proofs.Tryz.prog ⟨38, laws_heldComplex.sig, laws_heldComplex.F⟩ := sound_any (fn := Go.Proofs.Tryz.f38) (code := laws_heldComplex.code) (g := laws_heldComplex.cfg) (res := [.tmp 4]) Go.Proofs.Tryz.func38 (by kernel_rfl) (by kernel_rfl) laws_heldComplex.ok (by kernel_rfl) (by kernel_rfl) (Nat.le_of_ble_eq_true (by kernel_rfl)) (by kernel_rfl)
/-! ### laws_heldMatrixS -/
noncomputable def laws_heldMatrixS.sig : Sig := ⟨[.val false (.sl TMatrix), .val false (.int .i64)], [(.val false, (.int .i64), .deep)]⟩
noncomputable def laws_heldMatrixS.ctx : Ctx := ⟨tabOf tabl, [⟨39, laws_heldInt64S.sig, laws_heldInt64S.F⟩], [], [], [], []⟩
noncomputable def laws_heldMatrixS.cfg : Cfg := ⟨laws_heldMatrixS.ctx, [], [], fun id => match id with | 2 => ([0, 1, 5], []) | _ => ([], []), fun _ => []⟩
noncomputable def laws_heldMatrixS.code : Code := (Go.Proofs.Tryz.f40).body.getD .skip
noncomputable def laws_heldMatrixS.fin := finK laws_heldMatrixS.ctx laws_heldMatrixS.sig [.tmp 4]
noncomputable def laws_heldMatrixS.F (d : List (Int × Int × Int × List Int) × Int × Unit) : Option ((Int × Unit) × (Unit)) := anyK (runFn laws_heldMatrixS.cfg laws_heldMatrixS.fin laws_heldMatrixS.code (initSt laws_heldMatrixS.sig.ps d 49))
noncomputable def laws_heldMatrixS.l2 (k : Nat) (x3 : List (Int × Int × Int × List Int)) (i4 : Int) (i5 : Int) : Option ((Int × Unit) × (Unit)) :=
  Go.Vm.runT laws_heldMatrixS.cfg laws_heldMatrixS.fin k [.inLoop (sub [1, 0, 1, 0, 0] laws_heldMatrixS.code), .inBlock 0, .code (sub [1, 1] laws_heldMatrixS.code)]
    ⟨[.val false [⟨(.sl TMatrix), .sh, x3⟩], .val false [⟨(.int .i64), .sh, i4⟩], .dead, .dead, .dead, .val false [⟨(.int .i64), .sh, i5⟩]] ++ deads 43, []⟩
theorem laws_heldMatrixS.l2_eq (k : Nat) (x3 : List (Int × Int × Int × List Int)) (i4 : Int) (i5 : Int) : laws_heldMatrixS.l2 (k + 1) x3 i4 i5 =
  if (decide (i5 < (x3.length : Int))) = true then
    if 0 ≤ i5 ∧ i5 < (x3.length : Int) then
      if (((x3.getD i5.toNat (0, 0, 0, ([] : List Int))).1) != i4) = true then
        some (((-1 : Int), ()), ())
      else
        if 0 ≤ i5 ∧ i5 < (x3.length : Int) then
          if ((((x3.getD i5.toNat (0, 0, 0, ([] : List Int))).2).1) != (IntKind.i64.wrap (i4 + (1 : Int)))) = true then
            some (((-1 : Int), ()), ())
          else
            if 0 ≤ i5 ∧ i5 < (x3.length : Int) then
              if (((((x3.getD i5.toNat (0, 0, 0, ([] : List Int))).2).2).1) != (IntKind.i64.wrap ((IntKind.i64.wrap (i4 + (1 : Int))) + (1 : Int)))) = true then
                some (((-1 : Int), ()), ())
              else
                if 0 ≤ i5 ∧ i5 < (x3.length : Int) then
                  (laws_heldInt64S.F ((((x3.getD i5.toNat (0, 0, 0, ([] : List Int))).2).2).2, IntKind.i64.wrap ((IntKind.i64.wrap ((IntKind.i64.wrap (i4 + (1 : Int))) + (1 : Int))) + (1 : Int)), ())).bind fun r6 =>
                    if (decide ((r6.1.1 : Int) < (0 : Int))) = true then
                      some (((-1 : Int), ()), ())
                    else
                      laws_heldMatrixS.l2 k x3 (r6.1.1 : Int) (IntKind.i64.wrap (i5 + (1 : Int)))
                else
                  none
            else
              none
        else
          none
    else
      none
  else
    some ((i4, ()), ()) := by kernel_rfl
noncomputable def laws_heldMatrixS.T (k : Nat) (a_1 : List (Int × Int × Int × List Int)) (k_2 : Int) : Option ((Int × Unit) × (Unit)) :=
  laws_heldMatrixS.l2 k a_1 k_2 (0 : Int)
theorem laws_heldMatrixS.run (k : Nat) (a_1 : List (Int × Int × Int × List Int)) (k_2 : Int) : runFn laws_heldMatrixS.cfg laws_heldMatrixS.fin laws_heldMatrixS.code (initSt laws_heldMatrixS.sig.ps (a_1, k_2, ()) 49) k = laws_heldMatrixS.T k a_1 k_2 := by kernel_rfl
theorem laws_heldMatrixS.of (a_1 : List (Int × Int × Int × List Int)) (k_2 : Int) {r : (Int × Unit) × (Unit)} (h : Ev (fun k => laws_heldMatrixS.T k a_1 k_2) r) : laws_heldMatrixS.F (a_1, k_2, ()) = some r := Ev.run (fun k => laws_heldMatrixS.run k a_1 k_2) h
theorem laws_heldMatrixS.ok : CtxOK Go.Proofs.Tryz.prog laws_heldMatrixS.ctx := ⟨List.forall_mem_nil _, mixed_ok, tab_ok tab_good, List.forall_mem_cons.2 ⟨laws_heldInt64S.S, List.forall_mem_nil _⟩, List.forall_mem_nil _, List.forall_mem_nil _⟩
theorem laws_heldMatrixS.S : Sound Go.Proofs.Tryz.prog ⟨40, laws_heldMatrixS.sig, laws_heldMatrixS.F⟩ := sound_any (fn := Go.Proofs.Tryz.f40) (code := laws_heldMatrixS.code) (g := laws_heldMatrixS.cfg) (res := [.tmp 4]) Go.Proofs.Tryz.func40 (by kernel_rfl) (by kernel_rfl) laws_heldMatrixS.ok (by kernel_rfl) (by kernel_rfl) (Nat.le_of_ble_eq_true (by kernel_rfl)) (by kernel_rfl)
/-! ### laws_heldSheaf -/
noncomputable def laws_heldSheaf.sig : Sig := ⟨[.val true TSheaf, .val false (.int .i64)], [(.val false, (.int .i64), .deep)]⟩
noncomputable def laws_heldSheaf.ctx : Ctx := ⟨tabOf tabl, [⟨38, laws_heldComplex.sig, laws_heldComplex.F⟩, ⟨39, laws_heldInt64S.sig, laws_heldInt64S.F⟩, ⟨40, laws_heldMatrixS.sig, laws_heldMatrixS.F⟩], [], [], [], []⟩
noncomputable def laws_heldSheaf.cfg : Cfg := ⟨laws_heldSheaf.ctx, [], [], fun _ => ([], []), fun _ => []⟩
noncomputable def laws_heldSheaf.code : Code := (Go.Proofs.Tryz.f19).body.getD .skip
noncomputable def laws_heldSheaf.fin := finK laws_heldSheaf.ctx laws_heldSheaf.sig [.tmp 4]
noncomputable def laws_heldSheaf.F (d : (List (List Int) × Int × List Int × List (Int × Int × Int × List Int)) × Int × Unit) : Option ((Int × Unit) × (Unit)) := anyK (runFn laws_heldSheaf.cfg laws_heldSheaf.fin laws_heldSheaf.code (initSt laws_heldSheaf.sig.ps d 24))
noncomputable def laws_heldSheaf.T (a_1 : List (List Int)) (a_2 : Int) (a_3 : List Int) (a_4 : List (Int × Int × Int × List Int)) (k_5 : Int) : Option ((Int × Unit) × (Unit)) :=
  (laws_heldComplex.F (a_1, k_5, ())).bind fun r6 =>
    if (decide ((r6.1.1 : Int) < (0 : Int))) = true then
      some (((-1 : Int), ()), ())
    else
      (laws_heldInt64S.F (a_3, (r6.1.1 : Int), ())).bind fun r7 =>
        if (decide ((r7.1.1 : Int) < (0 : Int))) = true then
          some (((-1 : Int), ()), ())
        else
          (laws_heldMatrixS.F (a_4, (r7.1.1 : Int), ())).bind fun r8 =>
            if (decide ((r8.1.1 : Int) < (0 : Int))) = true then
              some (((-1 : Int), ()), ())
            else
              some (((r8.1.1 : Int), ()), ())
theorem laws_heldSheaf.run (k : Nat) (a_1 : List (List Int)) (a_2 : Int) (a_3 : List Int) (a_4 : List (Int × Int × Int × List Int)) (k_5 : Int) : runFn laws_heldSheaf.cfg laws_heldSheaf.fin laws_heldSheaf.code (initSt laws_heldSheaf.sig.ps ((a_1, (a_2, (a_3, a_4))), k_5, ()) 24) k = laws_heldSheaf.T a_1 a_2 a_3 a_4 k_5 := by kernel_rfl
theorem laws_heldSheaf.eq (a_1 : List (List Int)) (a_2 : Int) (a_3 : List Int) (a_4 : List (Int × Int × Int × List Int)) (k_5 : Int) : laws_heldSheaf.F ((a_1, (a_2, (a_3, a_4))), k_5, ()) = laws_heldSheaf.T a_1 a_2 a_3 a_4 k_5 := (congrArg anyK (funext fun k => laws_heldSheaf.run k a_1 a_2 a_3 a_4 k_5)).trans (anyK_const _)
theorem laws_heldSheaf.ok : CtxOK Go.Proofs.Tryz.prog laws_heldSheaf.ctx := ⟨List.forall_mem_nil _, mixed_ok, tab_ok tab_good, List.forall_mem_cons.2 ⟨laws_heldComplex.S, List.forall_mem_cons.2 ⟨laws_heldInt64S.S, List.forall_mem_cons.2 ⟨laws_heldMatrixS.S, List.forall_mem_nil _⟩⟩⟩, List.forall_mem_nil _, List.forall_mem_nil _⟩
theorem laws_heldSheaf.S : Sound Go.Proofs.Tryz.prog ⟨19, laws_heldSheaf.sig, laws_heldSheaf.F⟩ := sound_any (fn := Go.Proofs.Tryz.f19) (code := laws_heldSheaf.code) (g := laws_heldSheaf.cfg) (res := [.tmp 4]) Go.Proofs.Tryz.func19 (by kernel_rfl) (by kernel_rfl) laws_heldSheaf.ok (by kernel_rfl) (by kernel_rfl) (Nat.le_of_ble_eq_true (by kernel_rfl)) (by kernel_rfl)
/-! ### laws_FnExactDualBack -/
noncomputable def laws_FnExactDualBack.sig : Sig := ⟨[.val true TSheaf], [(.val false, .bool, .deep)]⟩
noncomputable def laws_FnExactDualBack.ctx : Ctx := ⟨tabOf tabl, [⟨10, laws_eqCosheaf.sig, laws_eqCosheaf.F⟩, ⟨11, laws_eqSheaf.sig, laws_eqSheaf.F⟩, ⟨12, laws_markSheaf.sig, laws_markSheaf.F⟩, ⟨13, laws_markCosheaf.sig, laws_markCosheaf.F⟩, ⟨15, laws_szCosheaf.sig, laws_szCosheaf.F⟩, ⟨16, spec_DualBack.sig, spec_DualBack.F⟩, ⟨17, laws_toCosheaf.sig, laws_toCosheaf.F⟩, ⟨18, impl_DualBack.sig, impl_DualBack.F⟩, ⟨19, laws_heldSheaf.sig, laws_heldSheaf.F⟩], [], [], [], []⟩
noncomputable def laws_FnExactDualBack.cfg : Cfg := ⟨laws_FnExactDualBack.ctx, [], [], fun _ => ([], []), fun _ => []⟩
noncomputable def laws_FnExactDualBack.code : Code := (Go.Proofs.Tryz.f4).body.getD .skip
noncomputable def laws_FnExactDualBack.fin := finK laws_FnExactDualBack.ctx laws_FnExactDualBack.sig [.tmp 2]
noncomputable def laws_FnExactDualBack.F (d : (List (List Int) × Int × List Int × List (Int × Int × Int × List Int)) × Unit) : Option ((Bool × Unit) × (Unit)) := anyK (runFn laws_FnExactDualBack.cfg laws_FnExactDualBack.fin laws_FnExactDualBack.code (initSt laws_FnExactDualBack.sig.ps d 96))
noncomputable def laws_FnExactDualBack.T (toArray_1 : List (List Int)) (toArray_2 : Int) (toArray_3 : List Int) (toArray_4 : List (Int × Int × Int × List Int)) : Option ((Bool × Unit) × (Unit)) :=
  (laws_szCosheaf.F ((toArray_1, (toArray_2, (toArray_3, toArray_4))), (1048576 : Int), ())).bind fun r5 =>
    if (decide ((r5.1.1 : Int) < (0 : Int))) = true then
      some ((true, ()), ())
    else
      (laws_toCosheaf.F ((toArray_1, (toArray_2, (toArray_3, toArray_4))), ())).bind fun r6 =>
        (spec_DualBack.F (r6.1.1, ())).bind fun r7 =>
          (laws_toCosheaf.F ((toArray_1, (toArray_2, (toArray_3, toArray_4))), ())).bind fun r8 =>
            (impl_DualBack.F (r8.1.1, ())).bind fun r9 =>
              (laws_eqSheaf.F (r9.1.1, r7.1.1, ())).bind fun r10 =>
                if (!(r10.1.1 : Bool)) = true then
                  some ((false, ()), ())
                else
                  if ((r9.1.2.1 : Int) != (r7.1.2.1 : Int)) = true then
                    some ((false, ()), ())
                  else
                    (laws_toCosheaf.F ((toArray_1, (toArray_2, (toArray_3, toArray_4))), ())).bind fun r11 =>
                      (laws_eqCosheaf.F (r8.1.1, r11.1.1, ())).bind fun r12 =>
                        if (!(r12.1.1 : Bool)) = true then
                          some ((false, ()), ())
                        else
                          (laws_markCosheaf.F (r8.1.1, (1 : Int), ())).bind fun r13 =>
                            if (decide ((r13.1.1 : Int) < (0 : Int))) = true then
                              some ((false, ()), ())
                            else
                              (laws_eqSheaf.F (r9.1.1, r7.1.1, ())).bind fun r14 =>
                                if (!(r14.1.1 : Bool)) = true then
                                  some ((false, ()), ())
                                else
                                  if ((r9.1.2.1 : Int) != (r7.1.2.1 : Int)) = true then
                                    some ((false, ()), ())
                                  else
                                    (laws_markSheaf.F (r9.1.1, (1 : Int), ())).bind fun r15 =>
                                      (laws_heldSheaf.F (r15.2.1, (1 : Int), ())).bind fun r16 =>
                                        if (decide ((r16.1.1 : Int) < (0 : Int))) = true then
                                          some ((false, ()), ())
                                        else
                                          if ((r16.1.1 : Int) != (r15.1.1 : Int)) = true then
                                            some ((false, ()), ())
                                          else
                                            (laws_toCosheaf.F ((toArray_1, (toArray_2, (toArray_3, toArray_4))), ())).bind fun r17 =>
                                              (impl_DualBack.F (r17.1.1, ())).bind fun r18 =>
                                                (laws_eqSheaf.F (r18.1.1, r7.1.1, ())).bind fun r19 =>
                                                  if (!(r19.1.1 : Bool)) = true then
                                                    some ((false, ()), ())
                                                  else
                                                    if ((r18.1.2.1 : Int) != (r7.1.2.1 : Int)) = true then
                                                      some ((false, ()), ())
                                                    else
                                                      (laws_heldSheaf.F (r15.2.1, (1 : Int), ())).bind fun r20 =>
                                                        if (decide ((r20.1.1 : Int) < (0 : Int))) = true then
                                                          some ((false, ()), ())
                                                        else
                                                          if ((r20.1.1 : Int) != (r15.1.1 : Int)) = true then
                                                            some ((false, ()), ())
                                                          else
                                                            some ((true, ()), ())
theorem laws_FnExactDualBack.run (k : Nat) (toArray_1 : List (List Int)) (toArray_2 : Int) (toArray_3 : List Int) (toArray_4 : List (Int × Int × Int × List Int)) : runFn laws_FnExactDualBack.cfg laws_FnExactDualBack.fin laws_FnExactDualBack.code (initSt laws_FnExactDualBack.sig.ps ((toArray_1, (toArray_2, (toArray_3, toArray_4))), ()) 96) k = laws_FnExactDualBack.T toArray_1 toArray_2 toArray_3 toArray_4 := by kernel_rfl
theorem laws_FnExactDualBack.eq (toArray_1 : List (List Int)) (toArray_2 : Int) (toArray_3 : List Int) (toArray_4 : List (Int × Int × Int × List Int)) : laws_FnExactDualBack.F ((toArray_1, (toArray_2, (toArray_3, toArray_4))), ()) = laws_FnExactDualBack.T toArray_1 toArray_2 toArray_3 toArray_4 := (congrArg anyK (funext fun k => laws_FnExactDualBack.run k toArray_1 toArray_2 toArray_3 toArray_4)).trans (anyK_const _)
theorem laws_FnExactDualBack.ok : CtxOK Go.Proofs.Tryz.prog laws_FnExactDualBack.ctx := ⟨List.forall_mem_nil _, mixed_ok, tab_ok tab_good, List.forall_mem_cons.2 ⟨laws_eqCosheaf.S, List.forall_mem_cons.2 ⟨laws_eqSheaf.S, List.forall_mem_cons.2 ⟨laws_markSheaf.S, List.forall_mem_cons.2 ⟨laws_markCosheaf.S, List.forall_mem_cons.2 ⟨laws_szCosheaf.S, List.forall_mem_cons.2 ⟨spec_DualBack.S, List.forall_mem_cons.2 ⟨laws_toCosheaf.S, List.forall_mem_cons.2 ⟨impl_DualBack.S, List.forall_mem_cons.2 ⟨laws_heldSheaf.S, List.forall_mem_nil _⟩⟩⟩⟩⟩⟩⟩⟩⟩, List.forall_mem_nil _, List.forall_mem_nil _⟩
theorem laws_FnExactDualBack.S : Sound Go.Proofs.Tryz.prog ⟨4, laws_FnExactDualBack.sig, laws_FnExactDualBack.F⟩ := sound_any (fn := Go.Proofs.Tryz.f4) (code := laws_FnExactDualBack.code) (g := laws_FnExactDualBack.cfg) (res := [.tmp 2]) Go.Proofs.Tryz.func4 (by kernel_rfl) (by kernel_rfl) laws_FnExactDualBack.ok (by kernel_rfl) (by kernel_rfl) (Nat.le_of_ble_eq_true (by kernel_rfl)) (by kernel_rfl)
end Go.Proofs.YtpibalgbkhpcbaaGreat
