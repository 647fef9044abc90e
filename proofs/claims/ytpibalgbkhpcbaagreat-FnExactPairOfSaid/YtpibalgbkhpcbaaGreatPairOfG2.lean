/- The functions, as the machine runs them. -/
import Derived.Test.YtpibalgbkhpcbaaGreatPairOfG1
import Derived.Test.YtpibalgbkhpcbaaGreatProg
import Derived.KernelRfl
import Derived.WalkKit
import Derived.Lib.Walk
import Derived.Lib.AppendZeros
namespace Go.Proofs.YtpibalgbkhpcbaaGreat
open Go Go.Vm
set_option linter.unusedVariables false
set_option linter.unusedSimpArgs false
/-! ### impl_isSide -/
noncomputable def impl_isSide.sig : Sig := ⟨[.val false (.int .i64)], [(.val false, .bool, .deep)]⟩
noncomputable def impl_isSide.ctx : Ctx := ⟨tabOf tabl, [⟨100, impl_within.sig, impl_within.F⟩], [], [], [], []⟩
noncomputable def impl_isSide.cfg : Cfg := ⟨impl_isSide.ctx, [], [], fun _ => ([], []), fun _ => []⟩
noncomputable def impl_isSide.code : Code := (Go.Proofs.Tryz.f106).body.getD .skip
noncomputable def impl_isSide.fin := finK impl_isSide.ctx impl_isSide.sig [.tmp 2]
noncomputable def impl_isSide.F (d : Int × Unit) : Option ((Bool × Unit) × (Unit)) := anyK (runFn impl_isSide.cfg impl_isSide.fin impl_isSide.code (initSt impl_isSide.sig.ps d 5))
noncomputable def impl_isSide.T (n_1 : Int) : Option ((Bool × Unit) × (Unit)) :=
  (impl_within.F (n_1, (0 : Int), (32 : Int), ())).bind fun r2 =>
    some (((r2.1.1 : Bool), ()), ())
theorem impl_isSide.run (k : Nat) (n_1 : Int) : runFn impl_isSide.cfg impl_isSide.fin impl_isSide.code (initSt impl_isSide.sig.ps (n_1, ()) 5) k = impl_isSide.T n_1 := by kernel_rfl
theorem impl_isSide.eq (n_1 : Int) : impl_isSide.F (n_1, ()) = impl_isSide.T n_1 := (congrArg anyK (funext fun k => impl_isSide.run k n_1)).trans (anyK_const _)
theorem impl_isSide.ok : CtxOK Go.Proofs.Tryz.prog impl_isSide.ctx := ⟨List.forall_mem_nil _, mixed_ok, tab_ok tab_good, List.forall_mem_cons.2 ⟨impl_within.S, List.forall_mem_nil _⟩, List.forall_mem_nil _, List.forall_mem_nil _⟩
theorem impl_isSide.S : Sound Go.Proofs.Tryz.prog ⟨106, impl_isSide.sig, impl_isSide.F⟩ := sound_any (fn := Go.Proofs.Tryz.f106) (code := impl_isSide.code) (g := impl_isSide.cfg) (res := [.tmp 2]) Go.Proofs.Tryz.func106 (by kernel_rfl) (by kernel_rfl) impl_isSide.ok (by kernel_rfl) (by kernel_rfl) (Nat.le_of_ble_eq_true (by kernel_rfl)) (by kernel_rfl)
/-! ### impl_ValidMatrix -/
noncomputable def impl_ValidMatrix.sig : Sig := ⟨[.val true TMatrix], [(.val false, .bool, .deep)]⟩
noncomputable def impl_ValidMatrix.ctx : Ctx := ⟨tabOf tabl, [⟨65, impl_ValidPrime.sig, impl_ValidPrime.F⟩, ⟨84, impl_size_int64.sig, impl_size_int64.F⟩, ⟨85, impl_areElements.sig, impl_areElements.F⟩, ⟨106, impl_isSide.sig, impl_isSide.F⟩], [], [], [], []⟩
noncomputable def impl_ValidMatrix.cfg : Cfg := ⟨impl_ValidMatrix.ctx, [], [], fun _ => ([], []), fun _ => []⟩
noncomputable def impl_ValidMatrix.code : Code := (Go.Proofs.Tryz.f76).body.getD .skip
noncomputable def impl_ValidMatrix.fin := finK impl_ValidMatrix.ctx impl_ValidMatrix.sig [.tmp 2]
noncomputable def impl_ValidMatrix.F (d : (Int × Int × Int × List Int) × Unit) : Option ((Bool × Unit) × (Unit)) := anyK (runFn impl_ValidMatrix.cfg impl_ValidMatrix.fin impl_ValidMatrix.code (initSt impl_ValidMatrix.sig.ps d 34))
noncomputable def impl_ValidMatrix.T (m_1 : Int) (m_2 : Int) (m_3 : Int) (m_4 : List Int) : Option ((Bool × Unit) × (Unit)) :=
  (impl_ValidPrime.F (m_1, ())).bind fun r5 =>
    if (r5.1.1 : Bool) = true then
      (impl_isSide.F (m_2, ())).bind fun r6 =>
        if (r6.1.1 : Bool) = true then
          (impl_isSide.F (m_3, ())).bind fun r7 =>
            if (r7.1.1 : Bool) = true then
              (impl_size_int64.F (m_4, ())).bind fun r8 =>
                if ((r8.1.1 : Int) == (IntKind.i64.wrap (m_2 * m_3))) = true then
                  (impl_areElements.F (m_4, m_1, ())).bind fun r9 =>
                    some (((r9.1.1 : Bool), ()), ())
                else
                  some ((false, ()), ())
            else
              some ((false, ()), ())
        else
          some ((false, ()), ())
    else
      some ((false, ()), ())
theorem impl_ValidMatrix.run (k : Nat) (m_1 : Int) (m_2 : Int) (m_3 : Int) (m_4 : List Int) : runFn impl_ValidMatrix.cfg impl_ValidMatrix.fin impl_ValidMatrix.code (initSt impl_ValidMatrix.sig.ps ((m_1, (m_2, (m_3, m_4))), ()) 34) k = impl_ValidMatrix.T m_1 m_2 m_3 m_4 := by kernel_rfl
theorem impl_ValidMatrix.eq (m_1 : Int) (m_2 : Int) (m_3 : Int) (m_4 : List Int) : impl_ValidMatrix.F ((m_1, (m_2, (m_3, m_4))), ()) = impl_ValidMatrix.T m_1 m_2 m_3 m_4 := (congrArg anyK (funext fun k => impl_ValidMatrix.run k m_1 m_2 m_3 m_4)).trans (anyK_const _)
theorem impl_ValidMatrix.ok : CtxOK Go.Proofs.Tryz.prog impl_ValidMatrix.ctx := ⟨List.forall_mem_nil _, mixed_ok, tab_ok tab_good, List.forall_mem_cons.2 ⟨impl_ValidPrime.S, List.forall_mem_cons.2 ⟨impl_size_int64.S, List.forall_mem_cons.2 ⟨impl_areElements.S, List.forall_mem_cons.2 ⟨impl_isSide.S, List.forall_mem_nil _⟩⟩⟩⟩, List.forall_mem_nil _, List.forall_mem_nil _⟩
theorem impl_ValidMatrix.S : Sound Go.Proofs.Tryz.prog ⟨76, impl_ValidMatrix.sig, impl_ValidMatrix.F⟩ := sound_any (fn := Go.Proofs.Tryz.f76) (code := impl_ValidMatrix.code) (g := impl_ValidMatrix.cfg) (res := [.tmp 2]) Go.Proofs.Tryz.func76 (by kernel_rfl) (by kernel_rfl) impl_ValidMatrix.ok (by kernel_rfl) (by kernel_rfl) (Nat.le_of_ble_eq_true (by kernel_rfl)) (by kernel_rfl)
/-! ### impl_isBetween -/
noncomputable def impl_isBetween.sig : Sig := ⟨[.val true TMatrix, .val false (.int .i64), .val false (.int .i64), .val false (.int .i64)], [(.val false, .bool, .deep)]⟩
noncomputable def impl_isBetween.ctx : Ctx := ⟨tabOf tabl, [⟨76, impl_ValidMatrix.sig, impl_ValidMatrix.F⟩], [], [], [], []⟩
noncomputable def impl_isBetween.cfg : Cfg := ⟨impl_isBetween.ctx, [], [], fun _ => ([], []), fun _ => []⟩
noncomputable def impl_isBetween.code : Code := (Go.Proofs.Tryz.f68).body.getD .skip
noncomputable def impl_isBetween.fin := finK impl_isBetween.ctx impl_isBetween.sig [.tmp 8]
noncomputable def impl_isBetween.F (d : (Int × Int × Int × List Int) × Int × Int × Int × Unit) : Option ((Bool × Unit) × (Unit)) := anyK (runFn impl_isBetween.cfg impl_isBetween.fin impl_isBetween.code (initSt impl_isBetween.sig.ps d 29))
noncomputable def impl_isBetween.T (m_1 : Int) (m_2 : Int) (m_3 : Int) (m_4 : List Int) (p_5 : Int) (from_6 : Int) (to_7 : Int) : Option ((Bool × Unit) × (Unit)) :=
  (impl_ValidMatrix.F ((m_1, (m_2, (m_3, m_4))), ())).bind fun r8 =>
    if (r8.1.1 : Bool) = true then
      if (m_1 == p_5) = true then
        if (m_2 == to_7) = true then
          some ((m_3 == from_6, ()), ())
        else
          some ((false, ()), ())
      else
        some ((false, ()), ())
    else
      some ((false, ()), ())
theorem impl_isBetween.run (k : Nat) (m_1 : Int) (m_2 : Int) (m_3 : Int) (m_4 : List Int) (p_5 : Int) (from_6 : Int) (to_7 : Int) : runFn impl_isBetween.cfg impl_isBetween.fin impl_isBetween.code (initSt impl_isBetween.sig.ps ((m_1, (m_2, (m_3, m_4))), p_5, from_6, to_7, ()) 29) k = impl_isBetween.T m_1 m_2 m_3 m_4 p_5 from_6 to_7 := by kernel_rfl
theorem impl_isBetween.eq (m_1 : Int) (m_2 : Int) (m_3 : Int) (m_4 : List Int) (p_5 : Int) (from_6 : Int) (to_7 : Int) : impl_isBetween.F ((m_1, (m_2, (m_3, m_4))), p_5, from_6, to_7, ()) = impl_isBetween.T m_1 m_2 m_3 m_4 p_5 from_6 to_7 := (congrArg anyK (funext fun k => impl_isBetween.run k m_1 m_2 m_3 m_4 p_5 from_6 to_7)).trans (anyK_const _)
theorem impl_isBetween.ok : CtxOK Go.Proofs.Tryz.prog impl_isBetween.ctx := ⟨List.forall_mem_nil _, mixed_ok, tab_ok tab_good, List.forall_mem_cons.2 ⟨impl_ValidMatrix.S, List.forall_mem_nil _⟩, List.forall_mem_nil _, List.forall_mem_nil _⟩
theorem impl_isBetween.S : Sound Go.Proofs.Tryz.prog ⟨68, impl_isBetween.sig, impl_isBetween.F⟩ := sound_any (fn := Go.Proofs.Tryz.f68) (code := impl_isBetween.code) (g := impl_isBetween.cfg) (res := [.tmp 8]) Go.Proofs.Tryz.func68 (by kernel_rfl) (by kernel_rfl) impl_isBetween.ok (by kernel_rfl) (by kernel_rfl) (Nat.le_of_ble_eq_true (by kernel_rfl)) (by kernel_rfl)
/-! ### impl_ValidSheaf -/
noncomputable def impl_ValidSheaf.sig : Sig := ⟨[.val true TSheaf], [(.val false, .bool, .deep)]⟩
noncomputable def impl_ValidSheaf.ctx : Ctx := ⟨tabOf tabl, [⟨64, impl_ValidComplex.sig, impl_ValidComplex.F⟩, ⟨65, impl_ValidPrime.sig, impl_ValidPrime.F⟩, ⟨66, impl_areStalks.sig, impl_areStalks.F⟩, ⟨67, impl_arrows.sig, impl_arrows.F⟩, ⟨68, impl_isBetween.sig, impl_isBetween.F⟩], [], [], [], []⟩
noncomputable def impl_ValidSheaf.cfg : Cfg := ⟨impl_ValidSheaf.ctx, [], [], fun id => match id with | 5 => ([1, 3, 27, 28, 29], [4, 12]) | _ => ([], []), fun _ => []⟩
noncomputable def impl_ValidSheaf.code : Code := (Go.Proofs.Tryz.f31).body.getD .skip
noncomputable def impl_ValidSheaf.fin := finK impl_ValidSheaf.ctx impl_ValidSheaf.sig [.tmp 2]
noncomputable def impl_ValidSheaf.F (d : (List (List Int) × Int × List Int × List (Int × Int × Int × List Int)) × Unit) : Option ((Bool × Unit) × (Unit)) := anyK (runFn impl_ValidSheaf.cfg impl_ValidSheaf.fin impl_ValidSheaf.code (initSt impl_ValidSheaf.sig.ps d 69))
noncomputable def impl_ValidSheaf.l5 (k : Nat) (i9 : Int) (i10 : Int) (x11 : List (List Int)) (i12 : Int) (x13 : List Int) (x14 : List (Int × Int × Int × List Int)) (x15 : List (Int × Int × Int)) : Option ((Bool × Unit) × (Unit)) :=
  Go.Vm.runT impl_ValidSheaf.cfg impl_ValidSheaf.fin k [.inLoop (sub [1, 1, 1, 0, 1, 0, 0] impl_ValidSheaf.code), .inBlock 0, .code (sub [1, 1, 1, 1] impl_ValidSheaf.code)]
    ⟨[.dead, .ref 4 (.root 0), .dead, .view 12 (.root 0) 1 false, .dead, .dead, .dead, .dead, .dead, .dead, .dead, .dead, .dead, .dead, .dead, .dead, .dead, .dead, .dead, .dead, .dead, .dead, .dead, .dead, .dead, .dead, .dead, .view 12 (.root 0) 1 false, .val false [⟨(.int .i64), .sh, i9⟩], .val false [⟨(.int .i64), .sh, i10⟩]] ++ deads 39, [(4, ⟨true, [⟨(.sl (.sl (.int .i64))), .sh, x11⟩, ⟨(.int .i64), .sh, i12⟩, ⟨(.sl (.int .i64)), .sh, x13⟩, ⟨(.sl TMatrix), .sh, x14⟩]⟩), (12, ⟨false, [⟨(.sl TEdge), .deep, x15⟩]⟩)]⟩
theorem impl_ValidSheaf.l5_eq (k : Nat) (i9 : Int) (i10 : Int) (x11 : List (List Int)) (i12 : Int) (x13 : List Int) (x14 : List (Int × Int × Int × List Int)) (x15 : List (Int × Int × Int)) : impl_ValidSheaf.l5 (k + 1) i9 i10 x11 i12 x13 x14 x15 =
  if (decide (i10 < i9)) = true then
    if 0 ≤ i10 ∧ i10 < (x15.length : Int) then
      if (decide (i10 ≥ (x14.length : Int))) = true then
        some ((false, ()), ())
      else
        if 0 ≤ i10 ∧ i10 < (x14.length : Int) then
          if 0 ≤ (((x15.getD i10.toNat (0, 0, 0)).2).2 : Int) ∧ (((x15.getD i10.toNat (0, 0, 0)).2).2 : Int) < (x13.length : Int) then
            if 0 ≤ ((x15.getD i10.toNat (0, 0, 0)).1 : Int) ∧ ((x15.getD i10.toNat (0, 0, 0)).1 : Int) < (x13.length : Int) then
              (impl_isBetween.F (x14.getD i10.toNat (0, 0, 0, ([] : List Int)), i12, x13.getD (((x15.getD i10.toNat (0, 0, 0)).2).2 : Int).toNat 0, x13.getD ((x15.getD i10.toNat (0, 0, 0)).1 : Int).toNat 0, ())).bind fun r16 =>
                if (!(r16.1.1 : Bool)) = true then
                  some ((false, ()), ())
                else
                  impl_ValidSheaf.l5 k i9 (IntKind.i64.wrap (i10 + (1 : Int))) x11 i12 x13 x14 x15
            else
              none
          else
            none
        else
          none
    else
      none
  else
    some (((x15.length : Int) == (x14.length : Int), ()), ()) := by kernel_rfl
noncomputable def impl_ValidSheaf.T (k : Nat) (toArray_1 : List (List Int)) (toArray_2 : Int) (toArray_3 : List Int) (toArray_4 : List (Int × Int × Int × List Int)) : Option ((Bool × Unit) × (Unit)) :=
  (impl_ValidComplex.F (toArray_1, ())).bind fun r5 =>
    if (!(r5.1.1 : Bool)) = true then
      some ((false, ()), ())
    else
      (impl_ValidPrime.F (toArray_2, ())).bind fun r6 =>
        if (!(r6.1.1 : Bool)) = true then
          some ((false, ()), ())
        else
          (impl_areStalks.F (toArray_1, toArray_3, ())).bind fun r7 =>
            if (!(r7.1.1 : Bool)) = true then
              some ((false, ()), ())
            else
              (impl_arrows.F (toArray_1, ())).bind fun r8 =>
                impl_ValidSheaf.l5 k (r8.1.1.length : Int) (0 : Int) toArray_1 toArray_2 toArray_3 toArray_4 r8.1.1
theorem impl_ValidSheaf.run (k : Nat) (toArray_1 : List (List Int)) (toArray_2 : Int) (toArray_3 : List Int) (toArray_4 : List (Int × Int × Int × List Int)) : runFn impl_ValidSheaf.cfg impl_ValidSheaf.fin impl_ValidSheaf.code (initSt impl_ValidSheaf.sig.ps ((toArray_1, (toArray_2, (toArray_3, toArray_4))), ()) 69) k = impl_ValidSheaf.T k toArray_1 toArray_2 toArray_3 toArray_4 := by kernel_rfl
theorem impl_ValidSheaf.of (toArray_1 : List (List Int)) (toArray_2 : Int) (toArray_3 : List Int) (toArray_4 : List (Int × Int × Int × List Int)) {r : (Bool × Unit) × (Unit)} (h : Ev (fun k => impl_ValidSheaf.T k toArray_1 toArray_2 toArray_3 toArray_4) r) : impl_ValidSheaf.F ((toArray_1, (toArray_2, (toArray_3, toArray_4))), ()) = some r := Ev.run (fun k => impl_ValidSheaf.run k toArray_1 toArray_2 toArray_3 toArray_4) h
theorem impl_ValidSheaf.ok : CtxOK Go.Proofs.Tryz.prog impl_ValidSheaf.ctx := ⟨List.forall_mem_nil _, mixed_ok, tab_ok tab_good, List.forall_mem_cons.2 ⟨impl_ValidComplex.S, List.forall_mem_cons.2 ⟨impl_ValidPrime.S, List.forall_mem_cons.2 ⟨impl_areStalks.S, List.forall_mem_cons.2 ⟨impl_arrows.S, List.forall_mem_cons.2 ⟨impl_isBetween.S, List.forall_mem_nil _⟩⟩⟩⟩⟩, List.forall_mem_nil _, List.forall_mem_nil _⟩
theorem impl_ValidSheaf.S : Sound Go.Proofs.Tryz.prog ⟨31, impl_ValidSheaf.sig, impl_ValidSheaf.F⟩ := sound_any (fn := Go.Proofs.Tryz.f31) (code := impl_ValidSheaf.code) (g := impl_ValidSheaf.cfg) (res := [.tmp 2]) Go.Proofs.Tryz.func31 (by kernel_rfl) (by kernel_rfl) impl_ValidSheaf.ok (by kernel_rfl) (by kernel_rfl) (Nat.le_of_ble_eq_true (by kernel_rfl)) (by kernel_rfl)
/-! ### impl_filled -/
noncomputable def impl_filled.sig : Sig := ⟨[.val false (.int .i64), .val false (.int .i64), .val false (.int .i64), .fnx ⟨[(false, (.int .i64)), (false, (.int .i64))], [(.val false, (.int .i64), .deep)]⟩], [(.val true, TMatrix, .deep)]⟩
noncomputable def impl_filled.ctx : Ctx := ⟨tabOf tabl, [], [], [], [], []⟩
noncomputable def impl_filled.cfg : Cfg := ⟨impl_filled.ctx, [], [], fun id => match id with | 3 => ([2, 3, 8, 9, 16, 17], [32, 36]) | 6 => ([2, 3, 8, 9, 10, 16, 17, 20, 21], [32, 36]) | _ => ([], []), fun _ => []⟩
noncomputable def impl_filled.code : Code := (Go.Proofs.Tryz.f127).body.getD .skip
noncomputable def impl_filled.fin := finK impl_filled.ctx impl_filled.sig [.cell 8 89]
noncomputable def impl_filled.F (d : Int × Int × Int × ((Int × Int × Unit) → Option (Int × Unit)) × Unit) : Option (((Int × Int × Int × List Int) × Unit) × (Unit)) := anyK (runFn impl_filled.cfg impl_filled.fin impl_filled.code (initSt impl_filled.sig.ps d 36))
noncomputable def impl_filled.l3 (k : Nat) (i5 : Int) (f6 : (Int × Int × Unit) → Option (Int × Unit)) (i7 : Int) (i8 : Int) (i9 : Int) (i10 : Int) (i11 : Int) (x12 : List Int) (i13 : Int) (i14 : Int) (i15 : Int) (x16 : List Int) : Option (((Int × Int × Int × List Int) × Unit) × (Unit)) :=
  Go.Vm.runT impl_filled.cfg impl_filled.fin k [.inLoop (sub [1, 1, 0, 1, 0, 0] impl_filled.code), .inBlock 0, .code (sub [1, 1, 1] impl_filled.code)]
    ⟨[.dead, .dead, .val false [⟨(.int .i64), .sh, i5⟩], .fnx ⟨[(false, (.int .i64)), (false, (.int .i64))], [(.val false, (.int .i64), .deep)]⟩ f6, .dead, .dead, .dead, .dead, .ref 32 (.root 0), .ref 36 (.root 0), .dead, .dead, .dead, .dead, .dead, .dead, .val false [⟨(.int .i64), .sh, i7⟩], .val false [⟨(.int .i64), .sh, i8⟩]] ++ deads 18, [(32, ⟨true, [⟨(.int .i64), .sh, i9⟩, ⟨(.int .i64), .sh, i10⟩, ⟨(.int .i64), .sh, i11⟩, ⟨(.sl (.int .i64)), .deep, x12⟩]⟩), (36, ⟨true, [⟨(.int .i64), .sh, i13⟩, ⟨(.int .i64), .sh, i14⟩, ⟨(.int .i64), .sh, i15⟩, ⟨(.sl (.int .i64)), .deep, x16⟩]⟩)]⟩
noncomputable def impl_filled.l6 (k : Nat) (i17 : Int) (f18 : (Int × Int × Unit) → Option (Int × Unit)) (i19 : Int) (i20 : Int) (i21 : Int) (i22 : Int) (i23 : Int) (i24 : Int) (i25 : Int) (i26 : Int) (x27 : List Int) (i28 : Int) (i29 : Int) (i30 : Int) (x31 : List Int) : Option (((Int × Int × Int × List Int) × Unit) × (Unit)) :=
  Go.Vm.runT impl_filled.cfg impl_filled.fin k [.inLoop (sub [1, 1, 0, 1, 0, 0, 1, 1, 0, 0, 1, 1, 0, 0] impl_filled.code), .inBlock 2, .inBlock 1, .code (sub [1, 1, 0, 1, 0, 0, 1, 1, 1] impl_filled.code), .inLoop (sub [1, 1, 0, 1, 0, 0] impl_filled.code), .inBlock 0, .code (sub [1, 1, 1] impl_filled.code)]
    ⟨[.dead, .dead, .val false [⟨(.int .i64), .sh, i17⟩], .fnx ⟨[(false, (.int .i64)), (false, (.int .i64))], [(.val false, (.int .i64), .deep)]⟩ f18, .dead, .dead, .dead, .dead, .ref 32 (.root 0), .ref 36 (.root 0), .val false [⟨(.int .i64), .sh, i19⟩], .dead, .dead, .dead, .dead, .dead, .val false [⟨(.int .i64), .sh, i20⟩], .val false [⟨(.int .i64), .sh, i21⟩], .dead, .dead, .val false [⟨(.int .i64), .sh, i22⟩], .val false [⟨(.int .i64), .sh, i23⟩]] ++ deads 14, [(32, ⟨true, [⟨(.int .i64), .sh, i24⟩, ⟨(.int .i64), .sh, i25⟩, ⟨(.int .i64), .sh, i26⟩, ⟨(.sl (.int .i64)), .deep, x27⟩]⟩), (36, ⟨true, [⟨(.int .i64), .sh, i28⟩, ⟨(.int .i64), .sh, i29⟩, ⟨(.int .i64), .sh, i30⟩, ⟨(.sl (.int .i64)), .deep, x31⟩]⟩)]⟩
theorem impl_filled.l3_eq (k : Nat) (i5 : Int) (f6 : (Int × Int × Unit) → Option (Int × Unit)) (i7 : Int) (i8 : Int) (i9 : Int) (i10 : Int) (i11 : Int) (x12 : List Int) (i13 : Int) (i14 : Int) (i15 : Int) (x16 : List Int) : impl_filled.l3 (k + 1) i5 f6 i7 i8 i9 i10 i11 x12 i13 i14 i15 x16 =
  if (decide (i8 < i7)) = true then
    impl_filled.l6 k i5 f6 i8 i7 i8 i5 (0 : Int) i9 i10 i11 x12 i13 i14 i15 x16
  else
    some (((i13, (i14, (i15, x16))), ()), ()) := by kernel_rfl
theorem impl_filled.l6_eq (k : Nat) (i17 : Int) (f18 : (Int × Int × Unit) → Option (Int × Unit)) (i19 : Int) (i20 : Int) (i21 : Int) (i22 : Int) (i23 : Int) (i24 : Int) (i25 : Int) (i26 : Int) (x27 : List Int) (i28 : Int) (i29 : Int) (i30 : Int) (x31 : List Int) : impl_filled.l6 (k + 1) i17 f18 i19 i20 i21 i22 i23 i24 i25 i26 x27 i28 i29 i30 x31 =
  if (decide (i23 < i22)) = true then
    (f18 (i19, i23, ())).bind fun r32 =>
      if x31.length + ([(r32.1 : Int)] : List Int).length ≤ bigA then
        impl_filled.l6 k i17 f18 i19 i20 i21 i22 (IntKind.i64.wrap (i23 + (1 : Int))) i24 i25 i26 x27 i28 i29 i30 (x31 ++ ([(r32.1 : Int)]))
      else
        none
  else
    impl_filled.l3 k i17 f18 i20 (IntKind.i64.wrap (i21 + (1 : Int))) i24 i25 i26 x27 i28 i29 i30 x31 := by kernel_rfl
noncomputable def impl_filled.T (k : Nat) (p_1 : Int) (rows_2 : Int) (columns_3 : Int) (f_4 : (Int × Int × Unit) → Option (Int × Unit)) : Option (((Int × Int × Int × List Int) × Unit) × (Unit)) :=
  impl_filled.l3 k columns_3 f_4 rows_2 (0 : Int) 0 0 0 ([]) p_1 rows_2 columns_3 ([])
theorem impl_filled.run (k : Nat) (p_1 : Int) (rows_2 : Int) (columns_3 : Int) (f_4 : (Int × Int × Unit) → Option (Int × Unit)) : runFn impl_filled.cfg impl_filled.fin impl_filled.code (initSt impl_filled.sig.ps (p_1, rows_2, columns_3, f_4, ()) 36) k = impl_filled.T k p_1 rows_2 columns_3 f_4 := by kernel_rfl
theorem impl_filled.of (p_1 : Int) (rows_2 : Int) (columns_3 : Int) (f_4 : (Int × Int × Unit) → Option (Int × Unit)) {r : ((Int × Int × Int × List Int) × Unit) × (Unit)} (h : Ev (fun k => impl_filled.T k p_1 rows_2 columns_3 f_4) r) : impl_filled.F (p_1, rows_2, columns_3, f_4, ()) = some r := Ev.run (fun k => impl_filled.run k p_1 rows_2 columns_3 f_4) h
theorem impl_filled.ok : CtxOK Go.Proofs.Tryz.prog impl_filled.ctx := ⟨List.forall_mem_nil _, mixed_ok, tab_ok tab_good, List.forall_mem_nil _, List.forall_mem_nil _, List.forall_mem_nil _⟩
theorem impl_filled.S : Sound Go.Proofs.Tryz.prog ⟨127, impl_filled.sig, impl_filled.F⟩ := sound_any (fn := Go.Proofs.Tryz.f127) (code := impl_filled.code) (g := impl_filled.cfg) (res := [.cell 8 89]) Go.Proofs.Tryz.func127 (by kernel_rfl) (by kernel_rfl) impl_filled.ok (by kernel_rfl) (by kernel_rfl) (Nat.le_of_ble_eq_true (by kernel_rfl)) (by kernel_rfl)
/-! ### impl_Matrix_at -/
noncomputable def impl_Matrix_at.sig : Sig := ⟨[.val true TMatrix, .val false (.int .i64), .val false (.int .i64)], [(.val false, (.int .i64), .deep)]⟩
noncomputable def impl_Matrix_at.ctx : Ctx := ⟨tabOf tabl, [], [], [], [], []⟩
noncomputable def impl_Matrix_at.cfg : Cfg := ⟨impl_Matrix_at.ctx, [], [], fun _ => ([], []), fun _ => []⟩
noncomputable def impl_Matrix_at.code : Code := (Go.Proofs.Tryz.f129).body.getD .skip
noncomputable def impl_Matrix_at.fin := finK impl_Matrix_at.ctx impl_Matrix_at.sig [.tmp 6]
noncomputable def impl_Matrix_at.F (d : (Int × Int × Int × List Int) × Int × Int × Unit) : Option ((Int × Unit) × (Unit)) := anyK (runFn impl_Matrix_at.cfg impl_Matrix_at.fin impl_Matrix_at.code (initSt impl_Matrix_at.sig.ps d 17))
noncomputable def impl_Matrix_at.T (m_1 : Int) (m_2 : Int) (m_3 : Int) (m_4 : List Int) (i_5 : Int) (j_6 : Int) : Option ((Int × Unit) × (Unit)) :=
  if 0 ≤ (IntKind.i64.wrap ((IntKind.i64.wrap (i_5 * m_3)) + j_6)) ∧ (IntKind.i64.wrap ((IntKind.i64.wrap (i_5 * m_3)) + j_6)) < (m_4.length : Int) then
    some (((m_4.getD (IntKind.i64.wrap ((IntKind.i64.wrap (i_5 * m_3)) + j_6)).toNat 0 : Int), ()), ())
  else
    none
theorem impl_Matrix_at.run (k : Nat) (m_1 : Int) (m_2 : Int) (m_3 : Int) (m_4 : List Int) (i_5 : Int) (j_6 : Int) : runFn impl_Matrix_at.cfg impl_Matrix_at.fin impl_Matrix_at.code (initSt impl_Matrix_at.sig.ps ((m_1, (m_2, (m_3, m_4))), i_5, j_6, ()) 17) k = impl_Matrix_at.T m_1 m_2 m_3 m_4 i_5 j_6 := by kernel_rfl
theorem impl_Matrix_at.eq (m_1 : Int) (m_2 : Int) (m_3 : Int) (m_4 : List Int) (i_5 : Int) (j_6 : Int) : impl_Matrix_at.F ((m_1, (m_2, (m_3, m_4))), i_5, j_6, ()) = impl_Matrix_at.T m_1 m_2 m_3 m_4 i_5 j_6 := (congrArg anyK (funext fun k => impl_Matrix_at.run k m_1 m_2 m_3 m_4 i_5 j_6)).trans (anyK_const _)
theorem impl_Matrix_at.ok : CtxOK Go.Proofs.Tryz.prog impl_Matrix_at.ctx := ⟨List.forall_mem_nil _, mixed_ok, tab_ok tab_good, List.forall_mem_nil _, List.forall_mem_nil _, List.forall_mem_nil _⟩
theorem impl_Matrix_at.S : Sound Go.Proofs.Tryz.prog ⟨129, impl_Matrix_at.sig, impl_Matrix_at.F⟩ := sound_any (fn := Go.Proofs.Tryz.f129) (code := impl_Matrix_at.code) (g := impl_Matrix_at.cfg) (res := [.tmp 6]) Go.Proofs.Tryz.func129 (by kernel_rfl) (by kernel_rfl) impl_Matrix_at.ok (by kernel_rfl) (by kernel_rfl) (Nat.le_of_ble_eq_true (by kernel_rfl)) (by kernel_rfl)
/-! ### impl_transpose_1 -/
noncomputable def impl_transpose_1.sig : Sig := ⟨[.val false (.int .i64), .val false (.int .i64), .rptr TMatrix], [(.val false, (.int .i64), .deep)]⟩
noncomputable def impl_transpose_1.ctx : Ctx := ⟨tabOf tabl, [⟨129, impl_Matrix_at.sig, impl_Matrix_at.F⟩], [], [], [], []⟩
noncomputable def impl_transpose_1.cfg : Cfg := ⟨impl_transpose_1.ctx, [], [], fun _ => ([], []), fun _ => []⟩
noncomputable def impl_transpose_1.code : Code := (Go.Proofs.Tryz.f128).body.getD .skip
noncomputable def impl_transpose_1.fin := finK impl_transpose_1.ctx impl_transpose_1.sig [.tmp 5]
noncomputable def impl_transpose_1.F (d : Int × Int × (Int × Int × Int × List Int) × Unit) : Option ((Int × Unit) × (Unit)) := anyK (runFn impl_transpose_1.cfg impl_transpose_1.fin impl_transpose_1.code (initSt impl_transpose_1.sig.ps d 10))
noncomputable def impl_transpose_1.T (i_1 : Int) (j_2 : Int) (a_3 : Int) (a_4 : Int) (a_5 : Int) (a_6 : List Int) : Option ((Int × Unit) × (Unit)) :=
  (impl_Matrix_at.F ((a_3, (a_4, (a_5, a_6))), j_2, i_1, ())).bind fun r7 =>
    some (((r7.1.1 : Int), ()), ())
theorem impl_transpose_1.run (k : Nat) (i_1 : Int) (j_2 : Int) (a_3 : Int) (a_4 : Int) (a_5 : Int) (a_6 : List Int) : runFn impl_transpose_1.cfg impl_transpose_1.fin impl_transpose_1.code (initSt impl_transpose_1.sig.ps (i_1, j_2, (a_3, (a_4, (a_5, a_6))), ()) 10) k = impl_transpose_1.T i_1 j_2 a_3 a_4 a_5 a_6 := by kernel_rfl
theorem impl_transpose_1.eq (i_1 : Int) (j_2 : Int) (a_3 : Int) (a_4 : Int) (a_5 : Int) (a_6 : List Int) : impl_transpose_1.F (i_1, j_2, (a_3, (a_4, (a_5, a_6))), ()) = impl_transpose_1.T i_1 j_2 a_3 a_4 a_5 a_6 := (congrArg anyK (funext fun k => impl_transpose_1.run k i_1 j_2 a_3 a_4 a_5 a_6)).trans (anyK_const _)
theorem impl_transpose_1.ok : CtxOK Go.Proofs.Tryz.prog impl_transpose_1.ctx := ⟨List.forall_mem_nil _, mixed_ok, tab_ok tab_good, List.forall_mem_cons.2 ⟨impl_Matrix_at.S, List.forall_mem_nil _⟩, List.forall_mem_nil _, List.forall_mem_nil _⟩
theorem impl_transpose_1.S : Sound Go.Proofs.Tryz.prog ⟨128, impl_transpose_1.sig, impl_transpose_1.F⟩ := sound_any (fn := Go.Proofs.Tryz.f128) (code := impl_transpose_1.code) (g := impl_transpose_1.cfg) (res := [.tmp 5]) Go.Proofs.Tryz.func128 (by kernel_rfl) (by kernel_rfl) impl_transpose_1.ok (by kernel_rfl) (by kernel_rfl) (Nat.le_of_ble_eq_true (by kernel_rfl)) (by kernel_rfl)
noncomputable def impl_transpose_1.cloG (y : (Int × Int × Int × List Int) × Unit) (d : Int × Int × Unit) : Option (Int × Unit) := (impl_transpose_1.F (joinIns [.rptr TMatrix] [(false, (.int .i64)), (false, (.int .i64))] d y)).map (·.1)
noncomputable def impl_transpose_1.clo : Clo := ⟨128, ⟨[(false, (.int .i64)), (false, (.int .i64))], [(.val false, (.int .i64), .deep)]⟩, [.rptr TMatrix], impl_transpose_1.cloG⟩
theorem impl_transpose_1.cloS : SoundClo Go.Proofs.Tryz.prog impl_transpose_1.clo := sound_clo (s := ⟨[(false, (.int .i64)), (false, (.int .i64))], [(.val false, (.int .i64), .deep)]⟩) (caps := [.rptr TMatrix]) rfl impl_transpose_1.S
/-! ### impl_transpose -/
noncomputable def impl_transpose.sig : Sig := ⟨[.val true TMatrix], [(.val true, TMatrix, .deep)]⟩
noncomputable def impl_transpose.ctx : Ctx := ⟨tabOf tabl, [⟨127, impl_filled.sig, impl_filled.F⟩], [impl_transpose_1.clo], [], [], []⟩
noncomputable def impl_transpose.cfg : Cfg := ⟨impl_transpose.ctx, [], [], fun _ => ([], []), fun _ => []⟩
noncomputable def impl_transpose.code : Code := (Go.Proofs.Tryz.f107).body.getD .skip
noncomputable def impl_transpose.fin := finK impl_transpose.ctx impl_transpose.sig [.cell 2 89]
noncomputable def impl_transpose.F (d : (Int × Int × Int × List Int) × Unit) : Option (((Int × Int × Int × List Int) × Unit) × (Unit)) := anyK (runFn impl_transpose.cfg impl_transpose.fin impl_transpose.code (initSt impl_transpose.sig.ps d 11))
noncomputable def impl_transpose.T (m_1 : Int) (m_2 : Int) (m_3 : Int) (m_4 : List Int) : Option (((Int × Int × Int × List Int) × Unit) × (Unit)) :=
  (impl_filled.F (m_1, m_3, m_2, impl_transpose_1.cloG ((m_1, (m_2, (m_3, m_4))), ()), ())).bind fun r5 =>
    some ((r5.1.1, ()), ())
theorem impl_transpose.run (k : Nat) (m_1 : Int) (m_2 : Int) (m_3 : Int) (m_4 : List Int) : runFn impl_transpose.cfg impl_transpose.fin impl_transpose.code (initSt impl_transpose.sig.ps ((m_1, (m_2, (m_3, m_4))), ()) 11) k = impl_transpose.T m_1 m_2 m_3 m_4 := by kernel_rfl
theorem impl_transpose.eq (m_1 : Int) (m_2 : Int) (m_3 : Int) (m_4 : List Int) : impl_transpose.F ((m_1, (m_2, (m_3, m_4))), ()) = impl_transpose.T m_1 m_2 m_3 m_4 := (congrArg anyK (funext fun k => impl_transpose.run k m_1 m_2 m_3 m_4)).trans (anyK_const _)
theorem impl_transpose.ok : CtxOK Go.Proofs.Tryz.prog impl_transpose.ctx := ⟨List.forall_mem_nil _, mixed_ok, tab_ok tab_good, List.forall_mem_cons.2 ⟨impl_filled.S, List.forall_mem_nil _⟩, List.forall_mem_cons.2 ⟨impl_transpose_1.cloS, List.forall_mem_nil _⟩, List.forall_mem_nil _⟩
theorem impl_transpose.S : Sound Go.Proofs.Tryz.prog ⟨107, impl_transpose.sig, impl_transpose.F⟩ := sound_any (fn := Go.Proofs.Tryz.f107) (code := impl_transpose.code) (g := impl_transpose.cfg) (res := [.cell 2 89]) Go.Proofs.Tryz.func107 (by kernel_rfl) (by kernel_rfl) impl_transpose.ok (by kernel_rfl) (by kernel_rfl) (Nat.le_of_ble_eq_true (by kernel_rfl)) (by kernel_rfl)
/-! ### slices_Clone_Lint64_int64 -/
noncomputable def slices_Clone_Lint64_int64.sig : Sig := ⟨[.val false (.sl (.int .i64))], [(.val false, (.sl (.int .i64)), .deep)]⟩
noncomputable def slices_Clone_Lint64_int64.ctx : Ctx := ⟨tabOf tabl, [], [], [], [], []⟩
noncomputable def slices_Clone_Lint64_int64.cfg : Cfg := ⟨slices_Clone_Lint64_int64.ctx, [], [], fun _ => ([], []), fun _ => []⟩
noncomputable def slices_Clone_Lint64_int64.code : Code := (Go.Proofs.Tryz.f78).body.getD .skip
noncomputable def slices_Clone_Lint64_int64.fin := finK slices_Clone_Lint64_int64.ctx slices_Clone_Lint64_int64.sig [.tmp 2]
noncomputable def slices_Clone_Lint64_int64.F (d : List Int × Unit) : Option ((List Int × Unit) × (Unit)) := anyK (runFn slices_Clone_Lint64_int64.cfg slices_Clone_Lint64_int64.fin slices_Clone_Lint64_int64.code (initSt slices_Clone_Lint64_int64.sig.ps d 8))
noncomputable def slices_Clone_Lint64_int64.T (s_1 : List Int) : Option ((List Int × Unit) × (Unit)) :=
  if 0 < s_1.length then
    if ([] : List Int).length + s_1.length ≤ bigA then
      some ((([] : List Int) ++ s_1, ()), ())
    else
      none
  else
    both (
      some (([], ()), ())
    ) (
      if ([] : List Int).length + s_1.length ≤ bigA then
        some ((([] : List Int) ++ s_1, ()), ())
      else
        none
    )
theorem slices_Clone_Lint64_int64.run (k : Nat) (s_1 : List Int) : runFn slices_Clone_Lint64_int64.cfg slices_Clone_Lint64_int64.fin slices_Clone_Lint64_int64.code (initSt slices_Clone_Lint64_int64.sig.ps (s_1, ()) 8) k = slices_Clone_Lint64_int64.T s_1 := by kernel_rfl
theorem slices_Clone_Lint64_int64.eq (s_1 : List Int) : slices_Clone_Lint64_int64.F (s_1, ()) = slices_Clone_Lint64_int64.T s_1 := (congrArg anyK (funext fun k => slices_Clone_Lint64_int64.run k s_1)).trans (anyK_const _)
theorem slices_Clone_Lint64_int64.ok : CtxOK Go.Proofs.Tryz.prog slices_Clone_Lint64_int64.ctx := ⟨List.forall_mem_nil _, mixed_ok, tab_ok tab_good, List.forall_mem_nil _, List.forall_mem_nil _, List.forall_mem_nil _⟩
theorem slices_Clone_Lint64_int64.S : Sound Go.Proofs.Tryz.prog ⟨78, slices_Clone_Lint64_int64.sig, slices_Clone_Lint64_int64.F⟩ := sound_any (fn := Go.Proofs.Tryz.f78) (code := slices_Clone_Lint64_int64.code) (g := slices_Clone_Lint64_int64.cfg) (res := [.tmp 2]) Go.Proofs.Tryz.func78 (by kernel_rfl) (by kernel_rfl) slices_Clone_Lint64_int64.ok (by kernel_rfl) (by kernel_rfl) (Nat.le_of_ble_eq_true (by kernel_rfl)) (by kernel_rfl)
/-! ### impl_Matrix_row -/
noncomputable def impl_Matrix_row.sig : Sig := ⟨[.val true TMatrix, .val false (.int .i64)], [(.val false, (.sl (.int .i64)), .sh)]⟩
noncomputable def impl_Matrix_row.ctx : Ctx := ⟨tabOf tabl, [], [], [], [], []⟩
noncomputable def impl_Matrix_row.cfg : Cfg := ⟨impl_Matrix_row.ctx, [], [], fun _ => ([], []), fun _ => []⟩
noncomputable def impl_Matrix_row.code : Code := (Go.Proofs.Tryz.f145).body.getD .skip
noncomputable def impl_Matrix_row.fin := finK impl_Matrix_row.ctx impl_Matrix_row.sig [.tmp 4]
noncomputable def impl_Matrix_row.F (d : (Int × Int × Int × List Int) × Int × Unit) : Option ((List Int × Unit) × (Unit)) := anyK (runFn impl_Matrix_row.cfg impl_Matrix_row.fin impl_Matrix_row.code (initSt impl_Matrix_row.sig.ps d 17))
noncomputable def impl_Matrix_row.T (m_1 : Int) (m_2 : Int) (m_3 : Int) (m_4 : List Int) (i_5 : Int) : Option ((List Int × Unit) × (Unit)) :=
  if 0 ≤ (IntKind.i64.wrap (i_5 * m_3)) ∧ (IntKind.i64.wrap (i_5 * m_3)) ≤ (IntKind.i64.wrap ((IntKind.i64.wrap (i_5 + (1 : Int))) * m_3)) ∧ (IntKind.i64.wrap ((IntKind.i64.wrap (i_5 + (1 : Int))) * m_3)) ≤ (m_4.length : Int) then
    some ((cutL m_4 (IntKind.i64.wrap (i_5 * m_3)) (IntKind.i64.wrap ((IntKind.i64.wrap (i_5 + (1 : Int))) * m_3)), ()), ())
  else
    none
theorem impl_Matrix_row.run (k : Nat) (m_1 : Int) (m_2 : Int) (m_3 : Int) (m_4 : List Int) (i_5 : Int) : runFn impl_Matrix_row.cfg impl_Matrix_row.fin impl_Matrix_row.code (initSt impl_Matrix_row.sig.ps ((m_1, (m_2, (m_3, m_4))), i_5, ()) 17) k = impl_Matrix_row.T m_1 m_2 m_3 m_4 i_5 := by kernel_rfl
theorem impl_Matrix_row.eq (m_1 : Int) (m_2 : Int) (m_3 : Int) (m_4 : List Int) (i_5 : Int) : impl_Matrix_row.F ((m_1, (m_2, (m_3, m_4))), i_5, ()) = impl_Matrix_row.T m_1 m_2 m_3 m_4 i_5 := (congrArg anyK (funext fun k => impl_Matrix_row.run k m_1 m_2 m_3 m_4 i_5)).trans (anyK_const _)
theorem impl_Matrix_row.ok : CtxOK Go.Proofs.Tryz.prog impl_Matrix_row.ctx := ⟨List.forall_mem_nil _, mixed_ok, tab_ok tab_good, List.forall_mem_nil _, List.forall_mem_nil _, List.forall_mem_nil _⟩
theorem impl_Matrix_row.S : Sound Go.Proofs.Tryz.prog ⟨145, impl_Matrix_row.sig, impl_Matrix_row.F⟩ := sound_any (fn := Go.Proofs.Tryz.f145) (code := impl_Matrix_row.code) (g := impl_Matrix_row.cfg) (res := [.tmp 4]) Go.Proofs.Tryz.func145 (by kernel_rfl) (by kernel_rfl) impl_Matrix_row.ok (by kernel_rfl) (by kernel_rfl) (Nat.le_of_ble_eq_true (by kernel_rfl)) (by kernel_rfl)
/-! ### impl_rowsOf -/
noncomputable def impl_rowsOf.sig : Sig := ⟨[.val true TMatrix], [(.val false, (.sl (.sl (.int .i64))), .deep)]⟩
noncomputable def impl_rowsOf.ctx : Ctx := ⟨tabOf tabl, [⟨78, slices_Clone_Lint64_int64.sig, slices_Clone_Lint64_int64.F⟩, ⟨145, impl_Matrix_row.sig, impl_Matrix_row.F⟩], [], [], [], []⟩
noncomputable def impl_rowsOf.cfg : Cfg := ⟨impl_rowsOf.ctx, [], [], fun id => match id with | 3 => ([1, 3, 6, 7], [4, 12]) | _ => ([], []), fun _ => []⟩
noncomputable def impl_rowsOf.code : Code := (Go.Proofs.Tryz.f148).body.getD .skip
noncomputable def impl_rowsOf.fin := finK impl_rowsOf.ctx impl_rowsOf.sig [.tmp 2]
noncomputable def impl_rowsOf.F (d : (Int × Int × Int × List Int) × Unit) : Option ((List (List Int) × Unit) × (Unit)) := anyK (runFn impl_rowsOf.cfg impl_rowsOf.fin impl_rowsOf.code (initSt impl_rowsOf.sig.ps d 19))
noncomputable def impl_rowsOf.l3 (k : Nat) (i5 : Int) (i6 : Int) (i7 : Int) (i8 : Int) (i9 : Int) (x10 : List Int) (x11 : List (List Int)) : Option ((List (List Int) × Unit) × (Unit)) :=
  Go.Vm.runT impl_rowsOf.cfg impl_rowsOf.fin k [.inLoop (sub [1, 1, 0, 1, 0, 0] impl_rowsOf.code), .inBlock 0, .code (sub [1, 1, 1] impl_rowsOf.code)]
    ⟨[.dead, .ref 4 (.root 0), .dead, .view 12 (.root 0) 1 false, .dead, .dead, .val false [⟨(.int .i64), .sh, i5⟩], .val false [⟨(.int .i64), .sh, i6⟩]] ++ deads 11, [(4, ⟨true, [⟨(.int .i64), .sh, i7⟩, ⟨(.int .i64), .sh, i8⟩, ⟨(.int .i64), .sh, i9⟩, ⟨(.sl (.int .i64)), .sh, x10⟩]⟩), (12, ⟨false, [⟨(.sl (.sl (.int .i64))), .deep, x11⟩]⟩)]⟩
theorem impl_rowsOf.l3_eq (k : Nat) (i5 : Int) (i6 : Int) (i7 : Int) (i8 : Int) (i9 : Int) (x10 : List Int) (x11 : List (List Int)) : impl_rowsOf.l3 (k + 1) i5 i6 i7 i8 i9 x10 x11 =
  if (decide (i6 < i5)) = true then
    (impl_Matrix_row.F ((i7, (i8, (i9, x10))), i6, ())).bind fun r12 =>
      (slices_Clone_Lint64_int64.F (r12.1.1, ())).bind fun r13 =>
        if x11.length + ([r13.1.1] : List (List Int)).length ≤ bigA then
          impl_rowsOf.l3 k i5 (IntKind.i64.wrap (i6 + (1 : Int))) i7 i8 i9 x10 (x11 ++ ([r13.1.1]))
        else
          none
  else
    some ((x11, ()), ()) := by kernel_rfl
noncomputable def impl_rowsOf.T (k : Nat) (m_1 : Int) (m_2 : Int) (m_3 : Int) (m_4 : List Int) : Option ((List (List Int) × Unit) × (Unit)) :=
  impl_rowsOf.l3 k m_2 (0 : Int) m_1 m_2 m_3 m_4 ([])
theorem impl_rowsOf.run (k : Nat) (m_1 : Int) (m_2 : Int) (m_3 : Int) (m_4 : List Int) : runFn impl_rowsOf.cfg impl_rowsOf.fin impl_rowsOf.code (initSt impl_rowsOf.sig.ps ((m_1, (m_2, (m_3, m_4))), ()) 19) k = impl_rowsOf.T k m_1 m_2 m_3 m_4 := by kernel_rfl
theorem impl_rowsOf.of (m_1 : Int) (m_2 : Int) (m_3 : Int) (m_4 : List Int) {r : (List (List Int) × Unit) × (Unit)} (h : Ev (fun k => impl_rowsOf.T k m_1 m_2 m_3 m_4) r) : impl_rowsOf.F ((m_1, (m_2, (m_3, m_4))), ()) = some r := Ev.run (fun k => impl_rowsOf.run k m_1 m_2 m_3 m_4) h
theorem impl_rowsOf.ok : CtxOK Go.Proofs.Tryz.prog impl_rowsOf.ctx := ⟨List.forall_mem_nil _, mixed_ok, tab_ok tab_good, List.forall_mem_cons.2 ⟨slices_Clone_Lint64_int64.S, List.forall_mem_cons.2 ⟨impl_Matrix_row.S, List.forall_mem_nil _⟩⟩, List.forall_mem_nil _, List.forall_mem_nil _⟩
theorem impl_rowsOf.S : Sound Go.Proofs.Tryz.prog ⟨148, impl_rowsOf.sig, impl_rowsOf.F⟩ := sound_any (fn := Go.Proofs.Tryz.f148) (code := impl_rowsOf.code) (g := impl_rowsOf.cfg) (res := [.tmp 2]) Go.Proofs.Tryz.func148 (by kernel_rfl) (by kernel_rfl) impl_rowsOf.ok (by kernel_rfl) (by kernel_rfl) (Nat.le_of_ble_eq_true (by kernel_rfl)) (by kernel_rfl)
/-! ### impl_columnsOf -/
noncomputable def impl_columnsOf.sig : Sig := ⟨[.val true TMatrix], [(.val false, (.sl (.sl (.int .i64))), .deep)]⟩
noncomputable def impl_columnsOf.ctx : Ctx := ⟨tabOf tabl, [⟨107, impl_transpose.sig, impl_transpose.F⟩, ⟨148, impl_rowsOf.sig, impl_rowsOf.F⟩], [], [], [], []⟩
noncomputable def impl_columnsOf.cfg : Cfg := ⟨impl_columnsOf.ctx, [], [], fun _ => ([], []), fun _ => []⟩
noncomputable def impl_columnsOf.code : Code := (Go.Proofs.Tryz.f143).body.getD .skip
noncomputable def impl_columnsOf.fin := finK impl_columnsOf.ctx impl_columnsOf.sig [.tmp 2]
noncomputable def impl_columnsOf.F (d : (Int × Int × Int × List Int) × Unit) : Option ((List (List Int) × Unit) × (Unit)) := anyK (runFn impl_columnsOf.cfg impl_columnsOf.fin impl_columnsOf.code (initSt impl_columnsOf.sig.ps d 6))
noncomputable def impl_columnsOf.T (m_1 : Int) (m_2 : Int) (m_3 : Int) (m_4 : List Int) : Option ((List (List Int) × Unit) × (Unit)) :=
  (impl_transpose.F ((m_1, (m_2, (m_3, m_4))), ())).bind fun r5 =>
    (impl_rowsOf.F (r5.1.1, ())).bind fun r6 =>
      some ((r6.1.1, ()), ())
theorem impl_columnsOf.run (k : Nat) (m_1 : Int) (m_2 : Int) (m_3 : Int) (m_4 : List Int) : runFn impl_columnsOf.cfg impl_columnsOf.fin impl_columnsOf.code (initSt impl_columnsOf.sig.ps ((m_1, (m_2, (m_3, m_4))), ()) 6) k = impl_columnsOf.T m_1 m_2 m_3 m_4 := by kernel_rfl
theorem impl_columnsOf.eq (m_1 : Int) (m_2 : Int) (m_3 : Int) (m_4 : List Int) : impl_columnsOf.F ((m_1, (m_2, (m_3, m_4))), ()) = impl_columnsOf.T m_1 m_2 m_3 m_4 := (congrArg anyK (funext fun k => impl_columnsOf.run k m_1 m_2 m_3 m_4)).trans (anyK_const _)
theorem impl_columnsOf.ok : CtxOK Go.Proofs.Tryz.prog impl_columnsOf.ctx := ⟨List.forall_mem_nil _, mixed_ok, tab_ok tab_good, List.forall_mem_cons.2 ⟨impl_transpose.S, List.forall_mem_cons.2 ⟨impl_rowsOf.S, List.forall_mem_nil _⟩⟩, List.forall_mem_nil _, List.forall_mem_nil _⟩
theorem impl_columnsOf.S : Sound Go.Proofs.Tryz.prog ⟨143, impl_columnsOf.sig, impl_columnsOf.F⟩ := sound_any (fn := Go.Proofs.Tryz.f143) (code := impl_columnsOf.code) (g := impl_columnsOf.cfg) (res := [.tmp 2]) Go.Proofs.Tryz.func143 (by kernel_rfl) (by kernel_rfl) impl_columnsOf.ok (by kernel_rfl) (by kernel_rfl) (Nat.le_of_ble_eq_true (by kernel_rfl)) (by kernel_rfl)
/-! ### impl_dot -/
noncomputable def impl_dot.sig : Sig := ⟨[.val false (.sl (.int .i64)), .val false (.sl (.int .i64)), .val false (.int .i64)], [(.val false, (.int .i64), .deep)]⟩
noncomputable def impl_dot.ctx : Ctx := ⟨tabOf tabl, [], [], [], [], []⟩
noncomputable def impl_dot.cfg : Cfg := ⟨impl_dot.ctx, [], [], fun id => match id with | 3 => ([0, 1, 2, 7, 10, 11], []) | _ => ([], []), fun _ => []⟩
noncomputable def impl_dot.code : Code := (Go.Proofs.Tryz.f50).body.getD .skip
noncomputable def impl_dot.fin := finK impl_dot.ctx impl_dot.sig [.tmp 6]
noncomputable def impl_dot.F (d : List Int × List Int × Int × Unit) : Option ((Int × Unit) × (Unit)) := anyK (runFn impl_dot.cfg impl_dot.fin impl_dot.code (initSt impl_dot.sig.ps d 29))
noncomputable def impl_dot.l3 (k : Nat) (x4 : List Int) (x5 : List Int) (i6 : Int) (i7 : Int) (i8 : Int) (i9 : Int) : Option ((Int × Unit) × (Unit)) :=
  Go.Vm.runT impl_dot.cfg impl_dot.fin k [.inLoop (sub [1, 1, 0, 1, 0, 0] impl_dot.code), .inBlock 0, .code (sub [1, 1, 1] impl_dot.code)]
    ⟨[.val false [⟨(.sl (.int .i64)), .sh, x4⟩], .val false [⟨(.sl (.int .i64)), .sh, x5⟩], .val false [⟨(.int .i64), .sh, i6⟩], .dead, .dead, .dead, .dead, .val false [⟨(.int .i64), .sh, i7⟩], .dead, .dead, .val false [⟨(.int .i64), .sh, i8⟩], .val false [⟨(.int .i64), .sh, i9⟩]] ++ deads 17, []⟩
theorem impl_dot.l3_eq (k : Nat) (x4 : List Int) (x5 : List Int) (i6 : Int) (i7 : Int) (i8 : Int) (i9 : Int) : impl_dot.l3 (k + 1) x4 x5 i6 i7 i8 i9 =
  if (decide (i9 < i8)) = true then
    if 0 ≤ i9 ∧ i9 < (x4.length : Int) then
      if 0 ≤ i9 ∧ i9 < (x5.length : Int) then
        if i6 = 0 then
          none
        else
          impl_dot.l3 k x4 x5 i6 ((IntKind.i64.wrap (i7 + (IntKind.i64.wrap ((x4.getD i9.toNat 0 : Int) * (x5.getD i9.toNat 0 : Int))))).tmod i6) i8 (IntKind.i64.wrap (i9 + (1 : Int)))
      else
        none
    else
      none
  else
    some ((i7, ()), ()) := by kernel_rfl
noncomputable def impl_dot.T (k : Nat) (a_1 : List Int) (b_2 : List Int) (p_3 : Int) : Option ((Int × Unit) × (Unit)) :=
  impl_dot.l3 k a_1 b_2 p_3 (0 : Int) (a_1.length : Int) (0 : Int)
theorem impl_dot.run (k : Nat) (a_1 : List Int) (b_2 : List Int) (p_3 : Int) : runFn impl_dot.cfg impl_dot.fin impl_dot.code (initSt impl_dot.sig.ps (a_1, b_2, p_3, ()) 29) k = impl_dot.T k a_1 b_2 p_3 := by kernel_rfl
theorem impl_dot.of (a_1 : List Int) (b_2 : List Int) (p_3 : Int) {r : (Int × Unit) × (Unit)} (h : Ev (fun k => impl_dot.T k a_1 b_2 p_3) r) : impl_dot.F (a_1, b_2, p_3, ()) = some r := Ev.run (fun k => impl_dot.run k a_1 b_2 p_3) h
theorem impl_dot.ok : CtxOK Go.Proofs.Tryz.prog impl_dot.ctx := ⟨List.forall_mem_nil _, mixed_ok, tab_ok tab_good, List.forall_mem_nil _, List.forall_mem_nil _, List.forall_mem_nil _⟩
theorem impl_dot.S : Sound Go.Proofs.Tryz.prog ⟨50, impl_dot.sig, impl_dot.F⟩ := sound_any (fn := Go.Proofs.Tryz.f50) (code := impl_dot.code) (g := impl_dot.cfg) (res := [.tmp 6]) Go.Proofs.Tryz.func50 (by kernel_rfl) (by kernel_rfl) impl_dot.ok (by kernel_rfl) (by kernel_rfl) (Nat.le_of_ble_eq_true (by kernel_rfl)) (by kernel_rfl)
/-! ### impl_product_1 -/
noncomputable def impl_product_1.sig : Sig := ⟨[.val false (.int .i64), .val false (.int .i64), .rptr TMatrix, .rptr (.sl (.sl (.int .i64)))], [(.val false, (.int .i64), .deep)]⟩
noncomputable def impl_product_1.ctx : Ctx := ⟨tabOf tabl, [⟨50, impl_dot.sig, impl_dot.F⟩, ⟨145, impl_Matrix_row.sig, impl_Matrix_row.F⟩], [], [], [], []⟩
noncomputable def impl_product_1.cfg : Cfg := ⟨impl_product_1.ctx, [], [], fun _ => ([], []), fun _ => []⟩
noncomputable def impl_product_1.code : Code := (Go.Proofs.Tryz.f144).body.getD .skip
noncomputable def impl_product_1.fin := finK impl_product_1.ctx impl_product_1.sig [.tmp 6]
noncomputable def impl_product_1.F (d : Int × Int × (Int × Int × Int × List Int) × List (List Int) × Unit) : Option ((Int × Unit) × (Unit)) := anyK (runFn impl_product_1.cfg impl_product_1.fin impl_product_1.code (initSt impl_product_1.sig.ps d 17))
noncomputable def impl_product_1.T (i_1 : Int) (j_2 : Int) (a_3 : Int) (a_4 : Int) (a_5 : Int) (a_6 : List Int) (a_7 : List (List Int)) : Option ((Int × Unit) × (Unit)) :=
  (impl_Matrix_row.F ((a_3, (a_4, (a_5, a_6))), i_1, ())).bind fun r8 =>
    if 0 ≤ j_2 ∧ j_2 < (a_7.length : Int) then
      (impl_dot.F (r8.1.1, a_7.getD j_2.toNat ([] : List Int), a_3, ())).bind fun r9 =>
        some (((r9.1.1 : Int), ()), ())
    else
      none
theorem impl_product_1.run (k : Nat) (i_1 : Int) (j_2 : Int) (a_3 : Int) (a_4 : Int) (a_5 : Int) (a_6 : List Int) (a_7 : List (List Int)) : runFn impl_product_1.cfg impl_product_1.fin impl_product_1.code (initSt impl_product_1.sig.ps (i_1, j_2, (a_3, (a_4, (a_5, a_6))), a_7, ()) 17) k = impl_product_1.T i_1 j_2 a_3 a_4 a_5 a_6 a_7 := by kernel_rfl
theorem impl_product_1.eq (i_1 : Int) (j_2 : Int) (a_3 : Int) (a_4 : Int) (a_5 : Int) (a_6 : List Int) (a_7 : List (List Int)) : impl_product_1.F (i_1, j_2, (a_3, (a_4, (a_5, a_6))), a_7, ()) = impl_product_1.T i_1 j_2 a_3 a_4 a_5 a_6 a_7 := (congrArg anyK (funext fun k => impl_product_1.run k i_1 j_2 a_3 a_4 a_5 a_6 a_7)).trans (anyK_const _)
theorem impl_product_1.ok : CtxOK Go.Proofs.Tryz.prog impl_product_1.ctx := ⟨List.forall_mem_nil _, mixed_ok, tab_ok tab_good, List.forall_mem_cons.2 ⟨impl_dot.S, List.forall_mem_cons.2 ⟨impl_Matrix_row.S, List.forall_mem_nil _⟩⟩, List.forall_mem_nil _, List.forall_mem_nil _⟩
theorem impl_product_1.S : Sound Go.Proofs.Tryz.prog ⟨144, impl_product_1.sig, impl_product_1.F⟩ := sound_any (fn := Go.Proofs.Tryz.f144) (code := impl_product_1.code) (g := impl_product_1.cfg) (res := [.tmp 6]) Go.Proofs.Tryz.func144 (by kernel_rfl) (by kernel_rfl) impl_product_1.ok (by kernel_rfl) (by kernel_rfl) (Nat.le_of_ble_eq_true (by kernel_rfl)) (by kernel_rfl)
noncomputable def impl_product_1.cloG (y : (Int × Int × Int × List Int) × List (List Int) × Unit) (d : Int × Int × Unit) : Option (Int × Unit) := (impl_product_1.F (joinIns [.rptr TMatrix, .rptr (.sl (.sl (.int .i64)))] [(false, (.int .i64)), (false, (.int .i64))] d y)).map (·.1)
noncomputable def impl_product_1.clo : Clo := ⟨144, ⟨[(false, (.int .i64)), (false, (.int .i64))], [(.val false, (.int .i64), .deep)]⟩, [.rptr TMatrix, .rptr (.sl (.sl (.int .i64)))], impl_product_1.cloG⟩
theorem impl_product_1.cloS : SoundClo Go.Proofs.Tryz.prog impl_product_1.clo := sound_clo (s := ⟨[(false, (.int .i64)), (false, (.int .i64))], [(.val false, (.int .i64), .deep)]⟩) (caps := [.rptr TMatrix, .rptr (.sl (.sl (.int .i64)))]) rfl impl_product_1.S
/-! ### impl_product -/
noncomputable def impl_product.sig : Sig := ⟨[.val true TMatrix, .val true TMatrix], [(.val true, TMatrix, .deep)]⟩
noncomputable def impl_product.ctx : Ctx := ⟨tabOf tabl, [⟨127, impl_filled.sig, impl_filled.F⟩, ⟨143, impl_columnsOf.sig, impl_columnsOf.F⟩], [impl_product_1.clo], [], [], []⟩
noncomputable def impl_product.cfg : Cfg := ⟨impl_product.ctx, [], [], fun _ => ([], []), fun _ => []⟩
noncomputable def impl_product.code : Code := (Go.Proofs.Tryz.f137).body.getD .skip
noncomputable def impl_product.fin := finK impl_product.ctx impl_product.sig [.cell 4 89]
noncomputable def impl_product.F (d : (Int × Int × Int × List Int) × (Int × Int × Int × List Int) × Unit) : Option (((Int × Int × Int × List Int) × Unit) × (Unit)) := anyK (runFn impl_product.cfg impl_product.fin impl_product.code (initSt impl_product.sig.ps d 16))
noncomputable def impl_product.T (a_1 : Int) (a_2 : Int) (a_3 : Int) (a_4 : List Int) (b_5 : Int) (b_6 : Int) (b_7 : Int) (b_8 : List Int) : Option (((Int × Int × Int × List Int) × Unit) × (Unit)) :=
  (impl_columnsOf.F ((b_5, (b_6, (b_7, b_8))), ())).bind fun r9 =>
    (impl_filled.F (a_1, a_2, b_7, impl_product_1.cloG ((a_1, (a_2, (a_3, a_4))), r9.1.1, ()), ())).bind fun r10 =>
      some ((r10.1.1, ()), ())
theorem impl_product.run (k : Nat) (a_1 : Int) (a_2 : Int) (a_3 : Int) (a_4 : List Int) (b_5 : Int) (b_6 : Int) (b_7 : Int) (b_8 : List Int) : runFn impl_product.cfg impl_product.fin impl_product.code (initSt impl_product.sig.ps ((a_1, (a_2, (a_3, a_4))), (b_5, (b_6, (b_7, b_8))), ()) 16) k = impl_product.T a_1 a_2 a_3 a_4 b_5 b_6 b_7 b_8 := by kernel_rfl
theorem impl_product.eq (a_1 : Int) (a_2 : Int) (a_3 : Int) (a_4 : List Int) (b_5 : Int) (b_6 : Int) (b_7 : Int) (b_8 : List Int) : impl_product.F ((a_1, (a_2, (a_3, a_4))), (b_5, (b_6, (b_7, b_8))), ()) = impl_product.T a_1 a_2 a_3 a_4 b_5 b_6 b_7 b_8 := (congrArg anyK (funext fun k => impl_product.run k a_1 a_2 a_3 a_4 b_5 b_6 b_7 b_8)).trans (anyK_const _)
theorem impl_product.ok : CtxOK Go.Proofs.Tryz.prog impl_product.ctx := ⟨List.forall_mem_nil _, mixed_ok, tab_ok tab_good, List.forall_mem_cons.2 ⟨impl_filled.S, List.forall_mem_cons.2 ⟨impl_columnsOf.S, List.forall_mem_nil _⟩⟩, List.forall_mem_cons.2 ⟨impl_product_1.cloS, List.forall_mem_nil _⟩, List.forall_mem_nil _⟩
theorem impl_product.S : Sound Go.Proofs.Tryz.prog ⟨137, impl_product.sig, impl_product.F⟩ := sound_any (fn := Go.Proofs.Tryz.f137) (code := impl_product.code) (g := impl_product.cfg) (res := [.cell 4 89]) Go.Proofs.Tryz.func137 (by kernel_rfl) (by kernel_rfl) impl_product.ok (by kernel_rfl) (by kernel_rfl) (Nat.le_of_ble_eq_true (by kernel_rfl)) (by kernel_rfl)
/-! ### impl_firstMap -/
noncomputable def impl_firstMap.sig : Sig := ⟨[.val true TSheaf, .val false (.int .i64)], [(.val false, (.int .i64), .deep)]⟩
noncomputable def impl_firstMap.ctx : Ctx := ⟨tabOf tabl, [⟨84, impl_size_int64.sig, impl_size_int64.F⟩], [], [], [], []⟩
noncomputable def impl_firstMap.cfg : Cfg := ⟨impl_firstMap.ctx, [], [], fun id => match id with | 3 => ([5, 12, 13, 14], []) | _ => ([], []), fun _ => []⟩
noncomputable def impl_firstMap.code : Code := (Go.Proofs.Tryz.f146).body.getD .skip
noncomputable def impl_firstMap.fin := finK impl_firstMap.ctx impl_firstMap.sig [.tmp 4]
noncomputable def impl_firstMap.F (d : (List (List Int) × Int × List Int × List (Int × Int × Int × List Int)) × Int × Unit) : Option ((Int × Unit) × (Unit)) := anyK (runFn impl_firstMap.cfg impl_firstMap.fin impl_firstMap.code (initSt impl_firstMap.sig.ps d 27))
noncomputable def impl_firstMap.l3 (k : Nat) (i6 : Int) (x7 : List (List Int)) (i8 : Int) (i9 : Int) : Option ((Int × Unit) × (Unit)) :=
  Go.Vm.runT impl_firstMap.cfg impl_firstMap.fin k [.inLoop (sub [1, 1, 0, 1, 0, 0] impl_firstMap.code), .inBlock 0, .code (sub [1, 1, 1] impl_firstMap.code)]
    ⟨[.dead, .dead, .dead, .dead, .dead, .val false [⟨(.int .i64), .sh, i6⟩], .dead, .dead, .dead, .dead, .dead, .dead, .val false [⟨(.sl (.sl (.int .i64))), .sh, x7⟩], .val false [⟨(.int .i64), .sh, i8⟩], .val false [⟨(.int .i64), .sh, i9⟩]] ++ deads 12, []⟩
theorem impl_firstMap.l3_eq (k : Nat) (i6 : Int) (x7 : List (List Int)) (i8 : Int) (i9 : Int) : impl_firstMap.l3 (k + 1) i6 x7 i8 i9 =
  if (decide (i9 < i8)) = true then
    if 0 ≤ i9 ∧ i9 < (x7.length : Int) then
      if (decide (((x7.getD i9.toNat ([] : List Int)).length : Int) > (1 : Int))) = true then
        (impl_size_int64.F (x7.getD i9.toNat ([] : List Int), ())).bind fun r10 =>
          impl_firstMap.l3 k (IntKind.i64.wrap (i6 + (r10.1.1 : Int))) x7 i8 (IntKind.i64.wrap (i9 + (1 : Int)))
      else
        impl_firstMap.l3 k i6 x7 i8 (IntKind.i64.wrap (i9 + (1 : Int)))
    else
      none
  else
    some ((i6, ()), ()) := by kernel_rfl
noncomputable def impl_firstMap.T (k : Nat) (s_1 : List (List Int)) (s_2 : Int) (s_3 : List Int) (s_4 : List (Int × Int × Int × List Int)) (simplex_5 : Int) : Option ((Int × Unit) × (Unit)) :=
  if 0 ≤ (0 : Int) ∧ (0 : Int) ≤ simplex_5 ∧ simplex_5 ≤ (s_1.length : Int) then
    impl_firstMap.l3 k (0 : Int) (cutL s_1 (0 : Int) simplex_5) ((cutL s_1 (0 : Int) simplex_5).length : Int) (0 : Int)
  else
    none
theorem impl_firstMap.run (k : Nat) (s_1 : List (List Int)) (s_2 : Int) (s_3 : List Int) (s_4 : List (Int × Int × Int × List Int)) (simplex_5 : Int) : runFn impl_firstMap.cfg impl_firstMap.fin impl_firstMap.code (initSt impl_firstMap.sig.ps ((s_1, (s_2, (s_3, s_4))), simplex_5, ()) 27) k = impl_firstMap.T k s_1 s_2 s_3 s_4 simplex_5 := by kernel_rfl
theorem impl_firstMap.of (s_1 : List (List Int)) (s_2 : Int) (s_3 : List Int) (s_4 : List (Int × Int × Int × List Int)) (simplex_5 : Int) {r : (Int × Unit) × (Unit)} (h : Ev (fun k => impl_firstMap.T k s_1 s_2 s_3 s_4 simplex_5) r) : impl_firstMap.F ((s_1, (s_2, (s_3, s_4))), simplex_5, ()) = some r := Ev.run (fun k => impl_firstMap.run k s_1 s_2 s_3 s_4 simplex_5) h
theorem impl_firstMap.ok : CtxOK Go.Proofs.Tryz.prog impl_firstMap.ctx := ⟨List.forall_mem_nil _, mixed_ok, tab_ok tab_good, List.forall_mem_cons.2 ⟨impl_size_int64.S, List.forall_mem_nil _⟩, List.forall_mem_nil _, List.forall_mem_nil _⟩
theorem impl_firstMap.S : Sound Go.Proofs.Tryz.prog ⟨146, impl_firstMap.sig, impl_firstMap.F⟩ := sound_any (fn := Go.Proofs.Tryz.f146) (code := impl_firstMap.code) (g := impl_firstMap.cfg) (res := [.tmp 4]) Go.Proofs.Tryz.func146 (by kernel_rfl) (by kernel_rfl) impl_firstMap.ok (by kernel_rfl) (by kernel_rfl) (Nat.le_of_ble_eq_true (by kernel_rfl)) (by kernel_rfl)
/-! ### impl_direct -/
noncomputable def impl_direct.sig : Sig := ⟨[.val true TSheaf, .val false (.int .i64), .val false (.int .i64)], [(.val true, TMatrix, .sh)]⟩
noncomputable def impl_direct.ctx : Ctx := ⟨tabOf tabl, [⟨146, impl_firstMap.sig, impl_firstMap.F⟩], [], [], [], []⟩
noncomputable def impl_direct.cfg : Cfg := ⟨impl_direct.ctx, [], [], fun _ => ([], []), fun _ => []⟩
noncomputable def impl_direct.code : Code := (Go.Proofs.Tryz.f138).body.getD .skip
noncomputable def impl_direct.fin := finK impl_direct.ctx impl_direct.sig [.cell 6 89]
noncomputable def impl_direct.F (d : (List (List Int) × Int × List Int × List (Int × Int × Int × List Int)) × Int × Int × Unit) : Option (((Int × Int × Int × List Int) × Unit) × (Unit)) := anyK (runFn impl_direct.cfg impl_direct.fin impl_direct.code (initSt impl_direct.sig.ps d 16))
noncomputable def impl_direct.T (s_1 : List (List Int)) (s_2 : Int) (s_3 : List Int) (s_4 : List (Int × Int × Int × List Int)) (simplex_5 : Int) (place_6 : Int) : Option (((Int × Int × Int × List Int) × Unit) × (Unit)) :=
  (impl_firstMap.F ((s_1, (s_2, (s_3, s_4))), simplex_5, ())).bind fun r7 =>
    if 0 ≤ (IntKind.i64.wrap ((r7.1.1 : Int) + place_6)) ∧ (IntKind.i64.wrap ((r7.1.1 : Int) + place_6)) < (s_4.length : Int) then
      let y8 : Int := (s_4.getD (IntKind.i64.wrap ((r7.1.1 : Int) + place_6)).toNat (0, 0, 0, ([] : List Int))).1
      let y9 : Int := ((s_4.getD (IntKind.i64.wrap ((r7.1.1 : Int) + place_6)).toNat (0, 0, 0, ([] : List Int))).2).1
      let y10 : Int := (((s_4.getD (IntKind.i64.wrap ((r7.1.1 : Int) + place_6)).toNat (0, 0, 0, ([] : List Int))).2).2).1
      let y11 : List Int := (((s_4.getD (IntKind.i64.wrap ((r7.1.1 : Int) + place_6)).toNat (0, 0, 0, ([] : List Int))).2).2).2
      some (((y8, (y9, (y10, y11))), ()), ())
    else
      none
theorem impl_direct.run (k : Nat) (s_1 : List (List Int)) (s_2 : Int) (s_3 : List Int) (s_4 : List (Int × Int × Int × List Int)) (simplex_5 : Int) (place_6 : Int) : runFn impl_direct.cfg impl_direct.fin impl_direct.code (initSt impl_direct.sig.ps ((s_1, (s_2, (s_3, s_4))), simplex_5, place_6, ()) 16) k = impl_direct.T s_1 s_2 s_3 s_4 simplex_5 place_6 := by kernel_rfl
theorem impl_direct.eq (s_1 : List (List Int)) (s_2 : Int) (s_3 : List Int) (s_4 : List (Int × Int × Int × List Int)) (simplex_5 : Int) (place_6 : Int) : impl_direct.F ((s_1, (s_2, (s_3, s_4))), simplex_5, place_6, ()) = impl_direct.T s_1 s_2 s_3 s_4 simplex_5 place_6 := (congrArg anyK (funext fun k => impl_direct.run k s_1 s_2 s_3 s_4 simplex_5 place_6)).trans (anyK_const _)
theorem impl_direct.ok : CtxOK Go.Proofs.Tryz.prog impl_direct.ctx := ⟨List.forall_mem_nil _, mixed_ok, tab_ok tab_good, List.forall_mem_cons.2 ⟨impl_firstMap.S, List.forall_mem_nil _⟩, List.forall_mem_nil _, List.forall_mem_nil _⟩
theorem impl_direct.S : Sound Go.Proofs.Tryz.prog ⟨138, impl_direct.sig, impl_direct.F⟩ := sound_any (fn := Go.Proofs.Tryz.f138) (code := impl_direct.code) (g := impl_direct.cfg) (res := [.cell 6 89]) Go.Proofs.Tryz.func138 (by kernel_rfl) (by kernel_rfl) impl_direct.ok (by kernel_rfl) (by kernel_rfl) (Nat.le_of_ble_eq_true (by kernel_rfl)) (by kernel_rfl)
/-! ### slices_Equal_Lint64_int64 -/
noncomputable def slices_Equal_Lint64_int64.sig : Sig := ⟨[.val false (.sl (.int .i64)), .val false (.sl (.int .i64))], [(.val false, .bool, .deep)]⟩
noncomputable def slices_Equal_Lint64_int64.ctx : Ctx := ⟨tabOf tabl, [], [], [], [], []⟩
noncomputable def slices_Equal_Lint64_int64.cfg : Cfg := ⟨slices_Equal_Lint64_int64.ctx, [], [], fun id => match id with | 4 => ([0, 1, 12, 13], []) | _ => ([], []), fun _ => []⟩
noncomputable def slices_Equal_Lint64_int64.code : Code := (Go.Proofs.Tryz.f147).body.getD .skip
noncomputable def slices_Equal_Lint64_int64.fin := finK slices_Equal_Lint64_int64.ctx slices_Equal_Lint64_int64.sig [.tmp 4]
noncomputable def slices_Equal_Lint64_int64.F (d : List Int × List Int × Unit) : Option ((Bool × Unit) × (Unit)) := anyK (runFn slices_Equal_Lint64_int64.cfg slices_Equal_Lint64_int64.fin slices_Equal_Lint64_int64.code (initSt slices_Equal_Lint64_int64.sig.ps d 26))
noncomputable def slices_Equal_Lint64_int64.l4 (k : Nat) (x3 : List Int) (x4 : List Int) (i5 : Int) (i6 : Int) : Option ((Bool × Unit) × (Unit)) :=
  Go.Vm.runT slices_Equal_Lint64_int64.cfg slices_Equal_Lint64_int64.fin k [.inLoop (sub [1, 1, 0, 1, 0, 0] slices_Equal_Lint64_int64.code), .inBlock 0, .code (sub [1, 1, 1] slices_Equal_Lint64_int64.code)]
    ⟨[.val false [⟨(.sl (.int .i64)), .sh, x3⟩], .val false [⟨(.sl (.int .i64)), .sh, x4⟩], .dead, .dead, .dead, .dead, .dead, .dead, .dead, .dead, .dead, .dead, .val false [⟨(.int .i64), .sh, i5⟩], .val false [⟨(.int .i64), .sh, i6⟩]] ++ deads 12, []⟩
theorem slices_Equal_Lint64_int64.l4_eq (k : Nat) (x3 : List Int) (x4 : List Int) (i5 : Int) (i6 : Int) : slices_Equal_Lint64_int64.l4 (k + 1) x3 x4 i5 i6 =
  if (decide (i6 < i5)) = true then
    if 0 ≤ i6 ∧ i6 < (x3.length : Int) then
      if 0 ≤ i6 ∧ i6 < (x4.length : Int) then
        if ((x3.getD i6.toNat 0 : Int) != (x4.getD i6.toNat 0 : Int)) = true then
          some ((false, ()), ())
        else
          slices_Equal_Lint64_int64.l4 k x3 x4 i5 (IntKind.i64.wrap (i6 + (1 : Int)))
      else
        none
    else
      none
  else
    some ((true, ()), ()) := by kernel_rfl
noncomputable def slices_Equal_Lint64_int64.T (k : Nat) (s1_1 : List Int) (s2_2 : List Int) : Option ((Bool × Unit) × (Unit)) :=
  if ((s1_1.length : Int) != (s2_2.length : Int)) = true then
    some ((false, ()), ())
  else
    slices_Equal_Lint64_int64.l4 k s1_1 s2_2 (s1_1.length : Int) (0 : Int)
theorem slices_Equal_Lint64_int64.run (k : Nat) (s1_1 : List Int) (s2_2 : List Int) : runFn slices_Equal_Lint64_int64.cfg slices_Equal_Lint64_int64.fin slices_Equal_Lint64_int64.code (initSt slices_Equal_Lint64_int64.sig.ps (s1_1, s2_2, ()) 26) k = slices_Equal_Lint64_int64.T k s1_1 s2_2 := by kernel_rfl
theorem slices_Equal_Lint64_int64.of (s1_1 : List Int) (s2_2 : List Int) {r : (Bool × Unit) × (Unit)} (h : Ev (fun k => slices_Equal_Lint64_int64.T k s1_1 s2_2) r) : slices_Equal_Lint64_int64.F (s1_1, s2_2, ()) = some r := Ev.run (fun k => slices_Equal_Lint64_int64.run k s1_1 s2_2) h
theorem slices_Equal_Lint64_int64.ok : CtxOK Go.Proofs.Tryz.prog slices_Equal_Lint64_int64.ctx := ⟨List.forall_mem_nil _, mixed_ok, tab_ok tab_good, List.forall_mem_nil _, List.forall_mem_nil _, List.forall_mem_nil _⟩
theorem slices_Equal_Lint64_int64.S : Sound Go.Proofs.Tryz.prog ⟨147, slices_Equal_Lint64_int64.sig, slices_Equal_Lint64_int64.F⟩ := sound_any (fn := Go.Proofs.Tryz.f147) (code := slices_Equal_Lint64_int64.code) (g := slices_Equal_Lint64_int64.cfg) (res := [.tmp 4]) Go.Proofs.Tryz.func147 (by kernel_rfl) (by kernel_rfl) slices_Equal_Lint64_int64.ok (by kernel_rfl) (by kernel_rfl) (Nat.le_of_ble_eq_true (by kernel_rfl)) (by kernel_rfl)
/-! ### impl_SameMatrix -/
noncomputable def impl_SameMatrix.sig : Sig := ⟨[.val true TMatrix, .val true TMatrix], [(.val false, .bool, .deep)]⟩
noncomputable def impl_SameMatrix.ctx : Ctx := ⟨tabOf tabl, [⟨147, slices_Equal_Lint64_int64.sig, slices_Equal_Lint64_int64.F⟩], [], [], [], []⟩
noncomputable def impl_SameMatrix.cfg : Cfg := ⟨impl_SameMatrix.ctx, [], [], fun _ => ([], []), fun _ => []⟩
noncomputable def impl_SameMatrix.code : Code := (Go.Proofs.Tryz.f139).body.getD .skip
noncomputable def impl_SameMatrix.fin := finK impl_SameMatrix.ctx impl_SameMatrix.sig [.tmp 4]
noncomputable def impl_SameMatrix.F (d : (Int × Int × Int × List Int) × (Int × Int × Int × List Int) × Unit) : Option ((Bool × Unit) × (Unit)) := anyK (runFn impl_SameMatrix.cfg impl_SameMatrix.fin impl_SameMatrix.code (initSt impl_SameMatrix.sig.ps d 31))
noncomputable def impl_SameMatrix.T (a_1 : Int) (a_2 : Int) (a_3 : Int) (a_4 : List Int) (b_5 : Int) (b_6 : Int) (b_7 : Int) (b_8 : List Int) : Option ((Bool × Unit) × (Unit)) :=
  if (a_1 == b_5) = true then
    if (a_2 == b_6) = true then
      if (a_3 == b_7) = true then
        (slices_Equal_Lint64_int64.F (a_4, b_8, ())).bind fun r9 =>
          some (((r9.1.1 : Bool), ()), ())
      else
        some ((false, ()), ())
    else
      some ((false, ()), ())
  else
    some ((false, ()), ())
theorem impl_SameMatrix.run (k : Nat) (a_1 : Int) (a_2 : Int) (a_3 : Int) (a_4 : List Int) (b_5 : Int) (b_6 : Int) (b_7 : Int) (b_8 : List Int) : runFn impl_SameMatrix.cfg impl_SameMatrix.fin impl_SameMatrix.code (initSt impl_SameMatrix.sig.ps ((a_1, (a_2, (a_3, a_4))), (b_5, (b_6, (b_7, b_8))), ()) 31) k = impl_SameMatrix.T a_1 a_2 a_3 a_4 b_5 b_6 b_7 b_8 := by kernel_rfl
theorem impl_SameMatrix.eq (a_1 : Int) (a_2 : Int) (a_3 : Int) (a_4 : List Int) (b_5 : Int) (b_6 : Int) (b_7 : Int) (b_8 : List Int) : impl_SameMatrix.F ((a_1, (a_2, (a_3, a_4))), (b_5, (b_6, (b_7, b_8))), ()) = impl_SameMatrix.T a_1 a_2 a_3 a_4 b_5 b_6 b_7 b_8 := (congrArg anyK (funext fun k => impl_SameMatrix.run k a_1 a_2 a_3 a_4 b_5 b_6 b_7 b_8)).trans (anyK_const _)
theorem impl_SameMatrix.ok : CtxOK Go.Proofs.Tryz.prog impl_SameMatrix.ctx := ⟨List.forall_mem_nil _, mixed_ok, tab_ok tab_good, List.forall_mem_cons.2 ⟨slices_Equal_Lint64_int64.S, List.forall_mem_nil _⟩, List.forall_mem_nil _, List.forall_mem_nil _⟩
theorem impl_SameMatrix.S : Sound Go.Proofs.Tryz.prog ⟨139, impl_SameMatrix.sig, impl_SameMatrix.F⟩ := sound_any (fn := Go.Proofs.Tryz.f139) (code := impl_SameMatrix.code) (g := impl_SameMatrix.cfg) (res := [.tmp 4]) Go.Proofs.Tryz.func139 (by kernel_rfl) (by kernel_rfl) impl_SameMatrix.ok (by kernel_rfl) (by kernel_rfl) (Nat.le_of_ble_eq_true (by kernel_rfl)) (by kernel_rfl)
/-! ### impl_wrongSquare -/
noncomputable def impl_wrongSquare.sig : Sig := ⟨[.val true TSheaf], [(.val false, (.int .i64), .deep), (.val false, (.int .i64), .deep), (.val false, .bool, .deep)]⟩
noncomputable def impl_wrongSquare.ctx : Ctx := ⟨tabOf tabl, [⟨104, impl_faceIndices.sig, impl_faceIndices.F⟩, ⟨137, impl_product.sig, impl_product.F⟩, ⟨138, impl_direct.sig, impl_direct.F⟩, ⟨139, impl_SameMatrix.sig, impl_SameMatrix.F⟩], [], [], [], []⟩
noncomputable def impl_wrongSquare.cfg : Cfg := ⟨impl_wrongSquare.ctx, [], [], fun id => match id with | 2 => ([1, 15, 16, 17], [4]) | 8 => ([1, 6, 7, 8, 15, 16, 17, 31, 32], [4, 32]) | 11 => ([1, 6, 7, 8, 9, 10, 15, 16, 17, 31, 32], [4, 32]) | _ => ([], []), fun _ => []⟩
noncomputable def impl_wrongSquare.code : Code := (Go.Proofs.Tryz.f131).body.getD .skip
noncomputable def impl_wrongSquare.fin := finK impl_wrongSquare.ctx impl_wrongSquare.sig [.tmp 2, .tmp 3, .tmp 4]
noncomputable def impl_wrongSquare.F (d : (List (List Int) × Int × List Int × List (Int × Int × Int × List Int)) × Unit) : Option ((Int × Int × Bool × Unit) × (Unit)) := anyK (runFn impl_wrongSquare.cfg impl_wrongSquare.fin impl_wrongSquare.code (initSt impl_wrongSquare.sig.ps d 86))
noncomputable def impl_wrongSquare.l2 (k : Nat) (x5 : List (List Int)) (i6 : Int) (i7 : Int) (x8 : List (List Int)) (i9 : Int) (x10 : List Int) (x11 : List (Int × Int × Int × List Int)) : Option ((Int × Int × Bool × Unit) × (Unit)) :=
  Go.Vm.runT impl_wrongSquare.cfg impl_wrongSquare.fin k [.inLoop (sub [1, 0, 1, 0, 0] impl_wrongSquare.code), .inBlock 0, .code (sub [1, 1] impl_wrongSquare.code)]
    ⟨[.dead, .ref 4 (.root 0), .dead, .dead, .dead, .dead, .dead, .dead, .dead, .dead, .dead, .dead, .dead, .dead, .dead, .val false [⟨(.sl (.sl (.int .i64))), .sh, x5⟩], .val false [⟨(.int .i64), .sh, i6⟩], .val false [⟨(.int .i64), .sh, i7⟩]] ++ deads 68, [(4, ⟨true, [⟨(.sl (.sl (.int .i64))), .sh, x8⟩, ⟨(.int .i64), .sh, i9⟩, ⟨(.sl (.int .i64)), .sh, x10⟩, ⟨(.sl TMatrix), .sh, x11⟩]⟩)]⟩
noncomputable def impl_wrongSquare.l8 (k : Nat) (x13 : List Int) (i14 : Int) (x15 : List (List Int)) (i16 : Int) (i17 : Int) (i18 : Int) (i19 : Int) (x20 : List (List Int)) (i21 : Int) (x22 : List Int) (x23 : List (Int × Int × Int × List Int)) (x24 : List Int) : Option ((Int × Int × Bool × Unit) × (Unit)) :=
  Go.Vm.runT impl_wrongSquare.cfg impl_wrongSquare.fin k [.inLoop (sub [1, 0, 1, 0, 0, 1, 1, 0, 0, 1, 1, 1, 1, 1, 0, 0] impl_wrongSquare.code), .inBlock 2, .inBlock 1, .code (sub [1, 0, 1, 0, 0, 1, 1, 1] impl_wrongSquare.code), .inLoop (sub [1, 0, 1, 0, 0] impl_wrongSquare.code), .inBlock 0, .code (sub [1, 1] impl_wrongSquare.code)]
    ⟨[.dead, .ref 4 (.root 0), .dead, .dead, .dead, .dead, .val false [⟨(.sl (.int .i64)), .sh, x13⟩], .val false [⟨(.int .i64), .sh, i14⟩], .view 32 (.root 0) 1 false, .dead, .dead, .dead, .dead, .dead, .dead, .val false [⟨(.sl (.sl (.int .i64))), .sh, x15⟩], .val false [⟨(.int .i64), .sh, i16⟩], .val false [⟨(.int .i64), .sh, i17⟩], .dead, .dead, .dead, .dead, .dead, .dead, .dead, .dead, .dead, .dead, .dead, .dead, .dead, .val false [⟨(.int .i64), .sh, i18⟩], .val false [⟨(.int .i64), .sh, i19⟩]] ++ deads 53, [(4, ⟨true, [⟨(.sl (.sl (.int .i64))), .sh, x20⟩, ⟨(.int .i64), .sh, i21⟩, ⟨(.sl (.int .i64)), .sh, x22⟩, ⟨(.sl TMatrix), .sh, x23⟩]⟩), (32, ⟨false, [⟨(.sl (.int .i64)), .deep, x24⟩]⟩)]⟩
noncomputable def impl_wrongSquare.l11 (k : Nat) (x25 : List Int) (i26 : Int) (i27 : Int) (i28 : Int) (x29 : List (List Int)) (i30 : Int) (i31 : Int) (i32 : Int) (i33 : Int) (x34 : List (List Int)) (i35 : Int) (x36 : List Int) (x37 : List (Int × Int × Int × List Int)) (x38 : List Int) : Option ((Int × Int × Bool × Unit) × (Unit)) :=
  Go.Vm.runT impl_wrongSquare.cfg impl_wrongSquare.fin k [.inLoop (sub [1, 0, 1, 0, 0, 1, 1, 0, 0, 1, 1, 1, 1, 1, 0, 0, 1, 1, 0, 0, 1, 1, 0, 0] impl_wrongSquare.code), .inBlock 4, .inBlock 3, .code (sub [1, 0, 1, 0, 0, 1, 1, 0, 0, 1, 1, 1, 1, 1, 0, 0, 1, 1, 1] impl_wrongSquare.code), .inLoop (sub [1, 0, 1, 0, 0, 1, 1, 0, 0, 1, 1, 1, 1, 1, 0, 0] impl_wrongSquare.code), .inBlock 2, .inBlock 1, .code (sub [1, 0, 1, 0, 0, 1, 1, 1] impl_wrongSquare.code), .inLoop (sub [1, 0, 1, 0, 0] impl_wrongSquare.code), .inBlock 0, .code (sub [1, 1] impl_wrongSquare.code)]
    ⟨[.dead, .ref 4 (.root 0), .dead, .dead, .dead, .dead, .val false [⟨(.sl (.int .i64)), .sh, x25⟩], .val false [⟨(.int .i64), .sh, i26⟩], .view 32 (.root 0) 1 false, .val false [⟨(.int .i64), .sh, i27⟩], .val false [⟨(.int .i64), .sh, i28⟩], .dead, .dead, .dead, .dead, .val false [⟨(.sl (.sl (.int .i64))), .sh, x29⟩], .val false [⟨(.int .i64), .sh, i30⟩], .val false [⟨(.int .i64), .sh, i31⟩], .dead, .dead, .dead, .dead, .dead, .dead, .dead, .dead, .dead, .dead, .dead, .dead, .dead, .val false [⟨(.int .i64), .sh, i32⟩], .val false [⟨(.int .i64), .sh, i33⟩]] ++ deads 53, [(4, ⟨true, [⟨(.sl (.sl (.int .i64))), .sh, x34⟩, ⟨(.int .i64), .sh, i35⟩, ⟨(.sl (.int .i64)), .sh, x36⟩, ⟨(.sl TMatrix), .sh, x37⟩]⟩), (32, ⟨false, [⟨(.sl (.int .i64)), .deep, x38⟩]⟩)]⟩
theorem impl_wrongSquare.l2_eq (k : Nat) (x5 : List (List Int)) (i6 : Int) (i7 : Int) (x8 : List (List Int)) (i9 : Int) (x10 : List Int) (x11 : List (Int × Int × Int × List Int)) : impl_wrongSquare.l2 (k + 1) x5 i6 i7 x8 i9 x10 x11 =
  if (decide (i7 < i6)) = true then
    if 0 ≤ i7 ∧ i7 < (x5.length : Int) then
      if (decide (((x5.getD i7.toNat ([] : List Int)).length : Int) < (3 : Int))) = true then
        impl_wrongSquare.l2 k x5 i6 (IntKind.i64.wrap (i7 + (1 : Int))) x8 i9 x10 x11
      else
        (impl_faceIndices.F (x8, i7, ())).bind fun r12 =>
          impl_wrongSquare.l8 k (x5.getD i7.toNat ([] : List Int)) i7 x5 i6 i7 ((x5.getD i7.toNat ([] : List Int)).length : Int) (0 : Int) x8 i9 x10 x11 r12.1.1
    else
      none
  else
    some (((0 : Int), ((0 : Int), (false, ()))), ()) := by kernel_rfl
theorem impl_wrongSquare.l8_eq (k : Nat) (x13 : List Int) (i14 : Int) (x15 : List (List Int)) (i16 : Int) (i17 : Int) (i18 : Int) (i19 : Int) (x20 : List (List Int)) (i21 : Int) (x22 : List Int) (x23 : List (Int × Int × Int × List Int)) (x24 : List Int) : impl_wrongSquare.l8 (k + 1) x13 i14 x15 i16 i17 i18 i19 x20 i21 x22 x23 x24 =
  if (decide (i19 < i18)) = true then
    impl_wrongSquare.l11 k x13 i14 i19 (IntKind.i64.wrap (i19 + (1 : Int))) x15 i16 i17 i18 i19 x20 i21 x22 x23 x24
  else
    impl_wrongSquare.l2 k x15 i16 (IntKind.i64.wrap (i17 + (1 : Int))) x20 i21 x22 x23 := by kernel_rfl
theorem impl_wrongSquare.l11_eq (k : Nat) (x25 : List Int) (i26 : Int) (i27 : Int) (i28 : Int) (x29 : List (List Int)) (i30 : Int) (i31 : Int) (i32 : Int) (i33 : Int) (x34 : List (List Int)) (i35 : Int) (x36 : List Int) (x37 : List (Int × Int × Int × List Int)) (x38 : List Int) : impl_wrongSquare.l11 (k + 1) x25 i26 i27 i28 x29 i30 i31 i32 i33 x34 i35 x36 x37 x38 =
  if (decide (i28 < (x25.length : Int))) = true then
    (impl_direct.F ((x34, (i35, (x36, x37))), i26, i27, ())).bind fun r39 =>
      if 0 ≤ i27 ∧ i27 < (x38.length : Int) then
        (impl_direct.F ((x34, (i35, (x36, x37))), (x38.getD i27.toNat 0 : Int), IntKind.i64.wrap (i28 - (1 : Int)), ())).bind fun r40 =>
          (impl_product.F (r39.1.1, r40.1.1, ())).bind fun r41 =>
            (impl_direct.F ((x34, (i35, (x36, x37))), i26, i28, ())).bind fun r42 =>
              if 0 ≤ i28 ∧ i28 < (x38.length : Int) then
                (impl_direct.F ((x34, (i35, (x36, x37))), (x38.getD i28.toNat 0 : Int), i27, ())).bind fun r43 =>
                  (impl_product.F (r42.1.1, r43.1.1, ())).bind fun r44 =>
                    (impl_SameMatrix.F (r41.1.1, r44.1.1, ())).bind fun r45 =>
                      if (!(r45.1.1 : Bool)) = true then
                        if 0 ≤ i27 ∧ i27 < (x38.length : Int) then
                          (impl_faceIndices.F (x34, (x38.getD i27.toNat 0 : Int), ())).bind fun r46 =>
                            if 0 ≤ (IntKind.i64.wrap (i28 - (1 : Int))) ∧ (IntKind.i64.wrap (i28 - (1 : Int))) < (r46.1.1.length : Int) then
                              some ((i26, (r46.1.1.getD (IntKind.i64.wrap (i28 - (1 : Int))).toNat 0, (true, ()))), ())
                            else
                              none
                        else
                          none
                      else
                        impl_wrongSquare.l11 k x25 i26 i27 (IntKind.i64.wrap (i28 + (1 : Int))) x29 i30 i31 i32 i33 x34 i35 x36 x37 x38
              else
                none
      else
        none
  else
    impl_wrongSquare.l8 k x25 i26 x29 i30 i31 i32 (IntKind.i64.wrap (i33 + (1 : Int))) x34 i35 x36 x37 x38 := by kernel_rfl
noncomputable def impl_wrongSquare.T (k : Nat) (toArray_1 : List (List Int)) (toArray_2 : Int) (toArray_3 : List Int) (toArray_4 : List (Int × Int × Int × List Int)) : Option ((Int × Int × Bool × Unit) × (Unit)) :=
  impl_wrongSquare.l2 k toArray_1 (toArray_1.length : Int) (0 : Int) toArray_1 toArray_2 toArray_3 toArray_4
theorem impl_wrongSquare.run (k : Nat) (toArray_1 : List (List Int)) (toArray_2 : Int) (toArray_3 : List Int) (toArray_4 : List (Int × Int × Int × List Int)) : runFn impl_wrongSquare.cfg impl_wrongSquare.fin impl_wrongSquare.code (initSt impl_wrongSquare.sig.ps ((toArray_1, (toArray_2, (toArray_3, toArray_4))), ()) 86) k = impl_wrongSquare.T k toArray_1 toArray_2 toArray_3 toArray_4 := by kernel_rfl
theorem impl_wrongSquare.of (toArray_1 : List (List Int)) (toArray_2 : Int) (toArray_3 : List Int) (toArray_4 : List (Int × Int × Int × List Int)) {r : (Int × Int × Bool × Unit) × (Unit)} (h : Ev (fun k => impl_wrongSquare.T k toArray_1 toArray_2 toArray_3 toArray_4) r) : impl_wrongSquare.F ((toArray_1, (toArray_2, (toArray_3, toArray_4))), ()) = some r := Ev.run (fun k => impl_wrongSquare.run k toArray_1 toArray_2 toArray_3 toArray_4) h
theorem impl_wrongSquare.ok : CtxOK Go.Proofs.Tryz.prog impl_wrongSquare.ctx := ⟨List.forall_mem_nil _, mixed_ok, tab_ok tab_good, List.forall_mem_cons.2 ⟨impl_faceIndices.S, List.forall_mem_cons.2 ⟨impl_product.S, List.forall_mem_cons.2 ⟨impl_direct.S, List.forall_mem_cons.2 ⟨impl_SameMatrix.S, List.forall_mem_nil _⟩⟩⟩⟩, List.forall_mem_nil _, List.forall_mem_nil _⟩
theorem impl_wrongSquare.S : Sound Go.Proofs.Tryz.prog ⟨131, impl_wrongSquare.sig, impl_wrongSquare.F⟩ := sound_any (fn := Go.Proofs.Tryz.f131) (code := impl_wrongSquare.code) (g := impl_wrongSquare.cfg) (res := [.tmp 2, .tmp 3, .tmp 4]) Go.Proofs.Tryz.func131 (by kernel_rfl) (by kernel_rfl) impl_wrongSquare.ok (by kernel_rfl) (by kernel_rfl) (Nat.le_of_ble_eq_true (by kernel_rfl)) (by kernel_rfl)
/-! ### impl_IsSheaf -/
noncomputable def impl_IsSheaf.sig : Sig := ⟨[.val true TSheaf], [(.val false, .bool, .deep)]⟩
noncomputable def impl_IsSheaf.ctx : Ctx := ⟨tabOf tabl, [⟨31, impl_ValidSheaf.sig, impl_ValidSheaf.F⟩, ⟨131, impl_wrongSquare.sig, impl_wrongSquare.F⟩], [], [], [], []⟩
noncomputable def impl_IsSheaf.cfg : Cfg := ⟨impl_IsSheaf.ctx, [], [], fun _ => ([], []), fun _ => []⟩
noncomputable def impl_IsSheaf.code : Code := (Go.Proofs.Tryz.f111).body.getD .skip
noncomputable def impl_IsSheaf.fin := finK impl_IsSheaf.ctx impl_IsSheaf.sig [.tmp 2]
noncomputable def impl_IsSheaf.F (d : (List (List Int) × Int × List Int × List (Int × Int × Int × List Int)) × Unit) : Option ((Bool × Unit) × (Unit)) := anyK (runFn impl_IsSheaf.cfg impl_IsSheaf.fin impl_IsSheaf.code (initSt impl_IsSheaf.sig.ps d 17))
noncomputable def impl_IsSheaf.T (s_1 : List (List Int)) (s_2 : Int) (s_3 : List Int) (s_4 : List (Int × Int × Int × List Int)) : Option ((Bool × Unit) × (Unit)) :=
  (impl_ValidSheaf.F ((s_1, (s_2, (s_3, s_4))), ())).bind fun r5 =>
    if (!(r5.1.1 : Bool)) = true then
      some ((false, ()), ())
    else
      (impl_wrongSquare.F ((s_1, (s_2, (s_3, s_4))), ())).bind fun r6 =>
        some ((!(r6.1.2.2.1 : Bool), ()), ())
theorem impl_IsSheaf.run (k : Nat) (s_1 : List (List Int)) (s_2 : Int) (s_3 : List Int) (s_4 : List (Int × Int × Int × List Int)) : runFn impl_IsSheaf.cfg impl_IsSheaf.fin impl_IsSheaf.code (initSt impl_IsSheaf.sig.ps ((s_1, (s_2, (s_3, s_4))), ()) 17) k = impl_IsSheaf.T s_1 s_2 s_3 s_4 := by kernel_rfl
theorem impl_IsSheaf.eq (s_1 : List (List Int)) (s_2 : Int) (s_3 : List Int) (s_4 : List (Int × Int × Int × List Int)) : impl_IsSheaf.F ((s_1, (s_2, (s_3, s_4))), ()) = impl_IsSheaf.T s_1 s_2 s_3 s_4 := (congrArg anyK (funext fun k => impl_IsSheaf.run k s_1 s_2 s_3 s_4)).trans (anyK_const _)
theorem impl_IsSheaf.ok : CtxOK Go.Proofs.Tryz.prog impl_IsSheaf.ctx := ⟨List.forall_mem_nil _, mixed_ok, tab_ok tab_good, List.forall_mem_cons.2 ⟨impl_ValidSheaf.S, List.forall_mem_cons.2 ⟨impl_wrongSquare.S, List.forall_mem_nil _⟩⟩, List.forall_mem_nil _, List.forall_mem_nil _⟩
theorem impl_IsSheaf.S : Sound Go.Proofs.Tryz.prog ⟨111, impl_IsSheaf.sig, impl_IsSheaf.F⟩ := sound_any (fn := Go.Proofs.Tryz.f111) (code := impl_IsSheaf.code) (g := impl_IsSheaf.cfg) (res := [.tmp 2]) Go.Proofs.Tryz.func111 (by kernel_rfl) (by kernel_rfl) impl_IsSheaf.ok (by kernel_rfl) (by kernel_rfl) (Nat.le_of_ble_eq_true (by kernel_rfl)) (by kernel_rfl)
/-! ### impl_isDimension -/
noncomputable def impl_isDimension.sig : Sig := ⟨[.val false (.int .i64)], [(.val false, .bool, .deep)]⟩
noncomputable def impl_isDimension.ctx : Ctx := ⟨tabOf tabl, [⟨100, impl_within.sig, impl_within.F⟩], [], [], [], []⟩
noncomputable def impl_isDimension.cfg : Cfg := ⟨impl_isDimension.ctx, [], [], fun _ => ([], []), fun _ => []⟩
noncomputable def impl_isDimension.code : Code := (Go.Proofs.Tryz.f112).body.getD .skip
noncomputable def impl_isDimension.fin := finK impl_isDimension.ctx impl_isDimension.sig [.tmp 2]
noncomputable def impl_isDimension.F (d : Int × Unit) : Option ((Bool × Unit) × (Unit)) := anyK (runFn impl_isDimension.cfg impl_isDimension.fin impl_isDimension.code (initSt impl_isDimension.sig.ps d 5))
noncomputable def impl_isDimension.T (k_1 : Int) : Option ((Bool × Unit) × (Unit)) :=
  (impl_within.F (k_1, (0 : Int), (3 : Int), ())).bind fun r2 =>
    some (((r2.1.1 : Bool), ()), ())
theorem impl_isDimension.run (k : Nat) (k_1 : Int) : runFn impl_isDimension.cfg impl_isDimension.fin impl_isDimension.code (initSt impl_isDimension.sig.ps (k_1, ()) 5) k = impl_isDimension.T k_1 := by kernel_rfl
theorem impl_isDimension.eq (k_1 : Int) : impl_isDimension.F (k_1, ()) = impl_isDimension.T k_1 := (congrArg anyK (funext fun k => impl_isDimension.run k k_1)).trans (anyK_const _)
theorem impl_isDimension.ok : CtxOK Go.Proofs.Tryz.prog impl_isDimension.ctx := ⟨List.forall_mem_nil _, mixed_ok, tab_ok tab_good, List.forall_mem_cons.2 ⟨impl_within.S, List.forall_mem_nil _⟩, List.forall_mem_nil _, List.forall_mem_nil _⟩
theorem impl_isDimension.S : Sound Go.Proofs.Tryz.prog ⟨112, impl_isDimension.sig, impl_isDimension.F⟩ := sound_any (fn := Go.Proofs.Tryz.f112) (code := impl_isDimension.code) (g := impl_isDimension.cfg) (res := [.tmp 2]) Go.Proofs.Tryz.func112 (by kernel_rfl) (by kernel_rfl) impl_isDimension.ok (by kernel_rfl) (by kernel_rfl) (Nat.le_of_ble_eq_true (by kernel_rfl)) (by kernel_rfl)
/-! ### impl_graded -/
noncomputable def impl_graded.sig : Sig := ⟨[.val true TSheaf, .val false (.int .i64)], [(.val false, (.int .i64), .deep)]⟩
noncomputable def impl_graded.ctx : Ctx := ⟨tabOf tabl, [⟨111, impl_IsSheaf.sig, impl_IsSheaf.F⟩, ⟨112, impl_isDimension.sig, impl_isDimension.F⟩], [], [], [], []⟩
noncomputable def impl_graded.cfg : Cfg := ⟨impl_graded.ctx, [], [], fun _ => ([], []), fun _ => []⟩
noncomputable def impl_graded.code : Code := (Go.Proofs.Tryz.f83).body.getD .skip
noncomputable def impl_graded.fin := finK impl_graded.ctx impl_graded.sig [.tmp 4]
noncomputable def impl_graded.F (d : (List (List Int) × Int × List Int × List (Int × Int × Int × List Int)) × Int × Unit) : Option ((Int × Unit) × (Unit)) := anyK (runFn impl_graded.cfg impl_graded.fin impl_graded.code (initSt impl_graded.sig.ps d 13))
noncomputable def impl_graded.T (s_1 : List (List Int)) (s_2 : Int) (s_3 : List Int) (s_4 : List (Int × Int × Int × List Int)) (k_5 : Int) : Option ((Int × Unit) × (Unit)) :=
  (impl_IsSheaf.F ((s_1, (s_2, (s_3, s_4))), ())).bind fun r6 =>
    if (!(r6.1.1 : Bool)) = true then
      some (((1 : Int), ()), ())
    else
      (impl_isDimension.F (k_5, ())).bind fun r7 =>
        if (!(r7.1.1 : Bool)) = true then
          some (((2 : Int), ()), ())
        else
          some (((0 : Int), ()), ())
theorem impl_graded.run (k : Nat) (s_1 : List (List Int)) (s_2 : Int) (s_3 : List Int) (s_4 : List (Int × Int × Int × List Int)) (k_5 : Int) : runFn impl_graded.cfg impl_graded.fin impl_graded.code (initSt impl_graded.sig.ps ((s_1, (s_2, (s_3, s_4))), k_5, ()) 13) k = impl_graded.T s_1 s_2 s_3 s_4 k_5 := by kernel_rfl
theorem impl_graded.eq (s_1 : List (List Int)) (s_2 : Int) (s_3 : List Int) (s_4 : List (Int × Int × Int × List Int)) (k_5 : Int) : impl_graded.F ((s_1, (s_2, (s_3, s_4))), k_5, ()) = impl_graded.T s_1 s_2 s_3 s_4 k_5 := (congrArg anyK (funext fun k => impl_graded.run k s_1 s_2 s_3 s_4 k_5)).trans (anyK_const _)
theorem impl_graded.ok : CtxOK Go.Proofs.Tryz.prog impl_graded.ctx := ⟨List.forall_mem_nil _, mixed_ok, tab_ok tab_good, List.forall_mem_cons.2 ⟨impl_IsSheaf.S, List.forall_mem_cons.2 ⟨impl_isDimension.S, List.forall_mem_nil _⟩⟩, List.forall_mem_nil _, List.forall_mem_nil _⟩
theorem impl_graded.S : Sound Go.Proofs.Tryz.prog ⟨83, impl_graded.sig, impl_graded.F⟩ := sound_any (fn := Go.Proofs.Tryz.f83) (code := impl_graded.code) (g := impl_graded.cfg) (res := [.tmp 4]) Go.Proofs.Tryz.func83 (by kernel_rfl) (by kernel_rfl) impl_graded.ok (by kernel_rfl) (by kernel_rfl) (Nat.le_of_ble_eq_true (by kernel_rfl)) (by kernel_rfl)
/-! ### impl_withCochain -/
noncomputable def impl_withCochain.sig : Sig := ⟨[.val true TSheaf, .val false (.int .i64), .val false (.sl (.int .i64))], [(.val false, (.int .i64), .deep)]⟩
noncomputable def impl_withCochain.ctx : Ctx := ⟨tabOf tabl, [⟨48, impl_isVector.sig, impl_isVector.F⟩, ⟨49, impl_stalkSum.sig, impl_stalkSum.F⟩, ⟨83, impl_graded.sig, impl_graded.F⟩], [], [], [], []⟩
noncomputable def impl_withCochain.cfg : Cfg := ⟨impl_withCochain.ctx, [], [], fun _ => ([], []), fun _ => []⟩
noncomputable def impl_withCochain.code : Code := (Go.Proofs.Tryz.f47).body.getD .skip
noncomputable def impl_withCochain.fin := finK impl_withCochain.ctx impl_withCochain.sig [.tmp 6]
noncomputable def impl_withCochain.F (d : (List (List Int) × Int × List Int × List (Int × Int × Int × List Int)) × Int × List Int × Unit) : Option ((Int × Unit) × (Unit)) := anyK (runFn impl_withCochain.cfg impl_withCochain.fin impl_withCochain.code (initSt impl_withCochain.sig.ps d 22))
noncomputable def impl_withCochain.T (s_1 : List (List Int)) (s_2 : Int) (s_3 : List Int) (s_4 : List (Int × Int × Int × List Int)) (k_5 : Int) (x_6 : List Int) : Option ((Int × Unit) × (Unit)) :=
  (impl_graded.F ((s_1, (s_2, (s_3, s_4))), k_5, ())).bind fun r7 =>
    if ((r7.1.1 : Int) != (0 : Int)) = true then
      some (((r7.1.1 : Int), ()), ())
    else
      (impl_stalkSum.F ((s_1, (s_2, (s_3, s_4))), k_5, ())).bind fun r8 =>
        (impl_isVector.F (x_6, (r8.1.1 : Int), s_2, ())).bind fun r9 =>
          if (!(r9.1.1 : Bool)) = true then
            some (((7 : Int), ()), ())
          else
            some (((0 : Int), ()), ())
theorem impl_withCochain.run (k : Nat) (s_1 : List (List Int)) (s_2 : Int) (s_3 : List Int) (s_4 : List (Int × Int × Int × List Int)) (k_5 : Int) (x_6 : List Int) : runFn impl_withCochain.cfg impl_withCochain.fin impl_withCochain.code (initSt impl_withCochain.sig.ps ((s_1, (s_2, (s_3, s_4))), k_5, x_6, ()) 22) k = impl_withCochain.T s_1 s_2 s_3 s_4 k_5 x_6 := by kernel_rfl
theorem impl_withCochain.eq (s_1 : List (List Int)) (s_2 : Int) (s_3 : List Int) (s_4 : List (Int × Int × Int × List Int)) (k_5 : Int) (x_6 : List Int) : impl_withCochain.F ((s_1, (s_2, (s_3, s_4))), k_5, x_6, ()) = impl_withCochain.T s_1 s_2 s_3 s_4 k_5 x_6 := (congrArg anyK (funext fun k => impl_withCochain.run k s_1 s_2 s_3 s_4 k_5 x_6)).trans (anyK_const _)
theorem impl_withCochain.ok : CtxOK Go.Proofs.Tryz.prog impl_withCochain.ctx := ⟨List.forall_mem_nil _, mixed_ok, tab_ok tab_good, List.forall_mem_cons.2 ⟨impl_isVector.S, List.forall_mem_cons.2 ⟨impl_stalkSum.S, List.forall_mem_cons.2 ⟨impl_graded.S, List.forall_mem_nil _⟩⟩⟩, List.forall_mem_nil _, List.forall_mem_nil _⟩
theorem impl_withCochain.S : Sound Go.Proofs.Tryz.prog ⟨47, impl_withCochain.sig, impl_withCochain.F⟩ := sound_any (fn := Go.Proofs.Tryz.f47) (code := impl_withCochain.code) (g := impl_withCochain.cfg) (res := [.tmp 6]) Go.Proofs.Tryz.func47 (by kernel_rfl) (by kernel_rfl) impl_withCochain.ok (by kernel_rfl) (by kernel_rfl) (Nat.le_of_ble_eq_true (by kernel_rfl)) (by kernel_rfl)
/-! ### impl_PairOf -/
noncomputable def impl_PairOf.sig : Sig := ⟨[.val true TSheaf, .val false (.int .i64), .val false (.sl (.int .i64)), .val false (.sl (.int .i64))], [(.val false, (.int .i64), .deep), (.val false, (.int .i64), .deep)]⟩
noncomputable def impl_PairOf.ctx : Ctx := ⟨tabOf tabl, [⟨47, impl_withCochain.sig, impl_withCochain.F⟩, ⟨48, impl_isVector.sig, impl_isVector.F⟩, ⟨49, impl_stalkSum.sig, impl_stalkSum.F⟩, ⟨50, impl_dot.sig, impl_dot.F⟩], [], [], [], []⟩
noncomputable def impl_PairOf.cfg : Cfg := ⟨impl_PairOf.ctx, [], [], fun _ => ([], []), fun _ => []⟩
noncomputable def impl_PairOf.code : Code := (Go.Proofs.Tryz.f22).body.getD .skip
noncomputable def impl_PairOf.fin := finK impl_PairOf.ctx impl_PairOf.sig [.tmp 8, .tmp 9]
noncomputable def impl_PairOf.F (d : (List (List Int) × Int × List Int × List (Int × Int × Int × List Int)) × Int × List Int × List Int × Unit) : Option ((Int × Int × Unit) × (Unit)) := anyK (runFn impl_PairOf.cfg impl_PairOf.fin impl_PairOf.code (initSt impl_PairOf.sig.ps d 31))
noncomputable def impl_PairOf.T (s_1 : List (List Int)) (s_2 : Int) (s_3 : List Int) (s_4 : List (Int × Int × Int × List Int)) (k_5 : Int) (x_6 : List Int) (y_7 : List Int) : Option ((Int × Int × Unit) × (Unit)) :=
  (impl_withCochain.F ((s_1, (s_2, (s_3, s_4))), k_5, x_6, ())).bind fun r8 =>
    if ((r8.1.1 : Int) != (0 : Int)) = true then
      some (((0 : Int), ((r8.1.1 : Int), ())), ())
    else
      (impl_stalkSum.F ((s_1, (s_2, (s_3, s_4))), k_5, ())).bind fun r9 =>
        (impl_isVector.F (y_7, (r9.1.1 : Int), s_2, ())).bind fun r10 =>
          if (!(r10.1.1 : Bool)) = true then
            some (((0 : Int), ((7 : Int), ())), ())
          else
            (impl_dot.F (x_6, y_7, s_2, ())).bind fun r11 =>
              some (((r11.1.1 : Int), ((0 : Int), ())), ())
theorem impl_PairOf.run (k : Nat) (s_1 : List (List Int)) (s_2 : Int) (s_3 : List Int) (s_4 : List (Int × Int × Int × List Int)) (k_5 : Int) (x_6 : List Int) (y_7 : List Int) : runFn impl_PairOf.cfg impl_PairOf.fin impl_PairOf.code (initSt impl_PairOf.sig.ps ((s_1, (s_2, (s_3, s_4))), k_5, x_6, y_7, ()) 31) k = impl_PairOf.T s_1 s_2 s_3 s_4 k_5 x_6 y_7 := by kernel_rfl
theorem impl_PairOf.eq (s_1 : List (List Int)) (s_2 : Int) (s_3 : List Int) (s_4 : List (Int × Int × Int × List Int)) (k_5 : Int) (x_6 : List Int) (y_7 : List Int) : impl_PairOf.F ((s_1, (s_2, (s_3, s_4))), k_5, x_6, y_7, ()) = impl_PairOf.T s_1 s_2 s_3 s_4 k_5 x_6 y_7 := (congrArg anyK (funext fun k => impl_PairOf.run k s_1 s_2 s_3 s_4 k_5 x_6 y_7)).trans (anyK_const _)
theorem impl_PairOf.ok : CtxOK Go.Proofs.Tryz.prog impl_PairOf.ctx := ⟨List.forall_mem_nil _, mixed_ok, tab_ok tab_good, List.forall_mem_cons.2 ⟨impl_withCochain.S, List.forall_mem_cons.2 ⟨impl_isVector.S, List.forall_mem_cons.2 ⟨impl_stalkSum.S, List.forall_mem_cons.2 ⟨impl_dot.S, List.forall_mem_nil _⟩⟩⟩⟩, List.forall_mem_nil _, List.forall_mem_nil _⟩
theorem impl_PairOf.S : Sound Go.Proofs.Tryz.prog ⟨22, impl_PairOf.sig, impl_PairOf.F⟩ := sound_any (fn := Go.Proofs.Tryz.f22) (code := impl_PairOf.code) (g := impl_PairOf.cfg) (res := [.tmp 8, .tmp 9]) Go.Proofs.Tryz.func22 (by kernel_rfl) (by kernel_rfl) impl_PairOf.ok (by kernel_rfl) (by kernel_rfl) (Nat.le_of_ble_eq_true (by kernel_rfl)) (by kernel_rfl)
/-! ### laws_FnExactPairOf -/
noncomputable def laws_FnExactPairOf.sig : Sig := ⟨[.val true TSheaf, .val false (.int .i64), .val false (.sl (.int .i64)), .val false (.sl (.int .i64))], [(.val false, .bool, .deep)]⟩
noncomputable def laws_FnExactPairOf.ctx : Ctx := ⟨tabOf tabl, [⟨6, laws_szSheaf.sig, laws_szSheaf.F⟩, ⟨8, laws_toSheaf.sig, laws_toSheaf.F⟩, ⟨11, laws_eqSheaf.sig, laws_eqSheaf.F⟩, ⟨20, spec_PairOf.sig, spec_PairOf.F⟩, ⟨21, laws_toInt64S.sig, laws_toInt64S.F⟩, ⟨22, impl_PairOf.sig, impl_PairOf.F⟩, ⟨23, laws_eqInt64S.sig, laws_eqInt64S.F⟩], [], [], [], []⟩
noncomputable def laws_FnExactPairOf.cfg : Cfg := ⟨laws_FnExactPairOf.ctx, [], [], fun _ => ([], []), fun _ => []⟩
noncomputable def laws_FnExactPairOf.code : Code := (Go.Proofs.Tryz.f5).body.getD .skip
noncomputable def laws_FnExactPairOf.fin := finK laws_FnExactPairOf.ctx laws_FnExactPairOf.sig [.tmp 8]
noncomputable def laws_FnExactPairOf.F (d : (List (List Int) × Int × List Int × List (Int × Int × Int × List Int)) × Int × List Int × List Int × Unit) : Option ((Bool × Unit) × (Unit)) := anyK (runFn laws_FnExactPairOf.cfg laws_FnExactPairOf.fin laws_FnExactPairOf.code (initSt laws_FnExactPairOf.sig.ps d 76))
noncomputable def laws_FnExactPairOf.T (toArray_1 : List (List Int)) (toArray_2 : Int) (toArray_3 : List Int) (toArray_4 : List (Int × Int × Int × List Int)) (a_5 : Int) (a_6 : List Int) (a_7 : List Int) : Option ((Bool × Unit) × (Unit)) :=
  if (decide ((a_6.length : Int) > (1048576 : Int))) = true then
    some ((true, ()), ())
  else
    if (decide ((a_7.length : Int) > (1048576 : Int))) = true then
      some ((true, ()), ())
    else
      (laws_szSheaf.F ((toArray_1, (toArray_2, (toArray_3, toArray_4))), (1048576 : Int), ())).bind fun r8 =>
        if (decide ((r8.1.1 : Int) < (0 : Int))) = true then
          some ((true, ()), ())
        else
          (laws_toSheaf.F ((toArray_1, (toArray_2, (toArray_3, toArray_4))), ())).bind fun r9 =>
            (laws_toInt64S.F (a_6, ())).bind fun r10 =>
              (laws_toInt64S.F (a_7, ())).bind fun r11 =>
                (spec_PairOf.F (r9.1.1, a_5, r10.1.1, r11.1.1, ())).bind fun r12 =>
                  (laws_toSheaf.F ((toArray_1, (toArray_2, (toArray_3, toArray_4))), ())).bind fun r13 =>
                    (laws_toInt64S.F (a_6, ())).bind fun r14 =>
                      (laws_toInt64S.F (a_7, ())).bind fun r15 =>
                        (impl_PairOf.F (r13.1.1, a_5, r14.1.1, r15.1.1, ())).bind fun r16 =>
                          if ((r16.1.1 : Int) != (r12.1.1 : Int)) = true then
                            some ((false, ()), ())
                          else
                            if ((r16.1.2.1 : Int) != (r12.1.2.1 : Int)) = true then
                              some ((false, ()), ())
                            else
                              (laws_toSheaf.F ((toArray_1, (toArray_2, (toArray_3, toArray_4))), ())).bind fun r17 =>
                                (laws_eqSheaf.F (r13.1.1, r17.1.1, ())).bind fun r18 =>
                                  if (!(r18.1.1 : Bool)) = true then
                                    some ((false, ()), ())
                                  else
                                    (laws_toInt64S.F (a_6, ())).bind fun r19 =>
                                      (laws_eqInt64S.F (r14.1.1, r19.1.1, ())).bind fun r20 =>
                                        if (!(r20.1.1 : Bool)) = true then
                                          some ((false, ()), ())
                                        else
                                          (laws_toInt64S.F (a_7, ())).bind fun r21 =>
                                            (laws_eqInt64S.F (r15.1.1, r21.1.1, ())).bind fun r22 =>
                                              if (!(r22.1.1 : Bool)) = true then
                                                some ((false, ()), ())
                                              else
                                                some ((true, ()), ())
theorem laws_FnExactPairOf.run (k : Nat) (toArray_1 : List (List Int)) (toArray_2 : Int) (toArray_3 : List Int) (toArray_4 : List (Int × Int × Int × List Int)) (a_5 : Int) (a_6 : List Int) (a_7 : List Int) : runFn laws_FnExactPairOf.cfg laws_FnExactPairOf.fin laws_FnExactPairOf.code (initSt laws_FnExactPairOf.sig.ps ((toArray_1, (toArray_2, (toArray_3, toArray_4))), a_5, a_6, a_7, ()) 76) k = laws_FnExactPairOf.T toArray_1 toArray_2 toArray_3 toArray_4 a_5 a_6 a_7 := by kernel_rfl
theorem laws_FnExactPairOf.eq (toArray_1 : List (List Int)) (toArray_2 : Int) (toArray_3 : List Int) (toArray_4 : List (Int × Int × Int × List Int)) (a_5 : Int) (a_6 : List Int) (a_7 : List Int) : laws_FnExactPairOf.F ((toArray_1, (toArray_2, (toArray_3, toArray_4))), a_5, a_6, a_7, ()) = laws_FnExactPairOf.T toArray_1 toArray_2 toArray_3 toArray_4 a_5 a_6 a_7 := (congrArg anyK (funext fun k => laws_FnExactPairOf.run k toArray_1 toArray_2 toArray_3 toArray_4 a_5 a_6 a_7)).trans (anyK_const _)
theorem laws_FnExactPairOf.ok : CtxOK Go.Proofs.Tryz.prog laws_FnExactPairOf.ctx := ⟨List.forall_mem_nil _, mixed_ok, tab_ok tab_good, List.forall_mem_cons.2 ⟨laws_szSheaf.S, List.forall_mem_cons.2 ⟨laws_toSheaf.S, List.forall_mem_cons.2 ⟨laws_eqSheaf.S, List.forall_mem_cons.2 ⟨spec_PairOf.S, List.forall_mem_cons.2 ⟨laws_toInt64S.S, List.forall_mem_cons.2 ⟨impl_PairOf.S, List.forall_mem_cons.2 ⟨laws_eqInt64S.S, List.forall_mem_nil _⟩⟩⟩⟩⟩⟩⟩, List.forall_mem_nil _, List.forall_mem_nil _⟩
theorem laws_FnExactPairOf.S : Sound Go.Proofs.Tryz.prog ⟨5, laws_FnExactPairOf.sig, laws_FnExactPairOf.F⟩ := sound_any (fn := Go.Proofs.Tryz.f5) (code := laws_FnExactPairOf.code) (g := laws_FnExactPairOf.cfg) (res := [.tmp 8]) Go.Proofs.Tryz.func5 (by kernel_rfl) (by kernel_rfl) laws_FnExactPairOf.ok (by kernel_rfl) (by kernel_rfl) (Nat.le_of_ble_eq_true (by kernel_rfl)) (by kernel_rfl)
end Go.Proofs.YtpibalgbkhpcbaaGreat
