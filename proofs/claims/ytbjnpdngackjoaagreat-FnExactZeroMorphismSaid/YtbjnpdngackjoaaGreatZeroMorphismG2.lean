/- The functions, as the machine runs them. -/
import Derived.Test.YtbjnpdngackjoaaGreatZeroMorphismG1
import Derived.Test.YtbjnpdngackjoaaGreatProg
import Derived.KernelRfl
import Derived.WalkKit
import Derived.Lib.Walk
import Derived.Lib.AppendZeros
namespace Go.Proofs.YtbjnpdngackjoaaGreat
open Go Go.Vm
set_option linter.unusedVariables false
set_option linter.unusedSimpArgs false
/-! ### impl_isBetween -/
noncomputable def impl_isBetween.sig : Sig := ⟨[.val true TMatrix, .val false (.int .i64), .val false (.int .i64), .val false (.int .i64)], [(.val false, .bool, .deep)]⟩
noncomputable def impl_isBetween.ctx : Ctx := ⟨tabOf tabl, [⟨128, impl_ValidMatrix.sig, impl_ValidMatrix.F⟩], [], [], [], []⟩
noncomputable def impl_isBetween.cfg : Cfg := ⟨impl_isBetween.ctx, [], [], fun _ => ([], []), fun _ => []⟩
noncomputable def impl_isBetween.code : Code := (Go.Proofs.Tryz.f141).body.getD .skip
noncomputable def impl_isBetween.fin := finK impl_isBetween.ctx impl_isBetween.sig [.tmp 8]
noncomputable def impl_isBetween.F (d : (Int × Int × Int × List Int) × Int × Int × Int × Unit) : Option ((Bool × Unit) × (Unit)) := anyK (runFn impl_isBetween.cfg impl_isBetween.fin impl_isBetween.code (initSt impl_isBetween.sig.ps d 29))
noncomputable def impl_isBetween.T (m_1 : Int) (m_2 : Int) (m_3 : Int) (m_4 : List Int) (p_5 : Int) (from_6 : Int) (to_7 : Int) : Option ((Bool × Unit) × (Unit)) :=
  (impl_ValidMatrix.F ((m_1, (m_2, (m_3, m_4))), ())).bind fun r8 =>
    if (r8.1.1 : Bool) = true then
      if (m_1 == p_5) = true then
        if (m_2 == to_7) = true then
          some ((m_3 == from_6, ()), ())
        else
          some ((false, ()), ())
      else
        some ((false, ()), ())
    else
      some ((false, ()), ())
theorem impl_isBetween.run (k : Nat) (m_1 : Int) (m_2 : Int) (m_3 : Int) (m_4 : List Int) (p_5 : Int) (from_6 : Int) (to_7 : Int) : runFn impl_isBetween.cfg impl_isBetween.fin impl_isBetween.code (initSt impl_isBetween.sig.ps ((m_1, (m_2, (m_3, m_4))), p_5, from_6, to_7, ()) 29) k = impl_isBetween.T m_1 m_2 m_3 m_4 p_5 from_6 to_7 := by kernel_rfl
theorem impl_isBetween.eq (m_1 : Int) (m_2 : Int) (m_3 : Int) (m_4 : List Int) (p_5 : Int) (from_6 : Int) (to_7 : Int) : impl_isBetween.F ((m_1, (m_2, (m_3, m_4))), p_5, from_6, to_7, ()) = impl_isBetween.T m_1 m_2 m_3 m_4 p_5 from_6 to_7 := (congrArg anyK (funext fun k => impl_isBetween.run k m_1 m_2 m_3 m_4 p_5 from_6 to_7)).trans (anyK_const _)
theorem impl_isBetween.ok : CtxOK Go.Proofs.Tryz.prog impl_isBetween.ctx := ⟨List.forall_mem_nil _, mixed_ok, tab_ok tab_good, List.forall_mem_cons.2 ⟨impl_ValidMatrix.S, List.forall_mem_nil _⟩, List.forall_mem_nil _, List.forall_mem_nil _⟩
theorem impl_isBetween.S : Sound Go.Proofs.Tryz.prog ⟨141, impl_isBetween.sig, impl_isBetween.F⟩ := sound_any (fn := Go.Proofs.Tryz.f141) (code := impl_isBetween.code) (g := impl_isBetween.cfg) (res := [.tmp 8]) Go.Proofs.Tryz.func141 (by kernel_rfl) (by kernel_rfl) impl_isBetween.ok (by kernel_rfl) (by kernel_rfl) (Nat.le_of_ble_eq_true (by kernel_rfl)) (by kernel_rfl)
/-! ### impl_simplicesOf -/
noncomputable def impl_simplicesOf.sig : Sig := ⟨[.val true (.sl (.sl (.int .i64))), .val false (.int .i64)], [(.val false, (.sl (.int .i64)), .deep)]⟩
noncomputable def impl_simplicesOf.ctx : Ctx := ⟨tabOf tabl, [⟨161, impl_size_int64.sig, impl_size_int64.F⟩], [], [], [], []⟩
noncomputable def impl_simplicesOf.cfg : Cfg := ⟨impl_simplicesOf.ctx, [], [], fun id => match id with | 3 => ([1, 5, 9, 10, 11], [20]) | _ => ([], []), fun _ => []⟩
noncomputable def impl_simplicesOf.code : Code := (Go.Proofs.Tryz.f163).body.getD .skip
noncomputable def impl_simplicesOf.fin := finK impl_simplicesOf.ctx impl_simplicesOf.sig [.tmp 4]
noncomputable def impl_simplicesOf.F (d : List (List Int) × Int × Unit) : Option ((List Int × Unit) × (Unit)) := anyK (runFn impl_simplicesOf.cfg impl_simplicesOf.fin impl_simplicesOf.code (initSt impl_simplicesOf.sig.ps d 27))
noncomputable def impl_simplicesOf.l3 (k : Nat) (i3 : Int) (x4 : List (List Int)) (i5 : Int) (i6 : Int) (x7 : List Int) : Option ((List Int × Unit) × (Unit)) :=
  Go.Vm.runT impl_simplicesOf.cfg impl_simplicesOf.fin k [.inLoop (sub [1, 1, 0, 1, 0, 0] impl_simplicesOf.code), .inBlock 0, .code (sub [1, 1, 1] impl_simplicesOf.code)]
    ⟨[.dead, .val false [⟨(.int .i64), .sh, i3⟩], .dead, .dead, .dead, .view 20 (.root 0) 1 false, .dead, .dead, .dead, .val false [⟨(.sl (.sl (.int .i64))), .sh, x4⟩], .val false [⟨(.int .i64), .sh, i5⟩], .val false [⟨(.int .i64), .sh, i6⟩]] ++ deads 15, [(20, ⟨false, [⟨(.sl (.int .i64)), .deep, x7⟩]⟩)]⟩
theorem impl_simplicesOf.l3_eq (k : Nat) (i3 : Int) (x4 : List (List Int)) (i5 : Int) (i6 : Int) (x7 : List Int) : impl_simplicesOf.l3 (k + 1) i3 x4 i5 i6 x7 =
  if (decide (i6 < i5)) = true then
    if 0 ≤ i6 ∧ i6 < (x4.length : Int) then
      (impl_size_int64.F (x4.getD i6.toNat ([] : List Int), ())).bind fun r8 =>
        if ((r8.1.1 : Int) == (IntKind.i64.wrap (i3 + (1 : Int)))) = true then
          if x7.length + ([i6] : List Int).length ≤ bigA then
            impl_simplicesOf.l3 k i3 x4 i5 (IntKind.i64.wrap (i6 + (1 : Int))) (x7 ++ ([i6]))
          else
            none
        else
          impl_simplicesOf.l3 k i3 x4 i5 (IntKind.i64.wrap (i6 + (1 : Int))) x7
    else
      none
  else
    some ((x7, ()), ()) := by kernel_rfl
noncomputable def impl_simplicesOf.T (k : Nat) (c_1 : List (List Int)) (dimension_2 : Int) : Option ((List Int × Unit) × (Unit)) :=
  impl_simplicesOf.l3 k dimension_2 c_1 (c_1.length : Int) (0 : Int) ([])
theorem impl_simplicesOf.run (k : Nat) (c_1 : List (List Int)) (dimension_2 : Int) : runFn impl_simplicesOf.cfg impl_simplicesOf.fin impl_simplicesOf.code (initSt impl_simplicesOf.sig.ps (c_1, dimension_2, ()) 27) k = impl_simplicesOf.T k c_1 dimension_2 := by kernel_rfl
theorem impl_simplicesOf.of (c_1 : List (List Int)) (dimension_2 : Int) {r : (List Int × Unit) × (Unit)} (h : Ev (fun k => impl_simplicesOf.T k c_1 dimension_2) r) : impl_simplicesOf.F (c_1, dimension_2, ()) = some r := Ev.run (fun k => impl_simplicesOf.run k c_1 dimension_2) h
theorem impl_simplicesOf.ok : CtxOK Go.Proofs.Tryz.prog impl_simplicesOf.ctx := ⟨List.forall_mem_nil _, mixed_ok, tab_ok tab_good, List.forall_mem_cons.2 ⟨impl_size_int64.S, List.forall_mem_nil _⟩, List.forall_mem_nil _, List.forall_mem_nil _⟩
theorem impl_simplicesOf.S : Sound Go.Proofs.Tryz.prog ⟨163, impl_simplicesOf.sig, impl_simplicesOf.F⟩ := sound_any (fn := Go.Proofs.Tryz.f163) (code := impl_simplicesOf.code) (g := impl_simplicesOf.cfg) (res := [.tmp 4]) Go.Proofs.Tryz.func163 (by kernel_rfl) (by kernel_rfl) impl_simplicesOf.ok (by kernel_rfl) (by kernel_rfl) (Nat.le_of_ble_eq_true (by kernel_rfl)) (by kernel_rfl)
/-! ### impl_stalkSum -/
noncomputable def impl_stalkSum.sig : Sig := ⟨[.val true TSheaf, .val false (.int .i64)], [(.val false, (.int .i64), .deep)]⟩
noncomputable def impl_stalkSum.ctx : Ctx := ⟨tabOf tabl, [⟨163, impl_simplicesOf.sig, impl_simplicesOf.F⟩], [], [], [], []⟩
noncomputable def impl_stalkSum.cfg : Cfg := ⟨impl_stalkSum.ctx, [], [], fun id => match id with | 3 => ([2, 5, 11, 12, 13], [8, 44]) | _ => ([], []), fun _ => []⟩
noncomputable def impl_stalkSum.code : Code := (Go.Proofs.Tryz.f87).body.getD .skip
noncomputable def impl_stalkSum.fin := finK impl_stalkSum.ctx impl_stalkSum.sig [.tmp 4]
noncomputable def impl_stalkSum.F (d : (List (List Int) × Int × List Int × List (Int × Int × Int × List Int)) × Int × Unit) : Option ((Int × Unit) × (Unit)) := anyK (runFn impl_stalkSum.cfg impl_stalkSum.fin impl_stalkSum.code (initSt impl_stalkSum.sig.ps d 26))
noncomputable def impl_stalkSum.l3 (k : Nat) (i7 : Int) (i8 : Int) (i9 : Int) (x10 : List (List Int)) (i11 : Int) (x12 : List Int) (x13 : List (Int × Int × Int × List Int)) (x14 : List Int) : Option ((Int × Unit) × (Unit)) :=
  Go.Vm.runT impl_stalkSum.cfg impl_stalkSum.fin k [.inLoop (sub [1, 1, 0, 1, 0, 0] impl_stalkSum.code), .inBlock 0, .code (sub [1, 1, 1] impl_stalkSum.code)]
    ⟨[.dead, .dead, .ref 8 (.root 0), .dead, .dead, .val false [⟨(.int .i64), .sh, i7⟩], .dead, .dead, .dead, .dead, .dead, .view 44 (.root 0) 1 false, .val false [⟨(.int .i64), .sh, i8⟩], .val false [⟨(.int .i64), .sh, i9⟩]] ++ deads 12, [(8, ⟨true, [⟨(.sl (.sl (.int .i64))), .sh, x10⟩, ⟨(.int .i64), .sh, i11⟩, ⟨(.sl (.int .i64)), .sh, x12⟩, ⟨(.sl TMatrix), .sh, x13⟩]⟩), (44, ⟨false, [⟨(.sl (.int .i64)), .deep, x14⟩]⟩)]⟩
theorem impl_stalkSum.l3_eq (k : Nat) (i7 : Int) (i8 : Int) (i9 : Int) (x10 : List (List Int)) (i11 : Int) (x12 : List Int) (x13 : List (Int × Int × Int × List Int)) (x14 : List Int) : impl_stalkSum.l3 (k + 1) i7 i8 i9 x10 i11 x12 x13 x14 =
  if (decide (i9 < i8)) = true then
    if 0 ≤ i9 ∧ i9 < (x14.length : Int) then
      if 0 ≤ (x14.getD i9.toNat 0 : Int) ∧ (x14.getD i9.toNat 0 : Int) < (x12.length : Int) then
        impl_stalkSum.l3 k (IntKind.i64.wrap (i7 + (x12.getD (x14.getD i9.toNat 0 : Int).toNat 0))) i8 (IntKind.i64.wrap (i9 + (1 : Int))) x10 i11 x12 x13 x14
      else
        none
    else
      none
  else
    some ((i7, ()), ()) := by kernel_rfl
noncomputable def impl_stalkSum.T (k : Nat) (s_1 : List (List Int)) (s_2 : Int) (s_3 : List Int) (s_4 : List (Int × Int × Int × List Int)) (k_5 : Int) : Option ((Int × Unit) × (Unit)) :=
  (impl_simplicesOf.F (s_1, k_5, ())).bind fun r6 =>
    impl_stalkSum.l3 k (0 : Int) (r6.1.1.length : Int) (0 : Int) s_1 s_2 s_3 s_4 r6.1.1
theorem impl_stalkSum.run (k : Nat) (s_1 : List (List Int)) (s_2 : Int) (s_3 : List Int) (s_4 : List (Int × Int × Int × List Int)) (k_5 : Int) : runFn impl_stalkSum.cfg impl_stalkSum.fin impl_stalkSum.code (initSt impl_stalkSum.sig.ps ((s_1, (s_2, (s_3, s_4))), k_5, ()) 26) k = impl_stalkSum.T k s_1 s_2 s_3 s_4 k_5 := by kernel_rfl
theorem impl_stalkSum.of (s_1 : List (List Int)) (s_2 : Int) (s_3 : List Int) (s_4 : List (Int × Int × Int × List Int)) (k_5 : Int) {r : (Int × Unit) × (Unit)} (h : Ev (fun k => impl_stalkSum.T k s_1 s_2 s_3 s_4 k_5) r) : impl_stalkSum.F ((s_1, (s_2, (s_3, s_4))), k_5, ()) = some r := Ev.run (fun k => impl_stalkSum.run k s_1 s_2 s_3 s_4 k_5) h
theorem impl_stalkSum.ok : CtxOK Go.Proofs.Tryz.prog impl_stalkSum.ctx := ⟨List.forall_mem_nil _, mixed_ok, tab_ok tab_good, List.forall_mem_cons.2 ⟨impl_simplicesOf.S, List.forall_mem_nil _⟩, List.forall_mem_nil _, List.forall_mem_nil _⟩
theorem impl_stalkSum.S : Sound Go.Proofs.Tryz.prog ⟨87, impl_stalkSum.sig, impl_stalkSum.F⟩ := sound_any (fn := Go.Proofs.Tryz.f87) (code := impl_stalkSum.code) (g := impl_stalkSum.cfg) (res := [.tmp 4]) Go.Proofs.Tryz.func87 (by kernel_rfl) (by kernel_rfl) impl_stalkSum.ok (by kernel_rfl) (by kernel_rfl) (Nat.le_of_ble_eq_true (by kernel_rfl)) (by kernel_rfl)
/-! ### impl_areStalks_1 -/
noncomputable def impl_areStalks_1.sig : Sig := ⟨[.val false (.int .i64)], [(.val false, .bool, .deep)]⟩
noncomputable def impl_areStalks_1.ctx : Ctx := ⟨tabOf tabl, [⟨160, impl_within.sig, impl_within.F⟩], [], [], [], []⟩
noncomputable def impl_areStalks_1.cfg : Cfg := ⟨impl_areStalks_1.ctx, [], [], fun _ => ([], []), fun _ => []⟩
noncomputable def impl_areStalks_1.code : Code := (Go.Proofs.Tryz.f236).body.getD .skip
noncomputable def impl_areStalks_1.fin := finK impl_areStalks_1.ctx impl_areStalks_1.sig [.tmp 2]
noncomputable def impl_areStalks_1.F (d : Int × Unit) : Option ((Bool × Unit) × (Unit)) := anyK (runFn impl_areStalks_1.cfg impl_areStalks_1.fin impl_areStalks_1.code (initSt impl_areStalks_1.sig.ps d 6))
noncomputable def impl_areStalks_1.T (n_1 : Int) : Option ((Bool × Unit) × (Unit)) :=
  (impl_within.F (n_1, (0 : Int), (3 : Int), ())).bind fun r2 =>
    some ((!(r2.1.1 : Bool), ()), ())
theorem impl_areStalks_1.run (k : Nat) (n_1 : Int) : runFn impl_areStalks_1.cfg impl_areStalks_1.fin impl_areStalks_1.code (initSt impl_areStalks_1.sig.ps (n_1, ()) 6) k = impl_areStalks_1.T n_1 := by kernel_rfl
theorem impl_areStalks_1.eq (n_1 : Int) : impl_areStalks_1.F (n_1, ()) = impl_areStalks_1.T n_1 := (congrArg anyK (funext fun k => impl_areStalks_1.run k n_1)).trans (anyK_const _)
theorem impl_areStalks_1.ok : CtxOK Go.Proofs.Tryz.prog impl_areStalks_1.ctx := ⟨List.forall_mem_nil _, mixed_ok, tab_ok tab_good, List.forall_mem_cons.2 ⟨impl_within.S, List.forall_mem_nil _⟩, List.forall_mem_nil _, List.forall_mem_nil _⟩
theorem impl_areStalks_1.S : Sound Go.Proofs.Tryz.prog ⟨236, impl_areStalks_1.sig, impl_areStalks_1.F⟩ := sound_any (fn := Go.Proofs.Tryz.f236) (code := impl_areStalks_1.code) (g := impl_areStalks_1.cfg) (res := [.tmp 2]) Go.Proofs.Tryz.func236 (by kernel_rfl) (by kernel_rfl) impl_areStalks_1.ok (by kernel_rfl) (by kernel_rfl) (Nat.le_of_ble_eq_true (by kernel_rfl)) (by kernel_rfl)
noncomputable def impl_areStalks_1.cloG (y : Unit) (d : Int × Unit) : Option (Bool × Unit) := (impl_areStalks_1.F (joinIns [] [(false, (.int .i64))] d y)).map (·.1)
noncomputable def impl_areStalks_1.clo : Clo := ⟨236, ⟨[(false, (.int .i64))], [(.val false, .bool, .deep)]⟩, [], impl_areStalks_1.cloG⟩
theorem impl_areStalks_1.cloS : SoundClo Go.Proofs.Tryz.prog impl_areStalks_1.clo := sound_clo (s := ⟨[(false, (.int .i64))], [(.val false, .bool, .deep)]⟩) (caps := []) rfl impl_areStalks_1.S
/-! ### impl_areStalks -/
noncomputable def impl_areStalks.sig : Sig := ⟨[.val true (.sl (.sl (.int .i64))), .val false (.sl (.int .i64))], [(.val false, .bool, .deep)]⟩
noncomputable def impl_areStalks.ctx : Ctx := ⟨tabOf tabl, [⟨87, impl_stalkSum.sig, impl_stalkSum.F⟩, ⟨212, slices_ContainsFunc_Lint64_int64.sig, slices_ContainsFunc_Lint64_int64.F⟩], [impl_areStalks_1.clo], [], [], []⟩
noncomputable def impl_areStalks.cfg : Cfg := ⟨impl_areStalks.ctx, [], [], fun id => match id with | 4 => ([1, 2, 16], [8]) | _ => ([], []), fun _ => []⟩
noncomputable def impl_areStalks.code : Code := (Go.Proofs.Tryz.f198).body.getD .skip
noncomputable def impl_areStalks.fin := finK impl_areStalks.ctx impl_areStalks.sig [.tmp 4]
noncomputable def impl_areStalks.F (d : List (List Int) × List Int × Unit) : Option ((Bool × Unit) × (Unit)) := anyK (runFn impl_areStalks.cfg impl_areStalks.fin impl_areStalks.code (initSt impl_areStalks.sig.ps d 26))
noncomputable def impl_areStalks.l4 (k : Nat) (x4 : List Int) (i5 : Int) (x6 : List (List Int)) : Option ((Bool × Unit) × (Unit)) :=
  Go.Vm.runT impl_areStalks.cfg impl_areStalks.fin k [.inLoop (sub [1, 1, 0, 1, 0, 0] impl_areStalks.code), .inBlock 0, .code (sub [1, 1, 1] impl_areStalks.code)]
    ⟨[.dead, .val false [⟨(.sl (.int .i64)), .sh, x4⟩], .ref 8 (.root 0), .dead, .dead, .dead, .dead, .dead, .dead, .dead, .dead, .dead, .dead, .dead, .dead, .dead, .val false [⟨(.int .i64), .sh, i5⟩]] ++ deads 9, [(8, ⟨true, [⟨(.sl (.sl (.int .i64))), .sh, x6⟩]⟩)]⟩
theorem impl_areStalks.l4_eq (k : Nat) (x4 : List Int) (i5 : Int) (x6 : List (List Int)) : impl_areStalks.l4 (k + 1) x4 i5 x6 =
  if (decide (i5 < (4 : Int))) = true then
    (impl_stalkSum.F ((x6, (0, (x4, []))), i5, ())).bind fun r7 =>
      if (decide ((r7.1.1 : Int) > (32 : Int))) = true then
        some ((false, ()), ())
      else
        impl_areStalks.l4 k x4 (IntKind.i64.wrap (i5 + (1 : Int))) x6
  else
    some ((true, ()), ()) := by kernel_rfl
noncomputable def impl_areStalks.T (k : Nat) (c_1 : List (List Int)) (stalks_2 : List Int) : Option ((Bool × Unit) × (Unit)) :=
  if ((stalks_2.length : Int) != (c_1.length : Int)) = true then
    some ((false, ()), ())
  else
    (slices_ContainsFunc_Lint64_int64.F (stalks_2, impl_areStalks_1.cloG (()), ())).bind fun r3 =>
      if (r3.1.1 : Bool) = true then
        some ((false, ()), ())
      else
        impl_areStalks.l4 k stalks_2 (0 : Int) c_1
theorem impl_areStalks.run (k : Nat) (c_1 : List (List Int)) (stalks_2 : List Int) : runFn impl_areStalks.cfg impl_areStalks.fin impl_areStalks.code (initSt impl_areStalks.sig.ps (c_1, stalks_2, ()) 26) k = impl_areStalks.T k c_1 stalks_2 := by kernel_rfl
theorem impl_areStalks.of (c_1 : List (List Int)) (stalks_2 : List Int) {r : (Bool × Unit) × (Unit)} (h : Ev (fun k => impl_areStalks.T k c_1 stalks_2) r) : impl_areStalks.F (c_1, stalks_2, ()) = some r := Ev.run (fun k => impl_areStalks.run k c_1 stalks_2) h
theorem impl_areStalks.ok : CtxOK Go.Proofs.Tryz.prog impl_areStalks.ctx := ⟨List.forall_mem_nil _, mixed_ok, tab_ok tab_good, List.forall_mem_cons.2 ⟨impl_stalkSum.S, List.forall_mem_cons.2 ⟨slices_ContainsFunc_Lint64_int64.S, List.forall_mem_nil _⟩⟩, List.forall_mem_cons.2 ⟨impl_areStalks_1.cloS, List.forall_mem_nil _⟩, List.forall_mem_nil _⟩
theorem impl_areStalks.S : Sound Go.Proofs.Tryz.prog ⟨198, impl_areStalks.sig, impl_areStalks.F⟩ := sound_any (fn := Go.Proofs.Tryz.f198) (code := impl_areStalks.code) (g := impl_areStalks.cfg) (res := [.tmp 4]) Go.Proofs.Tryz.func198 (by kernel_rfl) (by kernel_rfl) impl_areStalks.ok (by kernel_rfl) (by kernel_rfl) (Nat.le_of_ble_eq_true (by kernel_rfl)) (by kernel_rfl)
/-! ### impl_ValidSheaf -/
noncomputable def impl_ValidSheaf.sig : Sig := ⟨[.val true TSheaf], [(.val false, .bool, .deep)]⟩
noncomputable def impl_ValidSheaf.ctx : Ctx := ⟨tabOf tabl, [⟨84, impl_ValidComplex.sig, impl_ValidComplex.F⟩, ⟨109, impl_arrows.sig, impl_arrows.F⟩, ⟨141, impl_isBetween.sig, impl_isBetween.F⟩, ⟨196, impl_ValidPrime.sig, impl_ValidPrime.F⟩, ⟨198, impl_areStalks.sig, impl_areStalks.F⟩], [], [], [], []⟩
noncomputable def impl_ValidSheaf.cfg : Cfg := ⟨impl_ValidSheaf.ctx, [], [], fun id => match id with | 5 => ([1, 3, 27, 28, 29], [4, 12]) | _ => ([], []), fun _ => []⟩
noncomputable def impl_ValidSheaf.code : Code := (Go.Proofs.Tryz.f129).body.getD .skip
noncomputable def impl_ValidSheaf.fin := finK impl_ValidSheaf.ctx impl_ValidSheaf.sig [.tmp 2]
noncomputable def impl_ValidSheaf.F (d : (List (List Int) × Int × List Int × List (Int × Int × Int × List Int)) × Unit) : Option ((Bool × Unit) × (Unit)) := anyK (runFn impl_ValidSheaf.cfg impl_ValidSheaf.fin impl_ValidSheaf.code (initSt impl_ValidSheaf.sig.ps d 69))
noncomputable def impl_ValidSheaf.l5 (k : Nat) (i9 : Int) (i10 : Int) (x11 : List (List Int)) (i12 : Int) (x13 : List Int) (x14 : List (Int × Int × Int × List Int)) (x15 : List (Int × Int × Int)) : Option ((Bool × Unit) × (Unit)) :=
  Go.Vm.runT impl_ValidSheaf.cfg impl_ValidSheaf.fin k [.inLoop (sub [1, 1, 1, 0, 1, 0, 0] impl_ValidSheaf.code), .inBlock 0, .code (sub [1, 1, 1, 1] impl_ValidSheaf.code)]
    ⟨[.dead, .ref 4 (.root 0), .dead, .view 12 (.root 0) 1 false, .dead, .dead, .dead, .dead, .dead, .dead, .dead, .dead, .dead, .dead, .dead, .dead, .dead, .dead, .dead, .dead, .dead, .dead, .dead, .dead, .dead, .dead, .dead, .view 12 (.root 0) 1 false, .val false [⟨(.int .i64), .sh, i9⟩], .val false [⟨(.int .i64), .sh, i10⟩]] ++ deads 39, [(4, ⟨true, [⟨(.sl (.sl (.int .i64))), .sh, x11⟩, ⟨(.int .i64), .sh, i12⟩, ⟨(.sl (.int .i64)), .sh, x13⟩, ⟨(.sl TMatrix), .sh, x14⟩]⟩), (12, ⟨false, [⟨(.sl TEdge), .deep, x15⟩]⟩)]⟩
theorem impl_ValidSheaf.l5_eq (k : Nat) (i9 : Int) (i10 : Int) (x11 : List (List Int)) (i12 : Int) (x13 : List Int) (x14 : List (Int × Int × Int × List Int)) (x15 : List (Int × Int × Int)) : impl_ValidSheaf.l5 (k + 1) i9 i10 x11 i12 x13 x14 x15 =
  if (decide (i10 < i9)) = true then
    if 0 ≤ i10 ∧ i10 < (x15.length : Int) then
      if (decide (i10 ≥ (x14.length : Int))) = true then
        some ((false, ()), ())
      else
        if 0 ≤ i10 ∧ i10 < (x14.length : Int) then
          if 0 ≤ (((x15.getD i10.toNat (0, 0, 0)).2).2 : Int) ∧ (((x15.getD i10.toNat (0, 0, 0)).2).2 : Int) < (x13.length : Int) then
            if 0 ≤ ((x15.getD i10.toNat (0, 0, 0)).1 : Int) ∧ ((x15.getD i10.toNat (0, 0, 0)).1 : Int) < (x13.length : Int) then
              (impl_isBetween.F (x14.getD i10.toNat (0, 0, 0, ([] : List Int)), i12, x13.getD (((x15.getD i10.toNat (0, 0, 0)).2).2 : Int).toNat 0, x13.getD ((x15.getD i10.toNat (0, 0, 0)).1 : Int).toNat 0, ())).bind fun r16 =>
                if (!(r16.1.1 : Bool)) = true then
                  some ((false, ()), ())
                else
                  impl_ValidSheaf.l5 k i9 (IntKind.i64.wrap (i10 + (1 : Int))) x11 i12 x13 x14 x15
            else
              none
          else
            none
        else
          none
    else
      none
  else
    some (((x15.length : Int) == (x14.length : Int), ()), ()) := by kernel_rfl
noncomputable def impl_ValidSheaf.T (k : Nat) (toArray_1 : List (List Int)) (toArray_2 : Int) (toArray_3 : List Int) (toArray_4 : List (Int × Int × Int × List Int)) : Option ((Bool × Unit) × (Unit)) :=
  (impl_ValidComplex.F (toArray_1, ())).bind fun r5 =>
    if (!(r5.1.1 : Bool)) = true then
      some ((false, ()), ())
    else
      (impl_ValidPrime.F (toArray_2, ())).bind fun r6 =>
        if (!(r6.1.1 : Bool)) = true then
          some ((false, ()), ())
        else
          (impl_areStalks.F (toArray_1, toArray_3, ())).bind fun r7 =>
            if (!(r7.1.1 : Bool)) = true then
              some ((false, ()), ())
            else
              (impl_arrows.F (toArray_1, ())).bind fun r8 =>
                impl_ValidSheaf.l5 k (r8.1.1.length : Int) (0 : Int) toArray_1 toArray_2 toArray_3 toArray_4 r8.1.1
theorem impl_ValidSheaf.run (k : Nat) (toArray_1 : List (List Int)) (toArray_2 : Int) (toArray_3 : List Int) (toArray_4 : List (Int × Int × Int × List Int)) : runFn impl_ValidSheaf.cfg impl_ValidSheaf.fin impl_ValidSheaf.code (initSt impl_ValidSheaf.sig.ps ((toArray_1, (toArray_2, (toArray_3, toArray_4))), ()) 69) k = impl_ValidSheaf.T k toArray_1 toArray_2 toArray_3 toArray_4 := by kernel_rfl
theorem impl_ValidSheaf.of (toArray_1 : List (List Int)) (toArray_2 : Int) (toArray_3 : List Int) (toArray_4 : List (Int × Int × Int × List Int)) {r : (Bool × Unit) × (Unit)} (h : Ev (fun k => impl_ValidSheaf.T k toArray_1 toArray_2 toArray_3 toArray_4) r) : impl_ValidSheaf.F ((toArray_1, (toArray_2, (toArray_3, toArray_4))), ()) = some r := Ev.run (fun k => impl_ValidSheaf.run k toArray_1 toArray_2 toArray_3 toArray_4) h
theorem impl_ValidSheaf.ok : CtxOK Go.Proofs.Tryz.prog impl_ValidSheaf.ctx := ⟨List.forall_mem_nil _, mixed_ok, tab_ok tab_good, List.forall_mem_cons.2 ⟨impl_ValidComplex.S, List.forall_mem_cons.2 ⟨impl_arrows.S, List.forall_mem_cons.2 ⟨impl_isBetween.S, List.forall_mem_cons.2 ⟨impl_ValidPrime.S, List.forall_mem_cons.2 ⟨impl_areStalks.S, List.forall_mem_nil _⟩⟩⟩⟩⟩, List.forall_mem_nil _, List.forall_mem_nil _⟩
theorem impl_ValidSheaf.S : Sound Go.Proofs.Tryz.prog ⟨129, impl_ValidSheaf.sig, impl_ValidSheaf.F⟩ := sound_any (fn := Go.Proofs.Tryz.f129) (code := impl_ValidSheaf.code) (g := impl_ValidSheaf.cfg) (res := [.tmp 2]) Go.Proofs.Tryz.func129 (by kernel_rfl) (by kernel_rfl) impl_ValidSheaf.ok (by kernel_rfl) (by kernel_rfl) (Nat.le_of_ble_eq_true (by kernel_rfl)) (by kernel_rfl)
/-! ### impl_filled -/
noncomputable def impl_filled.sig : Sig := ⟨[.val false (.int .i64), .val false (.int .i64), .val false (.int .i64), .fnx ⟨[(false, (.int .i64)), (false, (.int .i64))], [(.val false, (.int .i64), .deep)]⟩], [(.val true, TMatrix, .deep)]⟩
noncomputable def impl_filled.ctx : Ctx := ⟨tabOf tabl, [], [], [], [], []⟩
noncomputable def impl_filled.cfg : Cfg := ⟨impl_filled.ctx, [], [], fun id => match id with | 3 => ([2, 3, 8, 9, 16, 17], [32, 36]) | 6 => ([2, 3, 8, 9, 10, 16, 17, 20, 21], [32, 36]) | _ => ([], []), fun _ => []⟩
noncomputable def impl_filled.code : Code := (Go.Proofs.Tryz.f144).body.getD .skip
noncomputable def impl_filled.fin := finK impl_filled.ctx impl_filled.sig [.cell 8 65]
noncomputable def impl_filled.F (d : Int × Int × Int × ((Int × Int × Unit) → Option (Int × Unit)) × Unit) : Option (((Int × Int × Int × List Int) × Unit) × (Unit)) := anyK (runFn impl_filled.cfg impl_filled.fin impl_filled.code (initSt impl_filled.sig.ps d 36))
noncomputable def impl_filled.l3 (k : Nat) (i5 : Int) (f6 : (Int × Int × Unit) → Option (Int × Unit)) (i7 : Int) (i8 : Int) (i9 : Int) (i10 : Int) (i11 : Int) (x12 : List Int) (i13 : Int) (i14 : Int) (i15 : Int) (x16 : List Int) : Option (((Int × Int × Int × List Int) × Unit) × (Unit)) :=
  Go.Vm.runT impl_filled.cfg impl_filled.fin k [.inLoop (sub [1, 1, 0, 1, 0, 0] impl_filled.code), .inBlock 0, .code (sub [1, 1, 1] impl_filled.code)]
    ⟨[.dead, .dead, .val false [⟨(.int .i64), .sh, i5⟩], .fnx ⟨[(false, (.int .i64)), (false, (.int .i64))], [(.val false, (.int .i64), .deep)]⟩ f6, .dead, .dead, .dead, .dead, .ref 32 (.root 0), .ref 36 (.root 0), .dead, .dead, .dead, .dead, .dead, .dead, .val false [⟨(.int .i64), .sh, i7⟩], .val false [⟨(.int .i64), .sh, i8⟩]] ++ deads 18, [(32, ⟨true, [⟨(.int .i64), .sh, i9⟩, ⟨(.int .i64), .sh, i10⟩, ⟨(.int .i64), .sh, i11⟩, ⟨(.sl (.int .i64)), .deep, x12⟩]⟩), (36, ⟨true, [⟨(.int .i64), .sh, i13⟩, ⟨(.int .i64), .sh, i14⟩, ⟨(.int .i64), .sh, i15⟩, ⟨(.sl (.int .i64)), .deep, x16⟩]⟩)]⟩
noncomputable def impl_filled.l6 (k : Nat) (i17 : Int) (f18 : (Int × Int × Unit) → Option (Int × Unit)) (i19 : Int) (i20 : Int) (i21 : Int) (i22 : Int) (i23 : Int) (i24 : Int) (i25 : Int) (i26 : Int) (x27 : List Int) (i28 : Int) (i29 : Int) (i30 : Int) (x31 : List Int) : Option (((Int × Int × Int × List Int) × Unit) × (Unit)) :=
  Go.Vm.runT impl_filled.cfg impl_filled.fin k [.inLoop (sub [1, 1, 0, 1, 0, 0, 1, 1, 0, 0, 1, 1, 0, 0] impl_filled.code), .inBlock 2, .inBlock 1, .code (sub [1, 1, 0, 1, 0, 0, 1, 1, 1] impl_filled.code), .inLoop (sub [1, 1, 0, 1, 0, 0] impl_filled.code), .inBlock 0, .code (sub [1, 1, 1] impl_filled.code)]
    ⟨[.dead, .dead, .val false [⟨(.int .i64), .sh, i17⟩], .fnx ⟨[(false, (.int .i64)), (false, (.int .i64))], [(.val false, (.int .i64), .deep)]⟩ f18, .dead, .dead, .dead, .dead, .ref 32 (.root 0), .ref 36 (.root 0), .val false [⟨(.int .i64), .sh, i19⟩], .dead, .dead, .dead, .dead, .dead, .val false [⟨(.int .i64), .sh, i20⟩], .val false [⟨(.int .i64), .sh, i21⟩], .dead, .dead, .val false [⟨(.int .i64), .sh, i22⟩], .val false [⟨(.int .i64), .sh, i23⟩]] ++ deads 14, [(32, ⟨true, [⟨(.int .i64), .sh, i24⟩, ⟨(.int .i64), .sh, i25⟩, ⟨(.int .i64), .sh, i26⟩, ⟨(.sl (.int .i64)), .deep, x27⟩]⟩), (36, ⟨true, [⟨(.int .i64), .sh, i28⟩, ⟨(.int .i64), .sh, i29⟩, ⟨(.int .i64), .sh, i30⟩, ⟨(.sl (.int .i64)), .deep, x31⟩]⟩)]⟩
theorem impl_filled.l3_eq (k : Nat) (i5 : Int) (f6 : (Int × Int × Unit) → Option (Int × Unit)) (i7 : Int) (i8 : Int) (i9 : Int) (i10 : Int) (i11 : Int) (x12 : List Int) (i13 : Int) (i14 : Int) (i15 : Int) (x16 : List Int) : impl_filled.l3 (k + 1) i5 f6 i7 i8 i9 i10 i11 x12 i13 i14 i15 x16 =
  if (decide (i8 < i7)) = true then
    impl_filled.l6 k i5 f6 i8 i7 i8 i5 (0 : Int) i9 i10 i11 x12 i13 i14 i15 x16
  else
    some (((i13, (i14, (i15, x16))), ()), ()) := by kernel_rfl
theorem impl_filled.l6_eq (k : Nat) (i17 : Int) (f18 : (Int × Int × Unit) → Option (Int × Unit)) (i19 : Int) (i20 : Int) (i21 : Int) (i22 : Int) (i23 : Int) (i24 : Int) (i25 : Int) (i26 : Int) (x27 : List Int) (i28 : Int) (i29 : Int) (i30 : Int) (x31 : List Int) : impl_filled.l6 (k + 1) i17 f18 i19 i20 i21 i22 i23 i24 i25 i26 x27 i28 i29 i30 x31 =
  if (decide (i23 < i22)) = true then
    (f18 (i19, i23, ())).bind fun r32 =>
      if x31.length + ([(r32.1 : Int)] : List Int).length ≤ bigA then
        impl_filled.l6 k i17 f18 i19 i20 i21 i22 (IntKind.i64.wrap (i23 + (1 : Int))) i24 i25 i26 x27 i28 i29 i30 (x31 ++ ([(r32.1 : Int)]))
      else
        none
  else
    impl_filled.l3 k i17 f18 i20 (IntKind.i64.wrap (i21 + (1 : Int))) i24 i25 i26 x27 i28 i29 i30 x31 := by kernel_rfl
noncomputable def impl_filled.T (k : Nat) (p_1 : Int) (rows_2 : Int) (columns_3 : Int) (f_4 : (Int × Int × Unit) → Option (Int × Unit)) : Option (((Int × Int × Int × List Int) × Unit) × (Unit)) :=
  impl_filled.l3 k columns_3 f_4 rows_2 (0 : Int) 0 0 0 ([]) p_1 rows_2 columns_3 ([])
theorem impl_filled.run (k : Nat) (p_1 : Int) (rows_2 : Int) (columns_3 : Int) (f_4 : (Int × Int × Unit) → Option (Int × Unit)) : runFn impl_filled.cfg impl_filled.fin impl_filled.code (initSt impl_filled.sig.ps (p_1, rows_2, columns_3, f_4, ()) 36) k = impl_filled.T k p_1 rows_2 columns_3 f_4 := by kernel_rfl
theorem impl_filled.of (p_1 : Int) (rows_2 : Int) (columns_3 : Int) (f_4 : (Int × Int × Unit) → Option (Int × Unit)) {r : ((Int × Int × Int × List Int) × Unit) × (Unit)} (h : Ev (fun k => impl_filled.T k p_1 rows_2 columns_3 f_4) r) : impl_filled.F (p_1, rows_2, columns_3, f_4, ()) = some r := Ev.run (fun k => impl_filled.run k p_1 rows_2 columns_3 f_4) h
theorem impl_filled.ok : CtxOK Go.Proofs.Tryz.prog impl_filled.ctx := ⟨List.forall_mem_nil _, mixed_ok, tab_ok tab_good, List.forall_mem_nil _, List.forall_mem_nil _, List.forall_mem_nil _⟩
theorem impl_filled.S : Sound Go.Proofs.Tryz.prog ⟨144, impl_filled.sig, impl_filled.F⟩ := sound_any (fn := Go.Proofs.Tryz.f144) (code := impl_filled.code) (g := impl_filled.cfg) (res := [.cell 8 65]) Go.Proofs.Tryz.func144 (by kernel_rfl) (by kernel_rfl) impl_filled.ok (by kernel_rfl) (by kernel_rfl) (Nat.le_of_ble_eq_true (by kernel_rfl)) (by kernel_rfl)
/-! ### impl_Matrix_at -/
noncomputable def impl_Matrix_at.sig : Sig := ⟨[.val true TMatrix, .val false (.int .i64), .val false (.int .i64)], [(.val false, (.int .i64), .deep)]⟩
noncomputable def impl_Matrix_at.ctx : Ctx := ⟨tabOf tabl, [], [], [], [], []⟩
noncomputable def impl_Matrix_at.cfg : Cfg := ⟨impl_Matrix_at.ctx, [], [], fun _ => ([], []), fun _ => []⟩
noncomputable def impl_Matrix_at.code : Code := (Go.Proofs.Tryz.f110).body.getD .skip
noncomputable def impl_Matrix_at.fin := finK impl_Matrix_at.ctx impl_Matrix_at.sig [.tmp 6]
noncomputable def impl_Matrix_at.F (d : (Int × Int × Int × List Int) × Int × Int × Unit) : Option ((Int × Unit) × (Unit)) := anyK (runFn impl_Matrix_at.cfg impl_Matrix_at.fin impl_Matrix_at.code (initSt impl_Matrix_at.sig.ps d 17))
noncomputable def impl_Matrix_at.T (m_1 : Int) (m_2 : Int) (m_3 : Int) (m_4 : List Int) (i_5 : Int) (j_6 : Int) : Option ((Int × Unit) × (Unit)) :=
  if 0 ≤ (IntKind.i64.wrap ((IntKind.i64.wrap (i_5 * m_3)) + j_6)) ∧ (IntKind.i64.wrap ((IntKind.i64.wrap (i_5 * m_3)) + j_6)) < (m_4.length : Int) then
    some (((m_4.getD (IntKind.i64.wrap ((IntKind.i64.wrap (i_5 * m_3)) + j_6)).toNat 0 : Int), ()), ())
  else
    none
theorem impl_Matrix_at.run (k : Nat) (m_1 : Int) (m_2 : Int) (m_3 : Int) (m_4 : List Int) (i_5 : Int) (j_6 : Int) : runFn impl_Matrix_at.cfg impl_Matrix_at.fin impl_Matrix_at.code (initSt impl_Matrix_at.sig.ps ((m_1, (m_2, (m_3, m_4))), i_5, j_6, ()) 17) k = impl_Matrix_at.T m_1 m_2 m_3 m_4 i_5 j_6 := by kernel_rfl
theorem impl_Matrix_at.eq (m_1 : Int) (m_2 : Int) (m_3 : Int) (m_4 : List Int) (i_5 : Int) (j_6 : Int) : impl_Matrix_at.F ((m_1, (m_2, (m_3, m_4))), i_5, j_6, ()) = impl_Matrix_at.T m_1 m_2 m_3 m_4 i_5 j_6 := (congrArg anyK (funext fun k => impl_Matrix_at.run k m_1 m_2 m_3 m_4 i_5 j_6)).trans (anyK_const _)
theorem impl_Matrix_at.ok : CtxOK Go.Proofs.Tryz.prog impl_Matrix_at.ctx := ⟨List.forall_mem_nil _, mixed_ok, tab_ok tab_good, List.forall_mem_nil _, List.forall_mem_nil _, List.forall_mem_nil _⟩
theorem impl_Matrix_at.S : Sound Go.Proofs.Tryz.prog ⟨110, impl_Matrix_at.sig, impl_Matrix_at.F⟩ := sound_any (fn := Go.Proofs.Tryz.f110) (code := impl_Matrix_at.code) (g := impl_Matrix_at.cfg) (res := [.tmp 6]) Go.Proofs.Tryz.func110 (by kernel_rfl) (by kernel_rfl) impl_Matrix_at.ok (by kernel_rfl) (by kernel_rfl) (Nat.le_of_ble_eq_true (by kernel_rfl)) (by kernel_rfl)
/-! ### impl_transpose_1 -/
noncomputable def impl_transpose_1.sig : Sig := ⟨[.val false (.int .i64), .val false (.int .i64), .rptr TMatrix], [(.val false, (.int .i64), .deep)]⟩
noncomputable def impl_transpose_1.ctx : Ctx := ⟨tabOf tabl, [⟨110, impl_Matrix_at.sig, impl_Matrix_at.F⟩], [], [], [], []⟩
noncomputable def impl_transpose_1.cfg : Cfg := ⟨impl_transpose_1.ctx, [], [], fun _ => ([], []), fun _ => []⟩
noncomputable def impl_transpose_1.code : Code := (Go.Proofs.Tryz.f174).body.getD .skip
noncomputable def impl_transpose_1.fin := finK impl_transpose_1.ctx impl_transpose_1.sig [.tmp 5]
noncomputable def impl_transpose_1.F (d : Int × Int × (Int × Int × Int × List Int) × Unit) : Option ((Int × Unit) × (Unit)) := anyK (runFn impl_transpose_1.cfg impl_transpose_1.fin impl_transpose_1.code (initSt impl_transpose_1.sig.ps d 10))
noncomputable def impl_transpose_1.T (i_1 : Int) (j_2 : Int) (a_3 : Int) (a_4 : Int) (a_5 : Int) (a_6 : List Int) : Option ((Int × Unit) × (Unit)) :=
  (impl_Matrix_at.F ((a_3, (a_4, (a_5, a_6))), j_2, i_1, ())).bind fun r7 =>
    some (((r7.1.1 : Int), ()), ())
theorem impl_transpose_1.run (k : Nat) (i_1 : Int) (j_2 : Int) (a_3 : Int) (a_4 : Int) (a_5 : Int) (a_6 : List Int) : runFn impl_transpose_1.cfg impl_transpose_1.fin impl_transpose_1.code (initSt impl_transpose_1.sig.ps (i_1, j_2, (a_3, (a_4, (a_5, a_6))), ()) 10) k = impl_transpose_1.T i_1 j_2 a_3 a_4 a_5 a_6 := by kernel_rfl
theorem impl_transpose_1.eq (i_1 : Int) (j_2 : Int) (a_3 : Int) (a_4 : Int) (a_5 : Int) (a_6 : List Int) : impl_transpose_1.F (i_1, j_2, (a_3, (a_4, (a_5, a_6))), ()) = impl_transpose_1.T i_1 j_2 a_3 a_4 a_5 a_6 := (congrArg anyK (funext fun k => impl_transpose_1.run k i_1 j_2 a_3 a_4 a_5 a_6)).trans (anyK_const _)
theorem impl_transpose_1.ok : CtxOK Go.Proofs.Tryz.prog impl_transpose_1.ctx := ⟨List.forall_mem_nil _, mixed_ok, tab_ok tab_good, List.forall_mem_cons.2 ⟨impl_Matrix_at.S, List.forall_mem_nil _⟩, List.forall_mem_nil _, List.forall_mem_nil _⟩
theorem impl_transpose_1.S : Sound Go.Proofs.Tryz.prog ⟨174, impl_transpose_1.sig, impl_transpose_1.F⟩ := sound_any (fn := Go.Proofs.Tryz.f174) (code := impl_transpose_1.code) (g := impl_transpose_1.cfg) (res := [.tmp 5]) Go.Proofs.Tryz.func174 (by kernel_rfl) (by kernel_rfl) impl_transpose_1.ok (by kernel_rfl) (by kernel_rfl) (Nat.le_of_ble_eq_true (by kernel_rfl)) (by kernel_rfl)
noncomputable def impl_transpose_1.cloG (y : (Int × Int × Int × List Int) × Unit) (d : Int × Int × Unit) : Option (Int × Unit) := (impl_transpose_1.F (joinIns [.rptr TMatrix] [(false, (.int .i64)), (false, (.int .i64))] d y)).map (·.1)
noncomputable def impl_transpose_1.clo : Clo := ⟨174, ⟨[(false, (.int .i64)), (false, (.int .i64))], [(.val false, (.int .i64), .deep)]⟩, [.rptr TMatrix], impl_transpose_1.cloG⟩
theorem impl_transpose_1.cloS : SoundClo Go.Proofs.Tryz.prog impl_transpose_1.clo := sound_clo (s := ⟨[(false, (.int .i64)), (false, (.int .i64))], [(.val false, (.int .i64), .deep)]⟩) (caps := [.rptr TMatrix]) rfl impl_transpose_1.S
/-! ### impl_transpose -/
noncomputable def impl_transpose.sig : Sig := ⟨[.val true TMatrix], [(.val true, TMatrix, .deep)]⟩
noncomputable def impl_transpose.ctx : Ctx := ⟨tabOf tabl, [⟨144, impl_filled.sig, impl_filled.F⟩], [impl_transpose_1.clo], [], [], []⟩
noncomputable def impl_transpose.cfg : Cfg := ⟨impl_transpose.ctx, [], [], fun _ => ([], []), fun _ => []⟩
noncomputable def impl_transpose.code : Code := (Go.Proofs.Tryz.f97).body.getD .skip
noncomputable def impl_transpose.fin := finK impl_transpose.ctx impl_transpose.sig [.cell 2 65]
noncomputable def impl_transpose.F (d : (Int × Int × Int × List Int) × Unit) : Option (((Int × Int × Int × List Int) × Unit) × (Unit)) := anyK (runFn impl_transpose.cfg impl_transpose.fin impl_transpose.code (initSt impl_transpose.sig.ps d 11))
noncomputable def impl_transpose.T (m_1 : Int) (m_2 : Int) (m_3 : Int) (m_4 : List Int) : Option (((Int × Int × Int × List Int) × Unit) × (Unit)) :=
  (impl_filled.F (m_1, m_3, m_2, impl_transpose_1.cloG ((m_1, (m_2, (m_3, m_4))), ()), ())).bind fun r5 =>
    some ((r5.1.1, ()), ())
theorem impl_transpose.run (k : Nat) (m_1 : Int) (m_2 : Int) (m_3 : Int) (m_4 : List Int) : runFn impl_transpose.cfg impl_transpose.fin impl_transpose.code (initSt impl_transpose.sig.ps ((m_1, (m_2, (m_3, m_4))), ()) 11) k = impl_transpose.T m_1 m_2 m_3 m_4 := by kernel_rfl
theorem impl_transpose.eq (m_1 : Int) (m_2 : Int) (m_3 : Int) (m_4 : List Int) : impl_transpose.F ((m_1, (m_2, (m_3, m_4))), ()) = impl_transpose.T m_1 m_2 m_3 m_4 := (congrArg anyK (funext fun k => impl_transpose.run k m_1 m_2 m_3 m_4)).trans (anyK_const _)
theorem impl_transpose.ok : CtxOK Go.Proofs.Tryz.prog impl_transpose.ctx := ⟨List.forall_mem_nil _, mixed_ok, tab_ok tab_good, List.forall_mem_cons.2 ⟨impl_filled.S, List.forall_mem_nil _⟩, List.forall_mem_cons.2 ⟨impl_transpose_1.cloS, List.forall_mem_nil _⟩, List.forall_mem_nil _⟩
theorem impl_transpose.S : Sound Go.Proofs.Tryz.prog ⟨97, impl_transpose.sig, impl_transpose.F⟩ := sound_any (fn := Go.Proofs.Tryz.f97) (code := impl_transpose.code) (g := impl_transpose.cfg) (res := [.cell 2 65]) Go.Proofs.Tryz.func97 (by kernel_rfl) (by kernel_rfl) impl_transpose.ok (by kernel_rfl) (by kernel_rfl) (Nat.le_of_ble_eq_true (by kernel_rfl)) (by kernel_rfl)
/-! ### slices_Clone_Lint64_int64 -/
noncomputable def slices_Clone_Lint64_int64.sig : Sig := ⟨[.val false (.sl (.int .i64))], [(.val false, (.sl (.int .i64)), .deep)]⟩
noncomputable def slices_Clone_Lint64_int64.ctx : Ctx := ⟨tabOf tabl, [], [], [], [], []⟩
noncomputable def slices_Clone_Lint64_int64.cfg : Cfg := ⟨slices_Clone_Lint64_int64.ctx, [], [], fun _ => ([], []), fun _ => []⟩
noncomputable def slices_Clone_Lint64_int64.code : Code := (Go.Proofs.Tryz.f132).body.getD .skip
noncomputable def slices_Clone_Lint64_int64.fin := finK slices_Clone_Lint64_int64.ctx slices_Clone_Lint64_int64.sig [.tmp 2]
noncomputable def slices_Clone_Lint64_int64.F (d : List Int × Unit) : Option ((List Int × Unit) × (Unit)) := anyK (runFn slices_Clone_Lint64_int64.cfg slices_Clone_Lint64_int64.fin slices_Clone_Lint64_int64.code (initSt slices_Clone_Lint64_int64.sig.ps d 8))
noncomputable def slices_Clone_Lint64_int64.T (s_1 : List Int) : Option ((List Int × Unit) × (Unit)) :=
  if 0 < s_1.length then
    if ([] : List Int).length + s_1.length ≤ bigA then
      some ((([] : List Int) ++ s_1, ()), ())
    else
      none
  else
    both (
      some (([], ()), ())
    ) (
      if ([] : List Int).length + s_1.length ≤ bigA then
        some ((([] : List Int) ++ s_1, ()), ())
      else
        none
    )
theorem slices_Clone_Lint64_int64.run (k : Nat) (s_1 : List Int) : runFn slices_Clone_Lint64_int64.cfg slices_Clone_Lint64_int64.fin slices_Clone_Lint64_int64.code (initSt slices_Clone_Lint64_int64.sig.ps (s_1, ()) 8) k = slices_Clone_Lint64_int64.T s_1 := by kernel_rfl
theorem slices_Clone_Lint64_int64.eq (s_1 : List Int) : slices_Clone_Lint64_int64.F (s_1, ()) = slices_Clone_Lint64_int64.T s_1 := (congrArg anyK (funext fun k => slices_Clone_Lint64_int64.run k s_1)).trans (anyK_const _)
theorem slices_Clone_Lint64_int64.ok : CtxOK Go.Proofs.Tryz.prog slices_Clone_Lint64_int64.ctx := ⟨List.forall_mem_nil _, mixed_ok, tab_ok tab_good, List.forall_mem_nil _, List.forall_mem_nil _, List.forall_mem_nil _⟩
theorem slices_Clone_Lint64_int64.S : Sound Go.Proofs.Tryz.prog ⟨132, slices_Clone_Lint64_int64.sig, slices_Clone_Lint64_int64.F⟩ := sound_any (fn := Go.Proofs.Tryz.f132) (code := slices_Clone_Lint64_int64.code) (g := slices_Clone_Lint64_int64.cfg) (res := [.tmp 2]) Go.Proofs.Tryz.func132 (by kernel_rfl) (by kernel_rfl) slices_Clone_Lint64_int64.ok (by kernel_rfl) (by kernel_rfl) (Nat.le_of_ble_eq_true (by kernel_rfl)) (by kernel_rfl)
/-! ### impl_Matrix_row -/
noncomputable def impl_Matrix_row.sig : Sig := ⟨[.val true TMatrix, .val false (.int .i64)], [(.val false, (.sl (.int .i64)), .sh)]⟩
noncomputable def impl_Matrix_row.ctx : Ctx := ⟨tabOf tabl, [], [], [], [], []⟩
noncomputable def impl_Matrix_row.cfg : Cfg := ⟨impl_Matrix_row.ctx, [], [], fun _ => ([], []), fun _ => []⟩
noncomputable def impl_Matrix_row.code : Code := (Go.Proofs.Tryz.f178).body.getD .skip
noncomputable def impl_Matrix_row.fin := finK impl_Matrix_row.ctx impl_Matrix_row.sig [.tmp 4]
noncomputable def impl_Matrix_row.F (d : (Int × Int × Int × List Int) × Int × Unit) : Option ((List Int × Unit) × (Unit)) := anyK (runFn impl_Matrix_row.cfg impl_Matrix_row.fin impl_Matrix_row.code (initSt impl_Matrix_row.sig.ps d 17))
noncomputable def impl_Matrix_row.T (m_1 : Int) (m_2 : Int) (m_3 : Int) (m_4 : List Int) (i_5 : Int) : Option ((List Int × Unit) × (Unit)) :=
  if 0 ≤ (IntKind.i64.wrap (i_5 * m_3)) ∧ (IntKind.i64.wrap (i_5 * m_3)) ≤ (IntKind.i64.wrap ((IntKind.i64.wrap (i_5 + (1 : Int))) * m_3)) ∧ (IntKind.i64.wrap ((IntKind.i64.wrap (i_5 + (1 : Int))) * m_3)) ≤ (m_4.length : Int) then
    some ((cutL m_4 (IntKind.i64.wrap (i_5 * m_3)) (IntKind.i64.wrap ((IntKind.i64.wrap (i_5 + (1 : Int))) * m_3)), ()), ())
  else
    none
theorem impl_Matrix_row.run (k : Nat) (m_1 : Int) (m_2 : Int) (m_3 : Int) (m_4 : List Int) (i_5 : Int) : runFn impl_Matrix_row.cfg impl_Matrix_row.fin impl_Matrix_row.code (initSt impl_Matrix_row.sig.ps ((m_1, (m_2, (m_3, m_4))), i_5, ()) 17) k = impl_Matrix_row.T m_1 m_2 m_3 m_4 i_5 := by kernel_rfl
theorem impl_Matrix_row.eq (m_1 : Int) (m_2 : Int) (m_3 : Int) (m_4 : List Int) (i_5 : Int) : impl_Matrix_row.F ((m_1, (m_2, (m_3, m_4))), i_5, ()) = impl_Matrix_row.T m_1 m_2 m_3 m_4 i_5 := (congrArg anyK (funext fun k => impl_Matrix_row.run k m_1 m_2 m_3 m_4 i_5)).trans (anyK_const _)
theorem impl_Matrix_row.ok : CtxOK Go.Proofs.Tryz.prog impl_Matrix_row.ctx := ⟨List.forall_mem_nil _, mixed_ok, tab_ok tab_good, List.forall_mem_nil _, List.forall_mem_nil _, List.forall_mem_nil _⟩
theorem impl_Matrix_row.S : Sound Go.Proofs.Tryz.prog ⟨178, impl_Matrix_row.sig, impl_Matrix_row.F⟩ := sound_any (fn := Go.Proofs.Tryz.f178) (code := impl_Matrix_row.code) (g := impl_Matrix_row.cfg) (res := [.tmp 4]) Go.Proofs.Tryz.func178 (by kernel_rfl) (by kernel_rfl) impl_Matrix_row.ok (by kernel_rfl) (by kernel_rfl) (Nat.le_of_ble_eq_true (by kernel_rfl)) (by kernel_rfl)
/-! ### impl_rowsOf -/
noncomputable def impl_rowsOf.sig : Sig := ⟨[.val true TMatrix], [(.val false, (.sl (.sl (.int .i64))), .deep)]⟩
noncomputable def impl_rowsOf.ctx : Ctx := ⟨tabOf tabl, [⟨132, slices_Clone_Lint64_int64.sig, slices_Clone_Lint64_int64.F⟩, ⟨178, impl_Matrix_row.sig, impl_Matrix_row.F⟩], [], [], [], []⟩
noncomputable def impl_rowsOf.cfg : Cfg := ⟨impl_rowsOf.ctx, [], [], fun id => match id with | 3 => ([1, 3, 6, 7], [4, 12]) | _ => ([], []), fun _ => []⟩
noncomputable def impl_rowsOf.code : Code := (Go.Proofs.Tryz.f186).body.getD .skip
noncomputable def impl_rowsOf.fin := finK impl_rowsOf.ctx impl_rowsOf.sig [.tmp 2]
noncomputable def impl_rowsOf.F (d : (Int × Int × Int × List Int) × Unit) : Option ((List (List Int) × Unit) × (Unit)) := anyK (runFn impl_rowsOf.cfg impl_rowsOf.fin impl_rowsOf.code (initSt impl_rowsOf.sig.ps d 19))
noncomputable def impl_rowsOf.l3 (k : Nat) (i5 : Int) (i6 : Int) (i7 : Int) (i8 : Int) (i9 : Int) (x10 : List Int) (x11 : List (List Int)) : Option ((List (List Int) × Unit) × (Unit)) :=
  Go.Vm.runT impl_rowsOf.cfg impl_rowsOf.fin k [.inLoop (sub [1, 1, 0, 1, 0, 0] impl_rowsOf.code), .inBlock 0, .code (sub [1, 1, 1] impl_rowsOf.code)]
    ⟨[.dead, .ref 4 (.root 0), .dead, .view 12 (.root 0) 1 false, .dead, .dead, .val false [⟨(.int .i64), .sh, i5⟩], .val false [⟨(.int .i64), .sh, i6⟩]] ++ deads 11, [(4, ⟨true, [⟨(.int .i64), .sh, i7⟩, ⟨(.int .i64), .sh, i8⟩, ⟨(.int .i64), .sh, i9⟩, ⟨(.sl (.int .i64)), .sh, x10⟩]⟩), (12, ⟨false, [⟨(.sl (.sl (.int .i64))), .deep, x11⟩]⟩)]⟩
theorem impl_rowsOf.l3_eq (k : Nat) (i5 : Int) (i6 : Int) (i7 : Int) (i8 : Int) (i9 : Int) (x10 : List Int) (x11 : List (List Int)) : impl_rowsOf.l3 (k + 1) i5 i6 i7 i8 i9 x10 x11 =
  if (decide (i6 < i5)) = true then
    (impl_Matrix_row.F ((i7, (i8, (i9, x10))), i6, ())).bind fun r12 =>
      (slices_Clone_Lint64_int64.F (r12.1.1, ())).bind fun r13 =>
        if x11.length + ([r13.1.1] : List (List Int)).length ≤ bigA then
          impl_rowsOf.l3 k i5 (IntKind.i64.wrap (i6 + (1 : Int))) i7 i8 i9 x10 (x11 ++ ([r13.1.1]))
        else
          none
  else
    some ((x11, ()), ()) := by kernel_rfl
noncomputable def impl_rowsOf.T (k : Nat) (m_1 : Int) (m_2 : Int) (m_3 : Int) (m_4 : List Int) : Option ((List (List Int) × Unit) × (Unit)) :=
  impl_rowsOf.l3 k m_2 (0 : Int) m_1 m_2 m_3 m_4 ([])
theorem impl_rowsOf.run (k : Nat) (m_1 : Int) (m_2 : Int) (m_3 : Int) (m_4 : List Int) : runFn impl_rowsOf.cfg impl_rowsOf.fin impl_rowsOf.code (initSt impl_rowsOf.sig.ps ((m_1, (m_2, (m_3, m_4))), ()) 19) k = impl_rowsOf.T k m_1 m_2 m_3 m_4 := by kernel_rfl
theorem impl_rowsOf.of (m_1 : Int) (m_2 : Int) (m_3 : Int) (m_4 : List Int) {r : (List (List Int) × Unit) × (Unit)} (h : Ev (fun k => impl_rowsOf.T k m_1 m_2 m_3 m_4) r) : impl_rowsOf.F ((m_1, (m_2, (m_3, m_4))), ()) = some r := Ev.run (fun k => impl_rowsOf.run k m_1 m_2 m_3 m_4) h
theorem impl_rowsOf.ok : CtxOK Go.Proofs.Tryz.prog impl_rowsOf.ctx := ⟨List.forall_mem_nil _, mixed_ok, tab_ok tab_good, List.forall_mem_cons.2 ⟨slices_Clone_Lint64_int64.S, List.forall_mem_cons.2 ⟨impl_Matrix_row.S, List.forall_mem_nil _⟩⟩, List.forall_mem_nil _, List.forall_mem_nil _⟩
theorem impl_rowsOf.S : Sound Go.Proofs.Tryz.prog ⟨186, impl_rowsOf.sig, impl_rowsOf.F⟩ := sound_any (fn := Go.Proofs.Tryz.f186) (code := impl_rowsOf.code) (g := impl_rowsOf.cfg) (res := [.tmp 2]) Go.Proofs.Tryz.func186 (by kernel_rfl) (by kernel_rfl) impl_rowsOf.ok (by kernel_rfl) (by kernel_rfl) (Nat.le_of_ble_eq_true (by kernel_rfl)) (by kernel_rfl)
/-! ### impl_columnsOf -/
noncomputable def impl_columnsOf.sig : Sig := ⟨[.val true TMatrix], [(.val false, (.sl (.sl (.int .i64))), .deep)]⟩
noncomputable def impl_columnsOf.ctx : Ctx := ⟨tabOf tabl, [⟨97, impl_transpose.sig, impl_transpose.F⟩, ⟨186, impl_rowsOf.sig, impl_rowsOf.F⟩], [], [], [], []⟩
noncomputable def impl_columnsOf.cfg : Cfg := ⟨impl_columnsOf.ctx, [], [], fun _ => ([], []), fun _ => []⟩
noncomputable def impl_columnsOf.code : Code := (Go.Proofs.Tryz.f123).body.getD .skip
noncomputable def impl_columnsOf.fin := finK impl_columnsOf.ctx impl_columnsOf.sig [.tmp 2]
noncomputable def impl_columnsOf.F (d : (Int × Int × Int × List Int) × Unit) : Option ((List (List Int) × Unit) × (Unit)) := anyK (runFn impl_columnsOf.cfg impl_columnsOf.fin impl_columnsOf.code (initSt impl_columnsOf.sig.ps d 6))
noncomputable def impl_columnsOf.T (m_1 : Int) (m_2 : Int) (m_3 : Int) (m_4 : List Int) : Option ((List (List Int) × Unit) × (Unit)) :=
  (impl_transpose.F ((m_1, (m_2, (m_3, m_4))), ())).bind fun r5 =>
    (impl_rowsOf.F (r5.1.1, ())).bind fun r6 =>
      some ((r6.1.1, ()), ())
theorem impl_columnsOf.run (k : Nat) (m_1 : Int) (m_2 : Int) (m_3 : Int) (m_4 : List Int) : runFn impl_columnsOf.cfg impl_columnsOf.fin impl_columnsOf.code (initSt impl_columnsOf.sig.ps ((m_1, (m_2, (m_3, m_4))), ()) 6) k = impl_columnsOf.T m_1 m_2 m_3 m_4 := by kernel_rfl
theorem impl_columnsOf.eq (m_1 : Int) (m_2 : Int) (m_3 : Int) (m_4 : List Int) : impl_columnsOf.F ((m_1, (m_2, (m_3, m_4))), ()) = impl_columnsOf.T m_1 m_2 m_3 m_4 := (congrArg anyK (funext fun k => impl_columnsOf.run k m_1 m_2 m_3 m_4)).trans (anyK_const _)
theorem impl_columnsOf.ok : CtxOK Go.Proofs.Tryz.prog impl_columnsOf.ctx := ⟨List.forall_mem_nil _, mixed_ok, tab_ok tab_good, List.forall_mem_cons.2 ⟨impl_transpose.S, List.forall_mem_cons.2 ⟨impl_rowsOf.S, List.forall_mem_nil _⟩⟩, List.forall_mem_nil _, List.forall_mem_nil _⟩
theorem impl_columnsOf.S : Sound Go.Proofs.Tryz.prog ⟨123, impl_columnsOf.sig, impl_columnsOf.F⟩ := sound_any (fn := Go.Proofs.Tryz.f123) (code := impl_columnsOf.code) (g := impl_columnsOf.cfg) (res := [.tmp 2]) Go.Proofs.Tryz.func123 (by kernel_rfl) (by kernel_rfl) impl_columnsOf.ok (by kernel_rfl) (by kernel_rfl) (Nat.le_of_ble_eq_true (by kernel_rfl)) (by kernel_rfl)
/-! ### impl_dot -/
noncomputable def impl_dot.sig : Sig := ⟨[.val false (.sl (.int .i64)), .val false (.sl (.int .i64)), .val false (.int .i64)], [(.val false, (.int .i64), .deep)]⟩
noncomputable def impl_dot.ctx : Ctx := ⟨tabOf tabl, [], [], [], [], []⟩
noncomputable def impl_dot.cfg : Cfg := ⟨impl_dot.ctx, [], [], fun id => match id with | 3 => ([0, 1, 2, 7, 10, 11], []) | _ => ([], []), fun _ => []⟩
noncomputable def impl_dot.code : Code := (Go.Proofs.Tryz.f177).body.getD .skip
noncomputable def impl_dot.fin := finK impl_dot.ctx impl_dot.sig [.tmp 6]
noncomputable def impl_dot.F (d : List Int × List Int × Int × Unit) : Option ((Int × Unit) × (Unit)) := anyK (runFn impl_dot.cfg impl_dot.fin impl_dot.code (initSt impl_dot.sig.ps d 29))
noncomputable def impl_dot.l3 (k : Nat) (x4 : List Int) (x5 : List Int) (i6 : Int) (i7 : Int) (i8 : Int) (i9 : Int) : Option ((Int × Unit) × (Unit)) :=
  Go.Vm.runT impl_dot.cfg impl_dot.fin k [.inLoop (sub [1, 1, 0, 1, 0, 0] impl_dot.code), .inBlock 0, .code (sub [1, 1, 1] impl_dot.code)]
    ⟨[.val false [⟨(.sl (.int .i64)), .sh, x4⟩], .val false [⟨(.sl (.int .i64)), .sh, x5⟩], .val false [⟨(.int .i64), .sh, i6⟩], .dead, .dead, .dead, .dead, .val false [⟨(.int .i64), .sh, i7⟩], .dead, .dead, .val false [⟨(.int .i64), .sh, i8⟩], .val false [⟨(.int .i64), .sh, i9⟩]] ++ deads 17, []⟩
theorem impl_dot.l3_eq (k : Nat) (x4 : List Int) (x5 : List Int) (i6 : Int) (i7 : Int) (i8 : Int) (i9 : Int) : impl_dot.l3 (k + 1) x4 x5 i6 i7 i8 i9 =
  if (decide (i9 < i8)) = true then
    if 0 ≤ i9 ∧ i9 < (x4.length : Int) then
      if 0 ≤ i9 ∧ i9 < (x5.length : Int) then
        if i6 = 0 then
          none
        else
          impl_dot.l3 k x4 x5 i6 ((IntKind.i64.wrap (i7 + (IntKind.i64.wrap ((x4.getD i9.toNat 0 : Int) * (x5.getD i9.toNat 0 : Int))))).tmod i6) i8 (IntKind.i64.wrap (i9 + (1 : Int)))
      else
        none
    else
      none
  else
    some ((i7, ()), ()) := by kernel_rfl
noncomputable def impl_dot.T (k : Nat) (a_1 : List Int) (b_2 : List Int) (p_3 : Int) : Option ((Int × Unit) × (Unit)) :=
  impl_dot.l3 k a_1 b_2 p_3 (0 : Int) (a_1.length : Int) (0 : Int)
theorem impl_dot.run (k : Nat) (a_1 : List Int) (b_2 : List Int) (p_3 : Int) : runFn impl_dot.cfg impl_dot.fin impl_dot.code (initSt impl_dot.sig.ps (a_1, b_2, p_3, ()) 29) k = impl_dot.T k a_1 b_2 p_3 := by kernel_rfl
theorem impl_dot.of (a_1 : List Int) (b_2 : List Int) (p_3 : Int) {r : (Int × Unit) × (Unit)} (h : Ev (fun k => impl_dot.T k a_1 b_2 p_3) r) : impl_dot.F (a_1, b_2, p_3, ()) = some r := Ev.run (fun k => impl_dot.run k a_1 b_2 p_3) h
theorem impl_dot.ok : CtxOK Go.Proofs.Tryz.prog impl_dot.ctx := ⟨List.forall_mem_nil _, mixed_ok, tab_ok tab_good, List.forall_mem_nil _, List.forall_mem_nil _, List.forall_mem_nil _⟩
theorem impl_dot.S : Sound Go.Proofs.Tryz.prog ⟨177, impl_dot.sig, impl_dot.F⟩ := sound_any (fn := Go.Proofs.Tryz.f177) (code := impl_dot.code) (g := impl_dot.cfg) (res := [.tmp 6]) Go.Proofs.Tryz.func177 (by kernel_rfl) (by kernel_rfl) impl_dot.ok (by kernel_rfl) (by kernel_rfl) (Nat.le_of_ble_eq_true (by kernel_rfl)) (by kernel_rfl)
/-! ### impl_product_1 -/
noncomputable def impl_product_1.sig : Sig := ⟨[.val false (.int .i64), .val false (.int .i64), .rptr TMatrix, .rptr (.sl (.sl (.int .i64)))], [(.val false, (.int .i64), .deep)]⟩
noncomputable def impl_product_1.ctx : Ctx := ⟨tabOf tabl, [⟨177, impl_dot.sig, impl_dot.F⟩, ⟨178, impl_Matrix_row.sig, impl_Matrix_row.F⟩], [], [], [], []⟩
noncomputable def impl_product_1.cfg : Cfg := ⟨impl_product_1.ctx, [], [], fun _ => ([], []), fun _ => []⟩
noncomputable def impl_product_1.code : Code := (Go.Proofs.Tryz.f176).body.getD .skip
noncomputable def impl_product_1.fin := finK impl_product_1.ctx impl_product_1.sig [.tmp 6]
noncomputable def impl_product_1.F (d : Int × Int × (Int × Int × Int × List Int) × List (List Int) × Unit) : Option ((Int × Unit) × (Unit)) := anyK (runFn impl_product_1.cfg impl_product_1.fin impl_product_1.code (initSt impl_product_1.sig.ps d 17))
noncomputable def impl_product_1.T (i_1 : Int) (j_2 : Int) (a_3 : Int) (a_4 : Int) (a_5 : Int) (a_6 : List Int) (a_7 : List (List Int)) : Option ((Int × Unit) × (Unit)) :=
  (impl_Matrix_row.F ((a_3, (a_4, (a_5, a_6))), i_1, ())).bind fun r8 =>
    if 0 ≤ j_2 ∧ j_2 < (a_7.length : Int) then
      (impl_dot.F (r8.1.1, a_7.getD j_2.toNat ([] : List Int), a_3, ())).bind fun r9 =>
        some (((r9.1.1 : Int), ()), ())
    else
      none
theorem impl_product_1.run (k : Nat) (i_1 : Int) (j_2 : Int) (a_3 : Int) (a_4 : Int) (a_5 : Int) (a_6 : List Int) (a_7 : List (List Int)) : runFn impl_product_1.cfg impl_product_1.fin impl_product_1.code (initSt impl_product_1.sig.ps (i_1, j_2, (a_3, (a_4, (a_5, a_6))), a_7, ()) 17) k = impl_product_1.T i_1 j_2 a_3 a_4 a_5 a_6 a_7 := by kernel_rfl
theorem impl_product_1.eq (i_1 : Int) (j_2 : Int) (a_3 : Int) (a_4 : Int) (a_5 : Int) (a_6 : List Int) (a_7 : List (List Int)) : impl_product_1.F (i_1, j_2, (a_3, (a_4, (a_5, a_6))), a_7, ()) = impl_product_1.T i_1 j_2 a_3 a_4 a_5 a_6 a_7 := (congrArg anyK (funext fun k => impl_product_1.run k i_1 j_2 a_3 a_4 a_5 a_6 a_7)).trans (anyK_const _)
theorem impl_product_1.ok : CtxOK Go.Proofs.Tryz.prog impl_product_1.ctx := ⟨List.forall_mem_nil _, mixed_ok, tab_ok tab_good, List.forall_mem_cons.2 ⟨impl_dot.S, List.forall_mem_cons.2 ⟨impl_Matrix_row.S, List.forall_mem_nil _⟩⟩, List.forall_mem_nil _, List.forall_mem_nil _⟩
theorem impl_product_1.S : Sound Go.Proofs.Tryz.prog ⟨176, impl_product_1.sig, impl_product_1.F⟩ := sound_any (fn := Go.Proofs.Tryz.f176) (code := impl_product_1.code) (g := impl_product_1.cfg) (res := [.tmp 6]) Go.Proofs.Tryz.func176 (by kernel_rfl) (by kernel_rfl) impl_product_1.ok (by kernel_rfl) (by kernel_rfl) (Nat.le_of_ble_eq_true (by kernel_rfl)) (by kernel_rfl)
noncomputable def impl_product_1.cloG (y : (Int × Int × Int × List Int) × List (List Int) × Unit) (d : Int × Int × Unit) : Option (Int × Unit) := (impl_product_1.F (joinIns [.rptr TMatrix, .rptr (.sl (.sl (.int .i64)))] [(false, (.int .i64)), (false, (.int .i64))] d y)).map (·.1)
noncomputable def impl_product_1.clo : Clo := ⟨176, ⟨[(false, (.int .i64)), (false, (.int .i64))], [(.val false, (.int .i64), .deep)]⟩, [.rptr TMatrix, .rptr (.sl (.sl (.int .i64)))], impl_product_1.cloG⟩
theorem impl_product_1.cloS : SoundClo Go.Proofs.Tryz.prog impl_product_1.clo := sound_clo (s := ⟨[(false, (.int .i64)), (false, (.int .i64))], [(.val false, (.int .i64), .deep)]⟩) (caps := [.rptr TMatrix, .rptr (.sl (.sl (.int .i64)))]) rfl impl_product_1.S
/-! ### impl_product -/
noncomputable def impl_product.sig : Sig := ⟨[.val true TMatrix, .val true TMatrix], [(.val true, TMatrix, .deep)]⟩
noncomputable def impl_product.ctx : Ctx := ⟨tabOf tabl, [⟨123, impl_columnsOf.sig, impl_columnsOf.F⟩, ⟨144, impl_filled.sig, impl_filled.F⟩], [impl_product_1.clo], [], [], []⟩
noncomputable def impl_product.cfg : Cfg := ⟨impl_product.ctx, [], [], fun _ => ([], []), fun _ => []⟩
noncomputable def impl_product.code : Code := (Go.Proofs.Tryz.f101).body.getD .skip
noncomputable def impl_product.fin := finK impl_product.ctx impl_product.sig [.cell 4 65]
noncomputable def impl_product.F (d : (Int × Int × Int × List Int) × (Int × Int × Int × List Int) × Unit) : Option (((Int × Int × Int × List Int) × Unit) × (Unit)) := anyK (runFn impl_product.cfg impl_product.fin impl_product.code (initSt impl_product.sig.ps d 16))
noncomputable def impl_product.T (a_1 : Int) (a_2 : Int) (a_3 : Int) (a_4 : List Int) (b_5 : Int) (b_6 : Int) (b_7 : Int) (b_8 : List Int) : Option (((Int × Int × Int × List Int) × Unit) × (Unit)) :=
  (impl_columnsOf.F ((b_5, (b_6, (b_7, b_8))), ())).bind fun r9 =>
    (impl_filled.F (a_1, a_2, b_7, impl_product_1.cloG ((a_1, (a_2, (a_3, a_4))), r9.1.1, ()), ())).bind fun r10 =>
      some ((r10.1.1, ()), ())
theorem impl_product.run (k : Nat) (a_1 : Int) (a_2 : Int) (a_3 : Int) (a_4 : List Int) (b_5 : Int) (b_6 : Int) (b_7 : Int) (b_8 : List Int) : runFn impl_product.cfg impl_product.fin impl_product.code (initSt impl_product.sig.ps ((a_1, (a_2, (a_3, a_4))), (b_5, (b_6, (b_7, b_8))), ()) 16) k = impl_product.T a_1 a_2 a_3 a_4 b_5 b_6 b_7 b_8 := by kernel_rfl
theorem impl_product.eq (a_1 : Int) (a_2 : Int) (a_3 : Int) (a_4 : List Int) (b_5 : Int) (b_6 : Int) (b_7 : Int) (b_8 : List Int) : impl_product.F ((a_1, (a_2, (a_3, a_4))), (b_5, (b_6, (b_7, b_8))), ()) = impl_product.T a_1 a_2 a_3 a_4 b_5 b_6 b_7 b_8 := (congrArg anyK (funext fun k => impl_product.run k a_1 a_2 a_3 a_4 b_5 b_6 b_7 b_8)).trans (anyK_const _)
theorem impl_product.ok : CtxOK Go.Proofs.Tryz.prog impl_product.ctx := ⟨List.forall_mem_nil _, mixed_ok, tab_ok tab_good, List.forall_mem_cons.2 ⟨impl_columnsOf.S, List.forall_mem_cons.2 ⟨impl_filled.S, List.forall_mem_nil _⟩⟩, List.forall_mem_cons.2 ⟨impl_product_1.cloS, List.forall_mem_nil _⟩, List.forall_mem_nil _⟩
theorem impl_product.S : Sound Go.Proofs.Tryz.prog ⟨101, impl_product.sig, impl_product.F⟩ := sound_any (fn := Go.Proofs.Tryz.f101) (code := impl_product.code) (g := impl_product.cfg) (res := [.cell 4 65]) Go.Proofs.Tryz.func101 (by kernel_rfl) (by kernel_rfl) impl_product.ok (by kernel_rfl) (by kernel_rfl) (Nat.le_of_ble_eq_true (by kernel_rfl)) (by kernel_rfl)
/-! ### slices_Equal_Lint64_int64 -/
noncomputable def slices_Equal_Lint64_int64.sig : Sig := ⟨[.val false (.sl (.int .i64)), .val false (.sl (.int .i64))], [(.val false, .bool, .deep)]⟩
noncomputable def slices_Equal_Lint64_int64.ctx : Ctx := ⟨tabOf tabl, [], [], [], [], []⟩
noncomputable def slices_Equal_Lint64_int64.cfg : Cfg := ⟨slices_Equal_Lint64_int64.ctx, [], [], fun id => match id with | 4 => ([0, 1, 12, 13], []) | _ => ([], []), fun _ => []⟩
noncomputable def slices_Equal_Lint64_int64.code : Code := (Go.Proofs.Tryz.f203).body.getD .skip
noncomputable def slices_Equal_Lint64_int64.fin := finK slices_Equal_Lint64_int64.ctx slices_Equal_Lint64_int64.sig [.tmp 4]
noncomputable def slices_Equal_Lint64_int64.F (d : List Int × List Int × Unit) : Option ((Bool × Unit) × (Unit)) := anyK (runFn slices_Equal_Lint64_int64.cfg slices_Equal_Lint64_int64.fin slices_Equal_Lint64_int64.code (initSt slices_Equal_Lint64_int64.sig.ps d 26))
noncomputable def slices_Equal_Lint64_int64.l4 (k : Nat) (x3 : List Int) (x4 : List Int) (i5 : Int) (i6 : Int) : Option ((Bool × Unit) × (Unit)) :=
  Go.Vm.runT slices_Equal_Lint64_int64.cfg slices_Equal_Lint64_int64.fin k [.inLoop (sub [1, 1, 0, 1, 0, 0] slices_Equal_Lint64_int64.code), .inBlock 0, .code (sub [1, 1, 1] slices_Equal_Lint64_int64.code)]
    ⟨[.val false [⟨(.sl (.int .i64)), .sh, x3⟩], .val false [⟨(.sl (.int .i64)), .sh, x4⟩], .dead, .dead, .dead, .dead, .dead, .dead, .dead, .dead, .dead, .dead, .val false [⟨(.int .i64), .sh, i5⟩], .val false [⟨(.int .i64), .sh, i6⟩]] ++ deads 12, []⟩
theorem slices_Equal_Lint64_int64.l4_eq (k : Nat) (x3 : List Int) (x4 : List Int) (i5 : Int) (i6 : Int) : slices_Equal_Lint64_int64.l4 (k + 1) x3 x4 i5 i6 =
  if (decide (i6 < i5)) = true then
    if 0 ≤ i6 ∧ i6 < (x3.length : Int) then
      if 0 ≤ i6 ∧ i6 < (x4.length : Int) then
        if ((x3.getD i6.toNat 0 : Int) != (x4.getD i6.toNat 0 : Int)) = true then
          some ((false, ()), ())
        else
          slices_Equal_Lint64_int64.l4 k x3 x4 i5 (IntKind.i64.wrap (i6 + (1 : Int)))
      else
        none
    else
      none
  else
    some ((true, ()), ()) := by kernel_rfl
noncomputable def slices_Equal_Lint64_int64.T (k : Nat) (s1_1 : List Int) (s2_2 : List Int) : Option ((Bool × Unit) × (Unit)) :=
  if ((s1_1.length : Int) != (s2_2.length : Int)) = true then
    some ((false, ()), ())
  else
    slices_Equal_Lint64_int64.l4 k s1_1 s2_2 (s1_1.length : Int) (0 : Int)
theorem slices_Equal_Lint64_int64.run (k : Nat) (s1_1 : List Int) (s2_2 : List Int) : runFn slices_Equal_Lint64_int64.cfg slices_Equal_Lint64_int64.fin slices_Equal_Lint64_int64.code (initSt slices_Equal_Lint64_int64.sig.ps (s1_1, s2_2, ()) 26) k = slices_Equal_Lint64_int64.T k s1_1 s2_2 := by kernel_rfl
theorem slices_Equal_Lint64_int64.of (s1_1 : List Int) (s2_2 : List Int) {r : (Bool × Unit) × (Unit)} (h : Ev (fun k => slices_Equal_Lint64_int64.T k s1_1 s2_2) r) : slices_Equal_Lint64_int64.F (s1_1, s2_2, ()) = some r := Ev.run (fun k => slices_Equal_Lint64_int64.run k s1_1 s2_2) h
theorem slices_Equal_Lint64_int64.ok : CtxOK Go.Proofs.Tryz.prog slices_Equal_Lint64_int64.ctx := ⟨List.forall_mem_nil _, mixed_ok, tab_ok tab_good, List.forall_mem_nil _, List.forall_mem_nil _, List.forall_mem_nil _⟩
theorem slices_Equal_Lint64_int64.S : Sound Go.Proofs.Tryz.prog ⟨203, slices_Equal_Lint64_int64.sig, slices_Equal_Lint64_int64.F⟩ := sound_any (fn := Go.Proofs.Tryz.f203) (code := slices_Equal_Lint64_int64.code) (g := slices_Equal_Lint64_int64.cfg) (res := [.tmp 4]) Go.Proofs.Tryz.func203 (by kernel_rfl) (by kernel_rfl) slices_Equal_Lint64_int64.ok (by kernel_rfl) (by kernel_rfl) (Nat.le_of_ble_eq_true (by kernel_rfl)) (by kernel_rfl)
noncomputable def slices_Equal_Lint64_int64.cloG (y : Unit) (d : List Int × List Int × Unit) : Option (Bool × Unit) := (slices_Equal_Lint64_int64.F (joinIns [] [(false, (.sl (.int .i64))), (false, (.sl (.int .i64)))] d y)).map (·.1)
noncomputable def slices_Equal_Lint64_int64.clo : Clo := ⟨203, ⟨[(false, (.sl (.int .i64))), (false, (.sl (.int .i64)))], [(.val false, .bool, .deep)]⟩, [], slices_Equal_Lint64_int64.cloG⟩
theorem slices_Equal_Lint64_int64.cloS : SoundClo Go.Proofs.Tryz.prog slices_Equal_Lint64_int64.clo := sound_clo (s := ⟨[(false, (.sl (.int .i64))), (false, (.sl (.int .i64)))], [(.val false, .bool, .deep)]⟩) (caps := []) rfl slices_Equal_Lint64_int64.S
/-! ### impl_SameMatrix -/
noncomputable def impl_SameMatrix.sig : Sig := ⟨[.val true TMatrix, .val true TMatrix], [(.val false, .bool, .deep)]⟩
noncomputable def impl_SameMatrix.ctx : Ctx := ⟨tabOf tabl, [⟨203, slices_Equal_Lint64_int64.sig, slices_Equal_Lint64_int64.F⟩], [], [], [], []⟩
noncomputable def impl_SameMatrix.cfg : Cfg := ⟨impl_SameMatrix.ctx, [], [], fun _ => ([], []), fun _ => []⟩
noncomputable def impl_SameMatrix.code : Code := (Go.Proofs.Tryz.f142).body.getD .skip
noncomputable def impl_SameMatrix.fin := finK impl_SameMatrix.ctx impl_SameMatrix.sig [.tmp 4]
noncomputable def impl_SameMatrix.F (d : (Int × Int × Int × List Int) × (Int × Int × Int × List Int) × Unit) : Option ((Bool × Unit) × (Unit)) := anyK (runFn impl_SameMatrix.cfg impl_SameMatrix.fin impl_SameMatrix.code (initSt impl_SameMatrix.sig.ps d 31))
noncomputable def impl_SameMatrix.T (a_1 : Int) (a_2 : Int) (a_3 : Int) (a_4 : List Int) (b_5 : Int) (b_6 : Int) (b_7 : Int) (b_8 : List Int) : Option ((Bool × Unit) × (Unit)) :=
  if (a_1 == b_5) = true then
    if (a_2 == b_6) = true then
      if (a_3 == b_7) = true then
        (slices_Equal_Lint64_int64.F (a_4, b_8, ())).bind fun r9 =>
          some (((r9.1.1 : Bool), ()), ())
      else
        some ((false, ()), ())
    else
      some ((false, ()), ())
  else
    some ((false, ()), ())
theorem impl_SameMatrix.run (k : Nat) (a_1 : Int) (a_2 : Int) (a_3 : Int) (a_4 : List Int) (b_5 : Int) (b_6 : Int) (b_7 : Int) (b_8 : List Int) : runFn impl_SameMatrix.cfg impl_SameMatrix.fin impl_SameMatrix.code (initSt impl_SameMatrix.sig.ps ((a_1, (a_2, (a_3, a_4))), (b_5, (b_6, (b_7, b_8))), ()) 31) k = impl_SameMatrix.T a_1 a_2 a_3 a_4 b_5 b_6 b_7 b_8 := by kernel_rfl
theorem impl_SameMatrix.eq (a_1 : Int) (a_2 : Int) (a_3 : Int) (a_4 : List Int) (b_5 : Int) (b_6 : Int) (b_7 : Int) (b_8 : List Int) : impl_SameMatrix.F ((a_1, (a_2, (a_3, a_4))), (b_5, (b_6, (b_7, b_8))), ()) = impl_SameMatrix.T a_1 a_2 a_3 a_4 b_5 b_6 b_7 b_8 := (congrArg anyK (funext fun k => impl_SameMatrix.run k a_1 a_2 a_3 a_4 b_5 b_6 b_7 b_8)).trans (anyK_const _)
theorem impl_SameMatrix.ok : CtxOK Go.Proofs.Tryz.prog impl_SameMatrix.ctx := ⟨List.forall_mem_nil _, mixed_ok, tab_ok tab_good, List.forall_mem_cons.2 ⟨slices_Equal_Lint64_int64.S, List.forall_mem_nil _⟩, List.forall_mem_nil _, List.forall_mem_nil _⟩
theorem impl_SameMatrix.S : Sound Go.Proofs.Tryz.prog ⟨142, impl_SameMatrix.sig, impl_SameMatrix.F⟩ := sound_any (fn := Go.Proofs.Tryz.f142) (code := impl_SameMatrix.code) (g := impl_SameMatrix.cfg) (res := [.tmp 4]) Go.Proofs.Tryz.func142 (by kernel_rfl) (by kernel_rfl) impl_SameMatrix.ok (by kernel_rfl) (by kernel_rfl) (Nat.le_of_ble_eq_true (by kernel_rfl)) (by kernel_rfl)
/-! ### impl_firstMap -/
noncomputable def impl_firstMap.sig : Sig := ⟨[.val true TSheaf, .val false (.int .i64)], [(.val false, (.int .i64), .deep)]⟩
noncomputable def impl_firstMap.ctx : Ctx := ⟨tabOf tabl, [⟨161, impl_size_int64.sig, impl_size_int64.F⟩], [], [], [], []⟩
noncomputable def impl_firstMap.cfg : Cfg := ⟨impl_firstMap.ctx, [], [], fun id => match id with | 3 => ([5, 12, 13, 14], []) | _ => ([], []), fun _ => []⟩
noncomputable def impl_firstMap.code : Code := (Go.Proofs.Tryz.f233).body.getD .skip
noncomputable def impl_firstMap.fin := finK impl_firstMap.ctx impl_firstMap.sig [.tmp 4]
noncomputable def impl_firstMap.F (d : (List (List Int) × Int × List Int × List (Int × Int × Int × List Int)) × Int × Unit) : Option ((Int × Unit) × (Unit)) := anyK (runFn impl_firstMap.cfg impl_firstMap.fin impl_firstMap.code (initSt impl_firstMap.sig.ps d 27))
noncomputable def impl_firstMap.l3 (k : Nat) (i6 : Int) (x7 : List (List Int)) (i8 : Int) (i9 : Int) : Option ((Int × Unit) × (Unit)) :=
  Go.Vm.runT impl_firstMap.cfg impl_firstMap.fin k [.inLoop (sub [1, 1, 0, 1, 0, 0] impl_firstMap.code), .inBlock 0, .code (sub [1, 1, 1] impl_firstMap.code)]
    ⟨[.dead, .dead, .dead, .dead, .dead, .val false [⟨(.int .i64), .sh, i6⟩], .dead, .dead, .dead, .dead, .dead, .dead, .val false [⟨(.sl (.sl (.int .i64))), .sh, x7⟩], .val false [⟨(.int .i64), .sh, i8⟩], .val false [⟨(.int .i64), .sh, i9⟩]] ++ deads 12, []⟩
theorem impl_firstMap.l3_eq (k : Nat) (i6 : Int) (x7 : List (List Int)) (i8 : Int) (i9 : Int) : impl_firstMap.l3 (k + 1) i6 x7 i8 i9 =
  if (decide (i9 < i8)) = true then
    if 0 ≤ i9 ∧ i9 < (x7.length : Int) then
      if (decide (((x7.getD i9.toNat ([] : List Int)).length : Int) > (1 : Int))) = true then
        (impl_size_int64.F (x7.getD i9.toNat ([] : List Int), ())).bind fun r10 =>
          impl_firstMap.l3 k (IntKind.i64.wrap (i6 + (r10.1.1 : Int))) x7 i8 (IntKind.i64.wrap (i9 + (1 : Int)))
      else
        impl_firstMap.l3 k i6 x7 i8 (IntKind.i64.wrap (i9 + (1 : Int)))
    else
      none
  else
    some ((i6, ()), ()) := by kernel_rfl
noncomputable def impl_firstMap.T (k : Nat) (s_1 : List (List Int)) (s_2 : Int) (s_3 : List Int) (s_4 : List (Int × Int × Int × List Int)) (simplex_5 : Int) : Option ((Int × Unit) × (Unit)) :=
  if 0 ≤ (0 : Int) ∧ (0 : Int) ≤ simplex_5 ∧ simplex_5 ≤ (s_1.length : Int) then
    impl_firstMap.l3 k (0 : Int) (cutL s_1 (0 : Int) simplex_5) ((cutL s_1 (0 : Int) simplex_5).length : Int) (0 : Int)
  else
    none
theorem impl_firstMap.run (k : Nat) (s_1 : List (List Int)) (s_2 : Int) (s_3 : List Int) (s_4 : List (Int × Int × Int × List Int)) (simplex_5 : Int) : runFn impl_firstMap.cfg impl_firstMap.fin impl_firstMap.code (initSt impl_firstMap.sig.ps ((s_1, (s_2, (s_3, s_4))), simplex_5, ()) 27) k = impl_firstMap.T k s_1 s_2 s_3 s_4 simplex_5 := by kernel_rfl
theorem impl_firstMap.of (s_1 : List (List Int)) (s_2 : Int) (s_3 : List Int) (s_4 : List (Int × Int × Int × List Int)) (simplex_5 : Int) {r : (Int × Unit) × (Unit)} (h : Ev (fun k => impl_firstMap.T k s_1 s_2 s_3 s_4 simplex_5) r) : impl_firstMap.F ((s_1, (s_2, (s_3, s_4))), simplex_5, ()) = some r := Ev.run (fun k => impl_firstMap.run k s_1 s_2 s_3 s_4 simplex_5) h
theorem impl_firstMap.ok : CtxOK Go.Proofs.Tryz.prog impl_firstMap.ctx := ⟨List.forall_mem_nil _, mixed_ok, tab_ok tab_good, List.forall_mem_cons.2 ⟨impl_size_int64.S, List.forall_mem_nil _⟩, List.forall_mem_nil _, List.forall_mem_nil _⟩
theorem impl_firstMap.S : Sound Go.Proofs.Tryz.prog ⟨233, impl_firstMap.sig, impl_firstMap.F⟩ := sound_any (fn := Go.Proofs.Tryz.f233) (code := impl_firstMap.code) (g := impl_firstMap.cfg) (res := [.tmp 4]) Go.Proofs.Tryz.func233 (by kernel_rfl) (by kernel_rfl) impl_firstMap.ok (by kernel_rfl) (by kernel_rfl) (Nat.le_of_ble_eq_true (by kernel_rfl)) (by kernel_rfl)
/-! ### impl_direct -/
noncomputable def impl_direct.sig : Sig := ⟨[.val true TSheaf, .val false (.int .i64), .val false (.int .i64)], [(.val true, TMatrix, .sh)]⟩
noncomputable def impl_direct.ctx : Ctx := ⟨tabOf tabl, [⟨233, impl_firstMap.sig, impl_firstMap.F⟩], [], [], [], []⟩
noncomputable def impl_direct.cfg : Cfg := ⟨impl_direct.ctx, [], [], fun _ => ([], []), fun _ => []⟩
noncomputable def impl_direct.code : Code := (Go.Proofs.Tryz.f190).body.getD .skip
noncomputable def impl_direct.fin := finK impl_direct.ctx impl_direct.sig [.cell 6 65]
noncomputable def impl_direct.F (d : (List (List Int) × Int × List Int × List (Int × Int × Int × List Int)) × Int × Int × Unit) : Option (((Int × Int × Int × List Int) × Unit) × (Unit)) := anyK (runFn impl_direct.cfg impl_direct.fin impl_direct.code (initSt impl_direct.sig.ps d 16))
noncomputable def impl_direct.T (s_1 : List (List Int)) (s_2 : Int) (s_3 : List Int) (s_4 : List (Int × Int × Int × List Int)) (simplex_5 : Int) (place_6 : Int) : Option (((Int × Int × Int × List Int) × Unit) × (Unit)) :=
  (impl_firstMap.F ((s_1, (s_2, (s_3, s_4))), simplex_5, ())).bind fun r7 =>
    if 0 ≤ (IntKind.i64.wrap ((r7.1.1 : Int) + place_6)) ∧ (IntKind.i64.wrap ((r7.1.1 : Int) + place_6)) < (s_4.length : Int) then
      let y8 : Int := (s_4.getD (IntKind.i64.wrap ((r7.1.1 : Int) + place_6)).toNat (0, 0, 0, ([] : List Int))).1
      let y9 : Int := ((s_4.getD (IntKind.i64.wrap ((r7.1.1 : Int) + place_6)).toNat (0, 0, 0, ([] : List Int))).2).1
      let y10 : Int := (((s_4.getD (IntKind.i64.wrap ((r7.1.1 : Int) + place_6)).toNat (0, 0, 0, ([] : List Int))).2).2).1
      let y11 : List Int := (((s_4.getD (IntKind.i64.wrap ((r7.1.1 : Int) + place_6)).toNat (0, 0, 0, ([] : List Int))).2).2).2
      some (((y8, (y9, (y10, y11))), ()), ())
    else
      none
theorem impl_direct.run (k : Nat) (s_1 : List (List Int)) (s_2 : Int) (s_3 : List Int) (s_4 : List (Int × Int × Int × List Int)) (simplex_5 : Int) (place_6 : Int) : runFn impl_direct.cfg impl_direct.fin impl_direct.code (initSt impl_direct.sig.ps ((s_1, (s_2, (s_3, s_4))), simplex_5, place_6, ()) 16) k = impl_direct.T s_1 s_2 s_3 s_4 simplex_5 place_6 := by kernel_rfl
theorem impl_direct.eq (s_1 : List (List Int)) (s_2 : Int) (s_3 : List Int) (s_4 : List (Int × Int × Int × List Int)) (simplex_5 : Int) (place_6 : Int) : impl_direct.F ((s_1, (s_2, (s_3, s_4))), simplex_5, place_6, ()) = impl_direct.T s_1 s_2 s_3 s_4 simplex_5 place_6 := (congrArg anyK (funext fun k => impl_direct.run k s_1 s_2 s_3 s_4 simplex_5 place_6)).trans (anyK_const _)
theorem impl_direct.ok : CtxOK Go.Proofs.Tryz.prog impl_direct.ctx := ⟨List.forall_mem_nil _, mixed_ok, tab_ok tab_good, List.forall_mem_cons.2 ⟨impl_firstMap.S, List.forall_mem_nil _⟩, List.forall_mem_nil _, List.forall_mem_nil _⟩
theorem impl_direct.S : Sound Go.Proofs.Tryz.prog ⟨190, impl_direct.sig, impl_direct.F⟩ := sound_any (fn := Go.Proofs.Tryz.f190) (code := impl_direct.code) (g := impl_direct.cfg) (res := [.cell 6 65]) Go.Proofs.Tryz.func190 (by kernel_rfl) (by kernel_rfl) impl_direct.ok (by kernel_rfl) (by kernel_rfl) (Nat.le_of_ble_eq_true (by kernel_rfl)) (by kernel_rfl)
/-! ### impl_wrongSquare -/
noncomputable def impl_wrongSquare.sig : Sig := ⟨[.val true TSheaf], [(.val false, (.int .i64), .deep), (.val false, (.int .i64), .deep), (.val false, .bool, .deep)]⟩
noncomputable def impl_wrongSquare.ctx : Ctx := ⟨tabOf tabl, [⟨101, impl_product.sig, impl_product.F⟩, ⟨142, impl_SameMatrix.sig, impl_SameMatrix.F⟩, ⟨184, impl_faceIndices.sig, impl_faceIndices.F⟩, ⟨190, impl_direct.sig, impl_direct.F⟩], [], [], [], []⟩
noncomputable def impl_wrongSquare.cfg : Cfg := ⟨impl_wrongSquare.ctx, [], [], fun id => match id with | 2 => ([1, 15, 16, 17], [4]) | 8 => ([1, 6, 7, 8, 15, 16, 17, 31, 32], [4, 32]) | 11 => ([1, 6, 7, 8, 9, 10, 15, 16, 17, 31, 32], [4, 32]) | _ => ([], []), fun _ => []⟩
noncomputable def impl_wrongSquare.code : Code := (Go.Proofs.Tryz.f130).body.getD .skip
noncomputable def impl_wrongSquare.fin := finK impl_wrongSquare.ctx impl_wrongSquare.sig [.tmp 2, .tmp 3, .tmp 4]
noncomputable def impl_wrongSquare.F (d : (List (List Int) × Int × List Int × List (Int × Int × Int × List Int)) × Unit) : Option ((Int × Int × Bool × Unit) × (Unit)) := anyK (runFn impl_wrongSquare.cfg impl_wrongSquare.fin impl_wrongSquare.code (initSt impl_wrongSquare.sig.ps d 86))
noncomputable def impl_wrongSquare.l2 (k : Nat) (x5 : List (List Int)) (i6 : Int) (i7 : Int) (x8 : List (List Int)) (i9 : Int) (x10 : List Int) (x11 : List (Int × Int × Int × List Int)) : Option ((Int × Int × Bool × Unit) × (Unit)) :=
  Go.Vm.runT impl_wrongSquare.cfg impl_wrongSquare.fin k [.inLoop (sub [1, 0, 1, 0, 0] impl_wrongSquare.code), .inBlock 0, .code (sub [1, 1] impl_wrongSquare.code)]
    ⟨[.dead, .ref 4 (.root 0), .dead, .dead, .dead, .dead, .dead, .dead, .dead, .dead, .dead, .dead, .dead, .dead, .dead, .val false [⟨(.sl (.sl (.int .i64))), .sh, x5⟩], .val false [⟨(.int .i64), .sh, i6⟩], .val false [⟨(.int .i64), .sh, i7⟩]] ++ deads 68, [(4, ⟨true, [⟨(.sl (.sl (.int .i64))), .sh, x8⟩, ⟨(.int .i64), .sh, i9⟩, ⟨(.sl (.int .i64)), .sh, x10⟩, ⟨(.sl TMatrix), .sh, x11⟩]⟩)]⟩
noncomputable def impl_wrongSquare.l8 (k : Nat) (x13 : List Int) (i14 : Int) (x15 : List (List Int)) (i16 : Int) (i17 : Int) (i18 : Int) (i19 : Int) (x20 : List (List Int)) (i21 : Int) (x22 : List Int) (x23 : List (Int × Int × Int × List Int)) (x24 : List Int) : Option ((Int × Int × Bool × Unit) × (Unit)) :=
  Go.Vm.runT impl_wrongSquare.cfg impl_wrongSquare.fin k [.inLoop (sub [1, 0, 1, 0, 0, 1, 1, 0, 0, 1, 1, 1, 1, 1, 0, 0] impl_wrongSquare.code), .inBlock 2, .inBlock 1, .code (sub [1, 0, 1, 0, 0, 1, 1, 1] impl_wrongSquare.code), .inLoop (sub [1, 0, 1, 0, 0] impl_wrongSquare.code), .inBlock 0, .code (sub [1, 1] impl_wrongSquare.code)]
    ⟨[.dead, .ref 4 (.root 0), .dead, .dead, .dead, .dead, .val false [⟨(.sl (.int .i64)), .sh, x13⟩], .val false [⟨(.int .i64), .sh, i14⟩], .view 32 (.root 0) 1 false, .dead, .dead, .dead, .dead, .dead, .dead, .val false [⟨(.sl (.sl (.int .i64))), .sh, x15⟩], .val false [⟨(.int .i64), .sh, i16⟩], .val false [⟨(.int .i64), .sh, i17⟩], .dead, .dead, .dead, .dead, .dead, .dead, .dead, .dead, .dead, .dead, .dead, .dead, .dead, .val false [⟨(.int .i64), .sh, i18⟩], .val false [⟨(.int .i64), .sh, i19⟩]] ++ deads 53, [(4, ⟨true, [⟨(.sl (.sl (.int .i64))), .sh, x20⟩, ⟨(.int .i64), .sh, i21⟩, ⟨(.sl (.int .i64)), .sh, x22⟩, ⟨(.sl TMatrix), .sh, x23⟩]⟩), (32, ⟨false, [⟨(.sl (.int .i64)), .deep, x24⟩]⟩)]⟩
noncomputable def impl_wrongSquare.l11 (k : Nat) (x25 : List Int) (i26 : Int) (i27 : Int) (i28 : Int) (x29 : List (List Int)) (i30 : Int) (i31 : Int) (i32 : Int) (i33 : Int) (x34 : List (List Int)) (i35 : Int) (x36 : List Int) (x37 : List (Int × Int × Int × List Int)) (x38 : List Int) : Option ((Int × Int × Bool × Unit) × (Unit)) :=
  Go.Vm.runT impl_wrongSquare.cfg impl_wrongSquare.fin k [.inLoop (sub [1, 0, 1, 0, 0, 1, 1, 0, 0, 1, 1, 1, 1, 1, 0, 0, 1, 1, 0, 0, 1, 1, 0, 0] impl_wrongSquare.code), .inBlock 4, .inBlock 3, .code (sub [1, 0, 1, 0, 0, 1, 1, 0, 0, 1, 1, 1, 1, 1, 0, 0, 1, 1, 1] impl_wrongSquare.code), .inLoop (sub [1, 0, 1, 0, 0, 1, 1, 0, 0, 1, 1, 1, 1, 1, 0, 0] impl_wrongSquare.code), .inBlock 2, .inBlock 1, .code (sub [1, 0, 1, 0, 0, 1, 1, 1] impl_wrongSquare.code), .inLoop (sub [1, 0, 1, 0, 0] impl_wrongSquare.code), .inBlock 0, .code (sub [1, 1] impl_wrongSquare.code)]
    ⟨[.dead, .ref 4 (.root 0), .dead, .dead, .dead, .dead, .val false [⟨(.sl (.int .i64)), .sh, x25⟩], .val false [⟨(.int .i64), .sh, i26⟩], .view 32 (.root 0) 1 false, .val false [⟨(.int .i64), .sh, i27⟩], .val false [⟨(.int .i64), .sh, i28⟩], .dead, .dead, .dead, .dead, .val false [⟨(.sl (.sl (.int .i64))), .sh, x29⟩], .val false [⟨(.int .i64), .sh, i30⟩], .val false [⟨(.int .i64), .sh, i31⟩], .dead, .dead, .dead, .dead, .dead, .dead, .dead, .dead, .dead, .dead, .dead, .dead, .dead, .val false [⟨(.int .i64), .sh, i32⟩], .val false [⟨(.int .i64), .sh, i33⟩]] ++ deads 53, [(4, ⟨true, [⟨(.sl (.sl (.int .i64))), .sh, x34⟩, ⟨(.int .i64), .sh, i35⟩, ⟨(.sl (.int .i64)), .sh, x36⟩, ⟨(.sl TMatrix), .sh, x37⟩]⟩), (32, ⟨false, [⟨(.sl (.int .i64)), .deep, x38⟩]⟩)]⟩
theorem impl_wrongSquare.l2_eq (k : Nat) (x5 : List (List Int)) (i6 : Int) (i7 : Int) (x8 : List (List Int)) (i9 : Int) (x10 : List Int) (x11 : List (Int × Int × Int × List Int)) : impl_wrongSquare.l2 (k + 1) x5 i6 i7 x8 i9 x10 x11 =
  if (decide (i7 < i6)) = true then
    if 0 ≤ i7 ∧ i7 < (x5.length : Int) then
      if (decide (((x5.getD i7.toNat ([] : List Int)).length : Int) < (3 : Int))) = true then
        impl_wrongSquare.l2 k x5 i6 (IntKind.i64.wrap (i7 + (1 : Int))) x8 i9 x10 x11
      else
        (impl_faceIndices.F (x8, i7, ())).bind fun r12 =>
          impl_wrongSquare.l8 k (x5.getD i7.toNat ([] : List Int)) i7 x5 i6 i7 ((x5.getD i7.toNat ([] : List Int)).length : Int) (0 : Int) x8 i9 x10 x11 r12.1.1
    else
      none
  else
    some (((0 : Int), ((0 : Int), (false, ()))), ()) := by kernel_rfl
theorem impl_wrongSquare.l8_eq (k : Nat) (x13 : List Int) (i14 : Int) (x15 : List (List Int)) (i16 : Int) (i17 : Int) (i18 : Int) (i19 : Int) (x20 : List (List Int)) (i21 : Int) (x22 : List Int) (x23 : List (Int × Int × Int × List Int)) (x24 : List Int) : impl_wrongSquare.l8 (k + 1) x13 i14 x15 i16 i17 i18 i19 x20 i21 x22 x23 x24 =
  if (decide (i19 < i18)) = true then
    impl_wrongSquare.l11 k x13 i14 i19 (IntKind.i64.wrap (i19 + (1 : Int))) x15 i16 i17 i18 i19 x20 i21 x22 x23 x24
  else
    impl_wrongSquare.l2 k x15 i16 (IntKind.i64.wrap (i17 + (1 : Int))) x20 i21 x22 x23 := by kernel_rfl
theorem impl_wrongSquare.l11_eq (k : Nat) (x25 : List Int) (i26 : Int) (i27 : Int) (i28 : Int) (x29 : List (List Int)) (i30 : Int) (i31 : Int) (i32 : Int) (i33 : Int) (x34 : List (List Int)) (i35 : Int) (x36 : List Int) (x37 : List (Int × Int × Int × List Int)) (x38 : List Int) : impl_wrongSquare.l11 (k + 1) x25 i26 i27 i28 x29 i30 i31 i32 i33 x34 i35 x36 x37 x38 =
  if (decide (i28 < (x25.length : Int))) = true then
    (impl_direct.F ((x34, (i35, (x36, x37))), i26, i27, ())).bind fun r39 =>
      if 0 ≤ i27 ∧ i27 < (x38.length : Int) then
        (impl_direct.F ((x34, (i35, (x36, x37))), (x38.getD i27.toNat 0 : Int), IntKind.i64.wrap (i28 - (1 : Int)), ())).bind fun r40 =>
          (impl_product.F (r39.1.1, r40.1.1, ())).bind fun r41 =>
            (impl_direct.F ((x34, (i35, (x36, x37))), i26, i28, ())).bind fun r42 =>
              if 0 ≤ i28 ∧ i28 < (x38.length : Int) then
                (impl_direct.F ((x34, (i35, (x36, x37))), (x38.getD i28.toNat 0 : Int), i27, ())).bind fun r43 =>
                  (impl_product.F (r42.1.1, r43.1.1, ())).bind fun r44 =>
                    (impl_SameMatrix.F (r41.1.1, r44.1.1, ())).bind fun r45 =>
                      if (!(r45.1.1 : Bool)) = true then
                        if 0 ≤ i27 ∧ i27 < (x38.length : Int) then
                          (impl_faceIndices.F (x34, (x38.getD i27.toNat 0 : Int), ())).bind fun r46 =>
                            if 0 ≤ (IntKind.i64.wrap (i28 - (1 : Int))) ∧ (IntKind.i64.wrap (i28 - (1 : Int))) < (r46.1.1.length : Int) then
                              some ((i26, (r46.1.1.getD (IntKind.i64.wrap (i28 - (1 : Int))).toNat 0, (true, ()))), ())
                            else
                              none
                        else
                          none
                      else
                        impl_wrongSquare.l11 k x25 i26 i27 (IntKind.i64.wrap (i28 + (1 : Int))) x29 i30 i31 i32 i33 x34 i35 x36 x37 x38
              else
                none
      else
        none
  else
    impl_wrongSquare.l8 k x25 i26 x29 i30 i31 i32 (IntKind.i64.wrap (i33 + (1 : Int))) x34 i35 x36 x37 x38 := by kernel_rfl
noncomputable def impl_wrongSquare.T (k : Nat) (toArray_1 : List (List Int)) (toArray_2 : Int) (toArray_3 : List Int) (toArray_4 : List (Int × Int × Int × List Int)) : Option ((Int × Int × Bool × Unit) × (Unit)) :=
  impl_wrongSquare.l2 k toArray_1 (toArray_1.length : Int) (0 : Int) toArray_1 toArray_2 toArray_3 toArray_4
theorem impl_wrongSquare.run (k : Nat) (toArray_1 : List (List Int)) (toArray_2 : Int) (toArray_3 : List Int) (toArray_4 : List (Int × Int × Int × List Int)) : runFn impl_wrongSquare.cfg impl_wrongSquare.fin impl_wrongSquare.code (initSt impl_wrongSquare.sig.ps ((toArray_1, (toArray_2, (toArray_3, toArray_4))), ()) 86) k = impl_wrongSquare.T k toArray_1 toArray_2 toArray_3 toArray_4 := by kernel_rfl
theorem impl_wrongSquare.of (toArray_1 : List (List Int)) (toArray_2 : Int) (toArray_3 : List Int) (toArray_4 : List (Int × Int × Int × List Int)) {r : (Int × Int × Bool × Unit) × (Unit)} (h : Ev (fun k => impl_wrongSquare.T k toArray_1 toArray_2 toArray_3 toArray_4) r) : impl_wrongSquare.F ((toArray_1, (toArray_2, (toArray_3, toArray_4))), ()) = some r := Ev.run (fun k => impl_wrongSquare.run k toArray_1 toArray_2 toArray_3 toArray_4) h
theorem impl_wrongSquare.ok : CtxOK Go.Proofs.Tryz.prog impl_wrongSquare.ctx := ⟨List.forall_mem_nil _, mixed_ok, tab_ok tab_good, List.forall_mem_cons.2 ⟨impl_product.S, List.forall_mem_cons.2 ⟨impl_SameMatrix.S, List.forall_mem_cons.2 ⟨impl_faceIndices.S, List.forall_mem_cons.2 ⟨impl_direct.S, List.forall_mem_nil _⟩⟩⟩⟩, List.forall_mem_nil _, List.forall_mem_nil _⟩
theorem impl_wrongSquare.S : Sound Go.Proofs.Tryz.prog ⟨130, impl_wrongSquare.sig, impl_wrongSquare.F⟩ := sound_any (fn := Go.Proofs.Tryz.f130) (code := impl_wrongSquare.code) (g := impl_wrongSquare.cfg) (res := [.tmp 2, .tmp 3, .tmp 4]) Go.Proofs.Tryz.func130 (by kernel_rfl) (by kernel_rfl) impl_wrongSquare.ok (by kernel_rfl) (by kernel_rfl) (Nat.le_of_ble_eq_true (by kernel_rfl)) (by kernel_rfl)
/-! ### impl_IsSheaf -/
noncomputable def impl_IsSheaf.sig : Sig := ⟨[.val true TSheaf], [(.val false, .bool, .deep)]⟩
noncomputable def impl_IsSheaf.ctx : Ctx := ⟨tabOf tabl, [⟨129, impl_ValidSheaf.sig, impl_ValidSheaf.F⟩, ⟨130, impl_wrongSquare.sig, impl_wrongSquare.F⟩], [], [], [], []⟩
noncomputable def impl_IsSheaf.cfg : Cfg := ⟨impl_IsSheaf.ctx, [], [], fun _ => ([], []), fun _ => []⟩
noncomputable def impl_IsSheaf.code : Code := (Go.Proofs.Tryz.f63).body.getD .skip
noncomputable def impl_IsSheaf.fin := finK impl_IsSheaf.ctx impl_IsSheaf.sig [.tmp 2]
noncomputable def impl_IsSheaf.F (d : (List (List Int) × Int × List Int × List (Int × Int × Int × List Int)) × Unit) : Option ((Bool × Unit) × (Unit)) := anyK (runFn impl_IsSheaf.cfg impl_IsSheaf.fin impl_IsSheaf.code (initSt impl_IsSheaf.sig.ps d 17))
noncomputable def impl_IsSheaf.T (s_1 : List (List Int)) (s_2 : Int) (s_3 : List Int) (s_4 : List (Int × Int × Int × List Int)) : Option ((Bool × Unit) × (Unit)) :=
  (impl_ValidSheaf.F ((s_1, (s_2, (s_3, s_4))), ())).bind fun r5 =>
    if (!(r5.1.1 : Bool)) = true then
      some ((false, ()), ())
    else
      (impl_wrongSquare.F ((s_1, (s_2, (s_3, s_4))), ())).bind fun r6 =>
        some ((!(r6.1.2.2.1 : Bool), ()), ())
theorem impl_IsSheaf.run (k : Nat) (s_1 : List (List Int)) (s_2 : Int) (s_3 : List Int) (s_4 : List (Int × Int × Int × List Int)) : runFn impl_IsSheaf.cfg impl_IsSheaf.fin impl_IsSheaf.code (initSt impl_IsSheaf.sig.ps ((s_1, (s_2, (s_3, s_4))), ()) 17) k = impl_IsSheaf.T s_1 s_2 s_3 s_4 := by kernel_rfl
theorem impl_IsSheaf.eq (s_1 : List (List Int)) (s_2 : Int) (s_3 : List Int) (s_4 : List (Int × Int × Int × List Int)) : impl_IsSheaf.F ((s_1, (s_2, (s_3, s_4))), ()) = impl_IsSheaf.T s_1 s_2 s_3 s_4 := (congrArg anyK (funext fun k => impl_IsSheaf.run k s_1 s_2 s_3 s_4)).trans (anyK_const _)
theorem impl_IsSheaf.ok : CtxOK Go.Proofs.Tryz.prog impl_IsSheaf.ctx := ⟨List.forall_mem_nil _, mixed_ok, tab_ok tab_good, List.forall_mem_cons.2 ⟨impl_ValidSheaf.S, List.forall_mem_cons.2 ⟨impl_wrongSquare.S, List.forall_mem_nil _⟩⟩, List.forall_mem_nil _, List.forall_mem_nil _⟩
theorem impl_IsSheaf.S : Sound Go.Proofs.Tryz.prog ⟨63, impl_IsSheaf.sig, impl_IsSheaf.F⟩ := sound_any (fn := Go.Proofs.Tryz.f63) (code := impl_IsSheaf.code) (g := impl_IsSheaf.cfg) (res := [.tmp 2]) Go.Proofs.Tryz.func63 (by kernel_rfl) (by kernel_rfl) impl_IsSheaf.ok (by kernel_rfl) (by kernel_rfl) (Nat.le_of_ble_eq_true (by kernel_rfl)) (by kernel_rfl)
/-! ### impl_areSheaves_1 -/
noncomputable def impl_areSheaves_1.sig : Sig := ⟨[.val true TSheaf], [(.val false, .bool, .deep)]⟩
noncomputable def impl_areSheaves_1.ctx : Ctx := ⟨tabOf tabl, [⟨63, impl_IsSheaf.sig, impl_IsSheaf.F⟩], [], [], [], []⟩
noncomputable def impl_areSheaves_1.cfg : Cfg := ⟨impl_areSheaves_1.ctx, [], [], fun _ => ([], []), fun _ => []⟩
noncomputable def impl_areSheaves_1.code : Code := (Go.Proofs.Tryz.f138).body.getD .skip
noncomputable def impl_areSheaves_1.fin := finK impl_areSheaves_1.ctx impl_areSheaves_1.sig [.tmp 2]
noncomputable def impl_areSheaves_1.F (d : (List (List Int) × Int × List Int × List (Int × Int × Int × List Int)) × Unit) : Option ((Bool × Unit) × (Unit)) := anyK (runFn impl_areSheaves_1.cfg impl_areSheaves_1.fin impl_areSheaves_1.code (initSt impl_areSheaves_1.sig.ps d 6))
noncomputable def impl_areSheaves_1.T (s_1 : List (List Int)) (s_2 : Int) (s_3 : List Int) (s_4 : List (Int × Int × Int × List Int)) : Option ((Bool × Unit) × (Unit)) :=
  (impl_IsSheaf.F ((s_1, (s_2, (s_3, s_4))), ())).bind fun r5 =>
    some ((!(r5.1.1 : Bool), ()), ())
theorem impl_areSheaves_1.run (k : Nat) (s_1 : List (List Int)) (s_2 : Int) (s_3 : List Int) (s_4 : List (Int × Int × Int × List Int)) : runFn impl_areSheaves_1.cfg impl_areSheaves_1.fin impl_areSheaves_1.code (initSt impl_areSheaves_1.sig.ps ((s_1, (s_2, (s_3, s_4))), ()) 6) k = impl_areSheaves_1.T s_1 s_2 s_3 s_4 := by kernel_rfl
theorem impl_areSheaves_1.eq (s_1 : List (List Int)) (s_2 : Int) (s_3 : List Int) (s_4 : List (Int × Int × Int × List Int)) : impl_areSheaves_1.F ((s_1, (s_2, (s_3, s_4))), ()) = impl_areSheaves_1.T s_1 s_2 s_3 s_4 := (congrArg anyK (funext fun k => impl_areSheaves_1.run k s_1 s_2 s_3 s_4)).trans (anyK_const _)
theorem impl_areSheaves_1.ok : CtxOK Go.Proofs.Tryz.prog impl_areSheaves_1.ctx := ⟨List.forall_mem_nil _, mixed_ok, tab_ok tab_good, List.forall_mem_cons.2 ⟨impl_IsSheaf.S, List.forall_mem_nil _⟩, List.forall_mem_nil _, List.forall_mem_nil _⟩
theorem impl_areSheaves_1.S : Sound Go.Proofs.Tryz.prog ⟨138, impl_areSheaves_1.sig, impl_areSheaves_1.F⟩ := sound_any (fn := Go.Proofs.Tryz.f138) (code := impl_areSheaves_1.code) (g := impl_areSheaves_1.cfg) (res := [.tmp 2]) Go.Proofs.Tryz.func138 (by kernel_rfl) (by kernel_rfl) impl_areSheaves_1.ok (by kernel_rfl) (by kernel_rfl) (Nat.le_of_ble_eq_true (by kernel_rfl)) (by kernel_rfl)
noncomputable def impl_areSheaves_1.cloG (y : Unit) (d : (List (List Int) × Int × List Int × List (Int × Int × Int × List Int)) × Unit) : Option (Bool × Unit) := (impl_areSheaves_1.F (joinIns [] [(true, TSheaf)] d y)).map (·.1)
noncomputable def impl_areSheaves_1.clo : Clo := ⟨138, ⟨[(true, TSheaf)], [(.val false, .bool, .deep)]⟩, [], impl_areSheaves_1.cloG⟩
theorem impl_areSheaves_1.cloS : SoundClo Go.Proofs.Tryz.prog impl_areSheaves_1.clo := sound_clo (s := ⟨[(true, TSheaf)], [(.val false, .bool, .deep)]⟩) (caps := []) rfl impl_areSheaves_1.S
/-! ### slices_EqualFunc_LLint64_LLint64_Lint64_Lint64 -/
noncomputable def slices_EqualFunc_LLint64_LLint64_Lint64_Lint64.sig : Sig := ⟨[.val false (.sl (.sl (.int .i64))), .val false (.sl (.sl (.int .i64))), .fnx ⟨[(false, (.sl (.int .i64))), (false, (.sl (.int .i64)))], [(.val false, .bool, .deep)]⟩], [(.val false, .bool, .deep)]⟩
noncomputable def slices_EqualFunc_LLint64_LLint64_Lint64_Lint64.ctx : Ctx := ⟨tabOf tabl, [], [], [], [], []⟩
noncomputable def slices_EqualFunc_LLint64_LLint64_Lint64_Lint64.cfg : Cfg := ⟨slices_EqualFunc_LLint64_LLint64_Lint64_Lint64.ctx, [], [], fun id => match id with | 4 => ([1, 2, 15, 16, 17], []) | _ => ([], []), fun _ => []⟩
noncomputable def slices_EqualFunc_LLint64_LLint64_Lint64_Lint64.code : Code := (Go.Proofs.Tryz.f234).body.getD .skip
noncomputable def slices_EqualFunc_LLint64_LLint64_Lint64_Lint64.fin := finK slices_EqualFunc_LLint64_LLint64_Lint64_Lint64.ctx slices_EqualFunc_LLint64_LLint64_Lint64_Lint64.sig [.tmp 6]
noncomputable def slices_EqualFunc_LLint64_LLint64_Lint64_Lint64.F (d : List (List Int) × List (List Int) × ((List Int × List Int × Unit) → Option (Bool × Unit)) × Unit) : Option ((Bool × Unit) × (Unit)) := anyK (runFn slices_EqualFunc_LLint64_LLint64_Lint64_Lint64.cfg slices_EqualFunc_LLint64_LLint64_Lint64_Lint64.fin slices_EqualFunc_LLint64_LLint64_Lint64_Lint64.code (initSt slices_EqualFunc_LLint64_LLint64_Lint64_Lint64.sig.ps d 32))
noncomputable def slices_EqualFunc_LLint64_LLint64_Lint64_Lint64.l4 (k : Nat) (x4 : List (List Int)) (f5 : (List Int × List Int × Unit) → Option (Bool × Unit)) (x6 : List (List Int)) (i7 : Int) (i8 : Int) : Option ((Bool × Unit) × (Unit)) :=
  Go.Vm.runT slices_EqualFunc_LLint64_LLint64_Lint64_Lint64.cfg slices_EqualFunc_LLint64_LLint64_Lint64_Lint64.fin k [.inLoop (sub [1, 1, 0, 1, 0, 0] slices_EqualFunc_LLint64_LLint64_Lint64_Lint64.code), .inBlock 0, .code (sub [1, 1, 1] slices_EqualFunc_LLint64_LLint64_Lint64_Lint64.code)]
    ⟨[.dead, .val false [⟨(.sl (.sl (.int .i64))), .sh, x4⟩], .fnx ⟨[(false, (.sl (.int .i64))), (false, (.sl (.int .i64)))], [(.val false, .bool, .deep)]⟩ f5, .dead, .dead, .dead, .dead, .dead, .dead, .dead, .dead, .dead, .dead, .dead, .dead, .val false [⟨(.sl (.sl (.int .i64))), .sh, x6⟩], .val false [⟨(.int .i64), .sh, i7⟩], .val false [⟨(.int .i64), .sh, i8⟩]] ++ deads 14, []⟩
theorem slices_EqualFunc_LLint64_LLint64_Lint64_Lint64.l4_eq (k : Nat) (x4 : List (List Int)) (f5 : (List Int × List Int × Unit) → Option (Bool × Unit)) (x6 : List (List Int)) (i7 : Int) (i8 : Int) : slices_EqualFunc_LLint64_LLint64_Lint64_Lint64.l4 (k + 1) x4 f5 x6 i7 i8 =
  if (decide (i8 < i7)) = true then
    if 0 ≤ i8 ∧ i8 < (x6.length : Int) then
      if 0 ≤ i8 ∧ i8 < (x4.length : Int) then
        (f5 (x6.getD i8.toNat ([] : List Int), x4.getD i8.toNat ([] : List Int), ())).bind fun r9 =>
          if (!(r9.1 : Bool)) = true then
            some ((false, ()), ())
          else
            slices_EqualFunc_LLint64_LLint64_Lint64_Lint64.l4 k x4 f5 x6 i7 (IntKind.i64.wrap (i8 + (1 : Int)))
      else
        none
    else
      none
  else
    some ((true, ()), ()) := by kernel_rfl
noncomputable def slices_EqualFunc_LLint64_LLint64_Lint64_Lint64.T (k : Nat) (s1_1 : List (List Int)) (s2_2 : List (List Int)) (f_3 : (List Int × List Int × Unit) → Option (Bool × Unit)) : Option ((Bool × Unit) × (Unit)) :=
  if ((s1_1.length : Int) != (s2_2.length : Int)) = true then
    some ((false, ()), ())
  else
    slices_EqualFunc_LLint64_LLint64_Lint64_Lint64.l4 k s2_2 f_3 s1_1 (s1_1.length : Int) (0 : Int)
theorem slices_EqualFunc_LLint64_LLint64_Lint64_Lint64.run (k : Nat) (s1_1 : List (List Int)) (s2_2 : List (List Int)) (f_3 : (List Int × List Int × Unit) → Option (Bool × Unit)) : runFn slices_EqualFunc_LLint64_LLint64_Lint64_Lint64.cfg slices_EqualFunc_LLint64_LLint64_Lint64_Lint64.fin slices_EqualFunc_LLint64_LLint64_Lint64_Lint64.code (initSt slices_EqualFunc_LLint64_LLint64_Lint64_Lint64.sig.ps (s1_1, s2_2, f_3, ()) 32) k = slices_EqualFunc_LLint64_LLint64_Lint64_Lint64.T k s1_1 s2_2 f_3 := by kernel_rfl
theorem slices_EqualFunc_LLint64_LLint64_Lint64_Lint64.of (s1_1 : List (List Int)) (s2_2 : List (List Int)) (f_3 : (List Int × List Int × Unit) → Option (Bool × Unit)) {r : (Bool × Unit) × (Unit)} (h : Ev (fun k => slices_EqualFunc_LLint64_LLint64_Lint64_Lint64.T k s1_1 s2_2 f_3) r) : slices_EqualFunc_LLint64_LLint64_Lint64_Lint64.F (s1_1, s2_2, f_3, ()) = some r := Ev.run (fun k => slices_EqualFunc_LLint64_LLint64_Lint64_Lint64.run k s1_1 s2_2 f_3) h
theorem slices_EqualFunc_LLint64_LLint64_Lint64_Lint64.ok : CtxOK Go.Proofs.Tryz.prog slices_EqualFunc_LLint64_LLint64_Lint64_Lint64.ctx := ⟨List.forall_mem_nil _, mixed_ok, tab_ok tab_good, List.forall_mem_nil _, List.forall_mem_nil _, List.forall_mem_nil _⟩
theorem slices_EqualFunc_LLint64_LLint64_Lint64_Lint64.S : Sound Go.Proofs.Tryz.prog ⟨234, slices_EqualFunc_LLint64_LLint64_Lint64_Lint64.sig, slices_EqualFunc_LLint64_LLint64_Lint64_Lint64.F⟩ := sound_any (fn := Go.Proofs.Tryz.f234) (code := slices_EqualFunc_LLint64_LLint64_Lint64_Lint64.code) (g := slices_EqualFunc_LLint64_LLint64_Lint64_Lint64.cfg) (res := [.tmp 6]) Go.Proofs.Tryz.func234 (by kernel_rfl) (by kernel_rfl) slices_EqualFunc_LLint64_LLint64_Lint64_Lint64.ok (by kernel_rfl) (by kernel_rfl) (Nat.le_of_ble_eq_true (by kernel_rfl)) (by kernel_rfl)
/-! ### impl_areSame -/
noncomputable def impl_areSame.sig : Sig := ⟨[.val false (.sl (.sl (.int .i64))), .val false (.sl (.sl (.int .i64)))], [(.val false, .bool, .deep)]⟩
noncomputable def impl_areSame.ctx : Ctx := ⟨tabOf tabl, [⟨234, slices_EqualFunc_LLint64_LLint64_Lint64_Lint64.sig, slices_EqualFunc_LLint64_LLint64_Lint64_Lint64.F⟩], [slices_Equal_Lint64_int64.clo], [], [], []⟩
noncomputable def impl_areSame.cfg : Cfg := ⟨impl_areSame.ctx, [], [], fun _ => ([], []), fun _ => []⟩
noncomputable def impl_areSame.code : Code := (Go.Proofs.Tryz.f193).body.getD .skip
noncomputable def impl_areSame.fin := finK impl_areSame.ctx impl_areSame.sig [.tmp 4]
noncomputable def impl_areSame.F (d : List (List Int) × List (List Int) × Unit) : Option ((Bool × Unit) × (Unit)) := anyK (runFn impl_areSame.cfg impl_areSame.fin impl_areSame.code (initSt impl_areSame.sig.ps d 8))
noncomputable def impl_areSame.T (a_1 : List (List Int)) (b_2 : List (List Int)) : Option ((Bool × Unit) × (Unit)) :=
  (slices_EqualFunc_LLint64_LLint64_Lint64_Lint64.F (a_1, b_2, slices_Equal_Lint64_int64.cloG (()), ())).bind fun r3 =>
    some (((r3.1.1 : Bool), ()), ())
theorem impl_areSame.run (k : Nat) (a_1 : List (List Int)) (b_2 : List (List Int)) : runFn impl_areSame.cfg impl_areSame.fin impl_areSame.code (initSt impl_areSame.sig.ps (a_1, b_2, ()) 8) k = impl_areSame.T a_1 b_2 := by kernel_rfl
theorem impl_areSame.eq (a_1 : List (List Int)) (b_2 : List (List Int)) : impl_areSame.F (a_1, b_2, ()) = impl_areSame.T a_1 b_2 := (congrArg anyK (funext fun k => impl_areSame.run k a_1 b_2)).trans (anyK_const _)
theorem impl_areSame.ok : CtxOK Go.Proofs.Tryz.prog impl_areSame.ctx := ⟨List.forall_mem_nil _, mixed_ok, tab_ok tab_good, List.forall_mem_cons.2 ⟨slices_EqualFunc_LLint64_LLint64_Lint64_Lint64.S, List.forall_mem_nil _⟩, List.forall_mem_cons.2 ⟨slices_Equal_Lint64_int64.cloS, List.forall_mem_nil _⟩, List.forall_mem_nil _⟩
theorem impl_areSame.S : Sound Go.Proofs.Tryz.prog ⟨193, impl_areSame.sig, impl_areSame.F⟩ := sound_any (fn := Go.Proofs.Tryz.f193) (code := impl_areSame.code) (g := impl_areSame.cfg) (res := [.tmp 4]) Go.Proofs.Tryz.func193 (by kernel_rfl) (by kernel_rfl) impl_areSame.ok (by kernel_rfl) (by kernel_rfl) (Nat.le_of_ble_eq_true (by kernel_rfl)) (by kernel_rfl)
/-! ### impl_SameComplex -/
noncomputable def impl_SameComplex.sig : Sig := ⟨[.val true (.sl (.sl (.int .i64))), .val true (.sl (.sl (.int .i64)))], [(.val false, .bool, .deep)]⟩
noncomputable def impl_SameComplex.ctx : Ctx := ⟨tabOf tabl, [⟨193, impl_areSame.sig, impl_areSame.F⟩], [], [], [], []⟩
noncomputable def impl_SameComplex.cfg : Cfg := ⟨impl_SameComplex.ctx, [], [], fun _ => ([], []), fun _ => []⟩
noncomputable def impl_SameComplex.code : Code := (Go.Proofs.Tryz.f202).body.getD .skip
noncomputable def impl_SameComplex.fin := finK impl_SameComplex.ctx impl_SameComplex.sig [.tmp 4]
noncomputable def impl_SameComplex.F (d : List (List Int) × List (List Int) × Unit) : Option ((Bool × Unit) × (Unit)) := anyK (runFn impl_SameComplex.cfg impl_SameComplex.fin impl_SameComplex.code (initSt impl_SameComplex.sig.ps d 10))
noncomputable def impl_SameComplex.T (a_1 : List (List Int)) (b_2 : List (List Int)) : Option ((Bool × Unit) × (Unit)) :=
  (impl_areSame.F (a_1, b_2, ())).bind fun r3 =>
    some (((r3.1.1 : Bool), ()), ())
theorem impl_SameComplex.run (k : Nat) (a_1 : List (List Int)) (b_2 : List (List Int)) : runFn impl_SameComplex.cfg impl_SameComplex.fin impl_SameComplex.code (initSt impl_SameComplex.sig.ps (a_1, b_2, ()) 10) k = impl_SameComplex.T a_1 b_2 := by kernel_rfl
theorem impl_SameComplex.eq (a_1 : List (List Int)) (b_2 : List (List Int)) : impl_SameComplex.F (a_1, b_2, ()) = impl_SameComplex.T a_1 b_2 := (congrArg anyK (funext fun k => impl_SameComplex.run k a_1 b_2)).trans (anyK_const _)
theorem impl_SameComplex.ok : CtxOK Go.Proofs.Tryz.prog impl_SameComplex.ctx := ⟨List.forall_mem_nil _, mixed_ok, tab_ok tab_good, List.forall_mem_cons.2 ⟨impl_areSame.S, List.forall_mem_nil _⟩, List.forall_mem_nil _, List.forall_mem_nil _⟩
theorem impl_SameComplex.S : Sound Go.Proofs.Tryz.prog ⟨202, impl_SameComplex.sig, impl_SameComplex.F⟩ := sound_any (fn := Go.Proofs.Tryz.f202) (code := impl_SameComplex.code) (g := impl_SameComplex.cfg) (res := [.tmp 4]) Go.Proofs.Tryz.func202 (by kernel_rfl) (by kernel_rfl) impl_SameComplex.ok (by kernel_rfl) (by kernel_rfl) (Nat.le_of_ble_eq_true (by kernel_rfl)) (by kernel_rfl)
/-! ### impl_related -/
noncomputable def impl_related.sig : Sig := ⟨[.val true TSheaf, .val true TSheaf], [(.val false, .bool, .deep)]⟩
noncomputable def impl_related.ctx : Ctx := ⟨tabOf tabl, [⟨202, impl_SameComplex.sig, impl_SameComplex.F⟩], [], [], [], []⟩
noncomputable def impl_related.cfg : Cfg := ⟨impl_related.ctx, [], [], fun _ => ([], []), fun _ => []⟩
noncomputable def impl_related.code : Code := (Go.Proofs.Tryz.f140).body.getD .skip
noncomputable def impl_related.fin := finK impl_related.ctx impl_related.sig [.tmp 4]
noncomputable def impl_related.F (d : (List (List Int) × Int × List Int × List (Int × Int × Int × List Int)) × (List (List Int) × Int × List Int × List (Int × Int × Int × List Int)) × Unit) : Option ((Bool × Unit) × (Unit)) := anyK (runFn impl_related.cfg impl_related.fin impl_related.code (initSt impl_related.sig.ps d 17))
noncomputable def impl_related.T (a_1 : List (List Int)) (a_2 : Int) (a_3 : List Int) (a_4 : List (Int × Int × Int × List Int)) (b_5 : List (List Int)) (b_6 : Int) (b_7 : List Int) (b_8 : List (Int × Int × Int × List Int)) : Option ((Bool × Unit) × (Unit)) :=
  (impl_SameComplex.F (a_1, b_5, ())).bind fun r9 =>
    if (r9.1.1 : Bool) = true then
      some ((a_2 == b_6, ()), ())
    else
      some ((false, ()), ())
theorem impl_related.run (k : Nat) (a_1 : List (List Int)) (a_2 : Int) (a_3 : List Int) (a_4 : List (Int × Int × Int × List Int)) (b_5 : List (List Int)) (b_6 : Int) (b_7 : List Int) (b_8 : List (Int × Int × Int × List Int)) : runFn impl_related.cfg impl_related.fin impl_related.code (initSt impl_related.sig.ps ((a_1, (a_2, (a_3, a_4))), (b_5, (b_6, (b_7, b_8))), ()) 17) k = impl_related.T a_1 a_2 a_3 a_4 b_5 b_6 b_7 b_8 := by kernel_rfl
theorem impl_related.eq (a_1 : List (List Int)) (a_2 : Int) (a_3 : List Int) (a_4 : List (Int × Int × Int × List Int)) (b_5 : List (List Int)) (b_6 : Int) (b_7 : List Int) (b_8 : List (Int × Int × Int × List Int)) : impl_related.F ((a_1, (a_2, (a_3, a_4))), (b_5, (b_6, (b_7, b_8))), ()) = impl_related.T a_1 a_2 a_3 a_4 b_5 b_6 b_7 b_8 := (congrArg anyK (funext fun k => impl_related.run k a_1 a_2 a_3 a_4 b_5 b_6 b_7 b_8)).trans (anyK_const _)
theorem impl_related.ok : CtxOK Go.Proofs.Tryz.prog impl_related.ctx := ⟨List.forall_mem_nil _, mixed_ok, tab_ok tab_good, List.forall_mem_cons.2 ⟨impl_SameComplex.S, List.forall_mem_nil _⟩, List.forall_mem_nil _, List.forall_mem_nil _⟩
theorem impl_related.S : Sound Go.Proofs.Tryz.prog ⟨140, impl_related.sig, impl_related.F⟩ := sound_any (fn := Go.Proofs.Tryz.f140) (code := impl_related.code) (g := impl_related.cfg) (res := [.tmp 4]) Go.Proofs.Tryz.func140 (by kernel_rfl) (by kernel_rfl) impl_related.ok (by kernel_rfl) (by kernel_rfl) (Nat.le_of_ble_eq_true (by kernel_rfl)) (by kernel_rfl)
/-! ### impl_areSheaves_2 -/
noncomputable def impl_areSheaves_2.sig : Sig := ⟨[.val true TSheaf, .rptr (.sl TSheaf)], [(.val false, .bool, .deep)]⟩
noncomputable def impl_areSheaves_2.ctx : Ctx := ⟨tabOf tabl, [⟨140, impl_related.sig, impl_related.F⟩], [], [], [], []⟩
noncomputable def impl_areSheaves_2.cfg : Cfg := ⟨impl_areSheaves_2.ctx, [], [], fun _ => ([], []), fun _ => []⟩
noncomputable def impl_areSheaves_2.code : Code := (Go.Proofs.Tryz.f139).body.getD .skip
noncomputable def impl_areSheaves_2.fin := finK impl_areSheaves_2.ctx impl_areSheaves_2.sig [.tmp 3]
noncomputable def impl_areSheaves_2.F (d : (List (List Int) × Int × List Int × List (Int × Int × Int × List Int)) × List (List (List Int) × Int × List Int × List (Int × Int × Int × List Int)) × Unit) : Option ((Bool × Unit) × (Unit)) := anyK (runFn impl_areSheaves_2.cfg impl_areSheaves_2.fin impl_areSheaves_2.code (initSt impl_areSheaves_2.sig.ps d 10))
noncomputable def impl_areSheaves_2.T (s_1 : List (List Int)) (s_2 : Int) (s_3 : List Int) (s_4 : List (Int × Int × Int × List Int)) (a_5 : List (List (List Int) × Int × List Int × List (Int × Int × Int × List Int))) : Option ((Bool × Unit) × (Unit)) :=
  if 0 ≤ (0 : Int) ∧ (0 : Int) < (a_5.length : Int) then
    (impl_related.F ((s_1, (s_2, (s_3, s_4))), a_5.getD (0 : Int).toNat (([] : List (List Int)), 0, ([] : List Int), ([] : List (Int × Int × Int × List Int))), ())).bind fun r6 =>
      some ((!(r6.1.1 : Bool), ()), ())
  else
    none
theorem impl_areSheaves_2.run (k : Nat) (s_1 : List (List Int)) (s_2 : Int) (s_3 : List Int) (s_4 : List (Int × Int × Int × List Int)) (a_5 : List (List (List Int) × Int × List Int × List (Int × Int × Int × List Int))) : runFn impl_areSheaves_2.cfg impl_areSheaves_2.fin impl_areSheaves_2.code (initSt impl_areSheaves_2.sig.ps ((s_1, (s_2, (s_3, s_4))), a_5, ()) 10) k = impl_areSheaves_2.T s_1 s_2 s_3 s_4 a_5 := by kernel_rfl
theorem impl_areSheaves_2.eq (s_1 : List (List Int)) (s_2 : Int) (s_3 : List Int) (s_4 : List (Int × Int × Int × List Int)) (a_5 : List (List (List Int) × Int × List Int × List (Int × Int × Int × List Int))) : impl_areSheaves_2.F ((s_1, (s_2, (s_3, s_4))), a_5, ()) = impl_areSheaves_2.T s_1 s_2 s_3 s_4 a_5 := (congrArg anyK (funext fun k => impl_areSheaves_2.run k s_1 s_2 s_3 s_4 a_5)).trans (anyK_const _)
theorem impl_areSheaves_2.ok : CtxOK Go.Proofs.Tryz.prog impl_areSheaves_2.ctx := ⟨List.forall_mem_nil _, mixed_ok, tab_ok tab_good, List.forall_mem_cons.2 ⟨impl_related.S, List.forall_mem_nil _⟩, List.forall_mem_nil _, List.forall_mem_nil _⟩
theorem impl_areSheaves_2.S : Sound Go.Proofs.Tryz.prog ⟨139, impl_areSheaves_2.sig, impl_areSheaves_2.F⟩ := sound_any (fn := Go.Proofs.Tryz.f139) (code := impl_areSheaves_2.code) (g := impl_areSheaves_2.cfg) (res := [.tmp 3]) Go.Proofs.Tryz.func139 (by kernel_rfl) (by kernel_rfl) impl_areSheaves_2.ok (by kernel_rfl) (by kernel_rfl) (Nat.le_of_ble_eq_true (by kernel_rfl)) (by kernel_rfl)
noncomputable def impl_areSheaves_2.cloG (y : List (List (List Int) × Int × List Int × List (Int × Int × Int × List Int)) × Unit) (d : (List (List Int) × Int × List Int × List (Int × Int × Int × List Int)) × Unit) : Option (Bool × Unit) := (impl_areSheaves_2.F (joinIns [.rptr (.sl TSheaf)] [(true, TSheaf)] d y)).map (·.1)
noncomputable def impl_areSheaves_2.clo : Clo := ⟨139, ⟨[(true, TSheaf)], [(.val false, .bool, .deep)]⟩, [.rptr (.sl TSheaf)], impl_areSheaves_2.cloG⟩
theorem impl_areSheaves_2.cloS : SoundClo Go.Proofs.Tryz.prog impl_areSheaves_2.clo := sound_clo (s := ⟨[(true, TSheaf)], [(.val false, .bool, .deep)]⟩) (caps := [.rptr (.sl TSheaf)]) rfl impl_areSheaves_2.S
/-! ### impl_areSheaves -/
noncomputable def impl_areSheaves.sig : Sig := ⟨[.val false (.sl TSheaf)], [(.val false, (.int .i64), .deep)]⟩
noncomputable def impl_areSheaves.ctx : Ctx := ⟨tabOf tabl, [⟨137, slices_ContainsFunc_Limpl_Sheaf_impl_Sheaf.sig, slices_ContainsFunc_Limpl_Sheaf_impl_Sheaf.F⟩], [impl_areSheaves_1.clo, impl_areSheaves_2.clo], [], [], []⟩
noncomputable def impl_areSheaves.cfg : Cfg := ⟨impl_areSheaves.ctx, [], [], fun _ => ([], []), fun _ => []⟩
noncomputable def impl_areSheaves.code : Code := (Go.Proofs.Tryz.f70).body.getD .skip
noncomputable def impl_areSheaves.fin := finK impl_areSheaves.ctx impl_areSheaves.sig [.tmp 2]
noncomputable def impl_areSheaves.F (d : List (List (List Int) × Int × List Int × List (Int × Int × Int × List Int)) × Unit) : Option ((Int × Unit) × (Unit)) := anyK (runFn impl_areSheaves.cfg impl_areSheaves.fin impl_areSheaves.code (initSt impl_areSheaves.sig.ps d 8))
noncomputable def impl_areSheaves.T (list_1 : List (List (List Int) × Int × List Int × List (Int × Int × Int × List Int))) : Option ((Int × Unit) × (Unit)) :=
  (slices_ContainsFunc_Limpl_Sheaf_impl_Sheaf.F (list_1, impl_areSheaves_1.cloG (()), ())).bind fun r2 =>
    if (r2.1.1 : Bool) = true then
      some (((1 : Int), ()), ())
    else
      (slices_ContainsFunc_Limpl_Sheaf_impl_Sheaf.F (list_1, impl_areSheaves_2.cloG (list_1, ()), ())).bind fun r3 =>
        if (r3.1.1 : Bool) = true then
          some (((6 : Int), ()), ())
        else
          some (((0 : Int), ()), ())
theorem impl_areSheaves.run (k : Nat) (list_1 : List (List (List Int) × Int × List Int × List (Int × Int × Int × List Int))) : runFn impl_areSheaves.cfg impl_areSheaves.fin impl_areSheaves.code (initSt impl_areSheaves.sig.ps (list_1, ()) 8) k = impl_areSheaves.T list_1 := by kernel_rfl
theorem impl_areSheaves.eq (list_1 : List (List (List Int) × Int × List Int × List (Int × Int × Int × List Int))) : impl_areSheaves.F (list_1, ()) = impl_areSheaves.T list_1 := (congrArg anyK (funext fun k => impl_areSheaves.run k list_1)).trans (anyK_const _)
theorem impl_areSheaves.ok : CtxOK Go.Proofs.Tryz.prog impl_areSheaves.ctx := ⟨List.forall_mem_nil _, mixed_ok, tab_ok tab_good, List.forall_mem_cons.2 ⟨slices_ContainsFunc_Limpl_Sheaf_impl_Sheaf.S, List.forall_mem_nil _⟩, List.forall_mem_cons.2 ⟨impl_areSheaves_1.cloS, List.forall_mem_cons.2 ⟨impl_areSheaves_2.cloS, List.forall_mem_nil _⟩⟩, List.forall_mem_nil _⟩
theorem impl_areSheaves.S : Sound Go.Proofs.Tryz.prog ⟨70, impl_areSheaves.sig, impl_areSheaves.F⟩ := sound_any (fn := Go.Proofs.Tryz.f70) (code := impl_areSheaves.code) (g := impl_areSheaves.cfg) (res := [.tmp 2]) Go.Proofs.Tryz.func70 (by kernel_rfl) (by kernel_rfl) impl_areSheaves.ok (by kernel_rfl) (by kernel_rfl) (Nat.le_of_ble_eq_true (by kernel_rfl)) (by kernel_rfl)
/-! ### impl_zero_1 -/
noncomputable def impl_zero_1.sig : Sig := ⟨[.val false (.int .i64), .val false (.int .i64)], [(.val false, (.int .i64), .deep)]⟩
noncomputable def impl_zero_1.ctx : Ctx := ⟨tabOf tabl, [], [], [], [], []⟩
noncomputable def impl_zero_1.cfg : Cfg := ⟨impl_zero_1.ctx, [], [], fun _ => ([], []), fun _ => []⟩
noncomputable def impl_zero_1.code : Code := (Go.Proofs.Tryz.f145).body.getD .skip
noncomputable def impl_zero_1.fin := finK impl_zero_1.ctx impl_zero_1.sig [.tmp 4]
noncomputable def impl_zero_1.F (d : Int × Int × Unit) : Option ((Int × Unit) × (Unit)) := anyK (runFn impl_zero_1.cfg impl_zero_1.fin impl_zero_1.code (initSt impl_zero_1.sig.ps d 5))
noncomputable def impl_zero_1.T (i_1 : Int) (j_2 : Int) : Option ((Int × Unit) × (Unit)) :=
  some (((0 : Int), ()), ())
theorem impl_zero_1.run (k : Nat) (i_1 : Int) (j_2 : Int) : runFn impl_zero_1.cfg impl_zero_1.fin impl_zero_1.code (initSt impl_zero_1.sig.ps (i_1, j_2, ()) 5) k = impl_zero_1.T i_1 j_2 := by kernel_rfl
theorem impl_zero_1.eq (i_1 : Int) (j_2 : Int) : impl_zero_1.F (i_1, j_2, ()) = impl_zero_1.T i_1 j_2 := (congrArg anyK (funext fun k => impl_zero_1.run k i_1 j_2)).trans (anyK_const _)
theorem impl_zero_1.ok : CtxOK Go.Proofs.Tryz.prog impl_zero_1.ctx := ⟨List.forall_mem_nil _, mixed_ok, tab_ok tab_good, List.forall_mem_nil _, List.forall_mem_nil _, List.forall_mem_nil _⟩
theorem impl_zero_1.S : Sound Go.Proofs.Tryz.prog ⟨145, impl_zero_1.sig, impl_zero_1.F⟩ := sound_any (fn := Go.Proofs.Tryz.f145) (code := impl_zero_1.code) (g := impl_zero_1.cfg) (res := [.tmp 4]) Go.Proofs.Tryz.func145 (by kernel_rfl) (by kernel_rfl) impl_zero_1.ok (by kernel_rfl) (by kernel_rfl) (Nat.le_of_ble_eq_true (by kernel_rfl)) (by kernel_rfl)
noncomputable def impl_zero_1.cloG (y : Unit) (d : Int × Int × Unit) : Option (Int × Unit) := (impl_zero_1.F (joinIns [] [(false, (.int .i64)), (false, (.int .i64))] d y)).map (·.1)
noncomputable def impl_zero_1.clo : Clo := ⟨145, ⟨[(false, (.int .i64)), (false, (.int .i64))], [(.val false, (.int .i64), .deep)]⟩, [], impl_zero_1.cloG⟩
theorem impl_zero_1.cloS : SoundClo Go.Proofs.Tryz.prog impl_zero_1.clo := sound_clo (s := ⟨[(false, (.int .i64)), (false, (.int .i64))], [(.val false, (.int .i64), .deep)]⟩) (caps := []) rfl impl_zero_1.S
/-! ### impl_zero -/
noncomputable def impl_zero.sig : Sig := ⟨[.val false (.int .i64), .val false (.int .i64), .val false (.int .i64)], [(.val true, TMatrix, .deep)]⟩
noncomputable def impl_zero.ctx : Ctx := ⟨tabOf tabl, [⟨144, impl_filled.sig, impl_filled.F⟩], [impl_zero_1.clo], [], [], []⟩
noncomputable def impl_zero.cfg : Cfg := ⟨impl_zero.ctx, [], [], fun _ => ([], []), fun _ => []⟩
noncomputable def impl_zero.code : Code := (Go.Proofs.Tryz.f74).body.getD .skip
noncomputable def impl_zero.fin := finK impl_zero.ctx impl_zero.sig [.cell 6 65]
noncomputable def impl_zero.F (d : Int × Int × Int × Unit) : Option (((Int × Int × Int × List Int) × Unit) × (Unit)) := anyK (runFn impl_zero.cfg impl_zero.fin impl_zero.code (initSt impl_zero.sig.ps d 11))
noncomputable def impl_zero.T (p_1 : Int) (rows_2 : Int) (columns_3 : Int) : Option (((Int × Int × Int × List Int) × Unit) × (Unit)) :=
  (impl_filled.F (p_1, rows_2, columns_3, impl_zero_1.cloG (()), ())).bind fun r4 =>
    some ((r4.1.1, ()), ())
theorem impl_zero.run (k : Nat) (p_1 : Int) (rows_2 : Int) (columns_3 : Int) : runFn impl_zero.cfg impl_zero.fin impl_zero.code (initSt impl_zero.sig.ps (p_1, rows_2, columns_3, ()) 11) k = impl_zero.T p_1 rows_2 columns_3 := by kernel_rfl
theorem impl_zero.eq (p_1 : Int) (rows_2 : Int) (columns_3 : Int) : impl_zero.F (p_1, rows_2, columns_3, ()) = impl_zero.T p_1 rows_2 columns_3 := (congrArg anyK (funext fun k => impl_zero.run k p_1 rows_2 columns_3)).trans (anyK_const _)
theorem impl_zero.ok : CtxOK Go.Proofs.Tryz.prog impl_zero.ctx := ⟨List.forall_mem_nil _, mixed_ok, tab_ok tab_good, List.forall_mem_cons.2 ⟨impl_filled.S, List.forall_mem_nil _⟩, List.forall_mem_cons.2 ⟨impl_zero_1.cloS, List.forall_mem_nil _⟩, List.forall_mem_nil _⟩
theorem impl_zero.S : Sound Go.Proofs.Tryz.prog ⟨74, impl_zero.sig, impl_zero.F⟩ := sound_any (fn := Go.Proofs.Tryz.f74) (code := impl_zero.code) (g := impl_zero.cfg) (res := [.cell 6 65]) Go.Proofs.Tryz.func74 (by kernel_rfl) (by kernel_rfl) impl_zero.ok (by kernel_rfl) (by kernel_rfl) (Nat.le_of_ble_eq_true (by kernel_rfl)) (by kernel_rfl)
/-! ### impl_ZeroMorphism -/
noncomputable def impl_ZeroMorphism.sig : Sig := ⟨[.val true TSheaf, .val true TSheaf], [(.val false, (.sl TMatrix), .deep), (.val false, (.int .i64), .deep)]⟩
noncomputable def impl_ZeroMorphism.ctx : Ctx := ⟨tabOf tabl, [⟨70, impl_areSheaves.sig, impl_areSheaves.F⟩, ⟨74, impl_zero.sig, impl_zero.F⟩], [], [], [], []⟩
noncomputable def impl_ZeroMorphism.cfg : Cfg := ⟨impl_ZeroMorphism.ctx, [], [], fun id => match id with | 6 => ([2, 3, 7, 18, 19, 20], [8, 12, 28]) | _ => ([], []), fun _ => []⟩
noncomputable def impl_ZeroMorphism.code : Code := (Go.Proofs.Tryz.f28).body.getD .skip
noncomputable def impl_ZeroMorphism.fin := finK impl_ZeroMorphism.ctx impl_ZeroMorphism.sig [.tmp 4, .tmp 5]
noncomputable def impl_ZeroMorphism.F (d : (List (List Int) × Int × List Int × List (Int × Int × Int × List Int)) × (List (List Int) × Int × List Int × List (Int × Int × Int × List Int)) × Unit) : Option ((List (Int × Int × Int × List Int) × Int × Unit) × (Unit)) := anyK (runFn impl_ZeroMorphism.cfg impl_ZeroMorphism.fin impl_ZeroMorphism.code (initSt impl_ZeroMorphism.sig.ps d 39))
noncomputable def impl_ZeroMorphism.l6 (k : Nat) (x10 : List Int) (i11 : Int) (i12 : Int) (x13 : List (List Int)) (i14 : Int) (x15 : List Int) (x16 : List (Int × Int × Int × List Int)) (x17 : List (List Int)) (i18 : Int) (x19 : List Int) (x20 : List (Int × Int × Int × List Int)) (x21 : List (Int × Int × Int × List Int)) : Option ((List (Int × Int × Int × List Int) × Int × Unit) × (Unit)) :=
  Go.Vm.runT impl_ZeroMorphism.cfg impl_ZeroMorphism.fin k [.inLoop (sub [1, 1, 1, 0, 1, 0, 0] impl_ZeroMorphism.code), .inBlock 0, .code (sub [1, 1, 1, 1] impl_ZeroMorphism.code)]
    ⟨[.dead, .dead, .ref 8 (.root 0), .ref 12 (.root 0), .dead, .dead, .dead, .view 28 (.root 0) 1 false, .dead, .dead, .dead, .dead, .dead, .dead, .dead, .dead, .dead, .dead, .val false [⟨(.sl (.int .i64)), .sh, x10⟩], .val false [⟨(.int .i64), .sh, i11⟩], .val false [⟨(.int .i64), .sh, i12⟩]] ++ deads 18, [(8, ⟨true, [⟨(.sl (.sl (.int .i64))), .sh, x13⟩, ⟨(.int .i64), .sh, i14⟩, ⟨(.sl (.int .i64)), .sh, x15⟩, ⟨(.sl TMatrix), .sh, x16⟩]⟩), (12, ⟨true, [⟨(.sl (.sl (.int .i64))), .sh, x17⟩, ⟨(.int .i64), .sh, i18⟩, ⟨(.sl (.int .i64)), .sh, x19⟩, ⟨(.sl TMatrix), .sh, x20⟩]⟩), (28, ⟨false, [⟨(.sl TMatrix), .deep, x21⟩]⟩)]⟩
theorem impl_ZeroMorphism.l6_eq (k : Nat) (x10 : List Int) (i11 : Int) (i12 : Int) (x13 : List (List Int)) (i14 : Int) (x15 : List Int) (x16 : List (Int × Int × Int × List Int)) (x17 : List (List Int)) (i18 : Int) (x19 : List Int) (x20 : List (Int × Int × Int × List Int)) (x21 : List (Int × Int × Int × List Int)) : impl_ZeroMorphism.l6 (k + 1) x10 i11 i12 x13 i14 x15 x16 x17 i18 x19 x20 x21 =
  if (decide (i12 < i11)) = true then
    if 0 ≤ i12 ∧ i12 < (x10.length : Int) then
      if 0 ≤ i12 ∧ i12 < (x19.length : Int) then
        (impl_zero.F (i14, (x19.getD i12.toNat 0 : Int), (x10.getD i12.toNat 0 : Int), ())).bind fun r22 =>
          if x21.length + ([r22.1.1] : List (Int × Int × Int × List Int)).length ≤ bigA then
            impl_ZeroMorphism.l6 k x10 i11 (IntKind.i64.wrap (i12 + (1 : Int))) x13 i14 x15 x16 x17 i18 x19 x20 (x21 ++ ([r22.1.1]))
          else
            none
      else
        none
    else
      none
  else
    some ((x21, ((0 : Int), ())), ()) := by kernel_rfl
noncomputable def impl_ZeroMorphism.T (k : Nat) (a_1 : List (List Int)) (a_2 : Int) (a_3 : List Int) (a_4 : List (Int × Int × Int × List Int)) (b_5 : List (List Int)) (b_6 : Int) (b_7 : List Int) (b_8 : List (Int × Int × Int × List Int)) : Option ((List (Int × Int × Int × List Int) × Int × Unit) × (Unit)) :=
  (impl_areSheaves.F ([(a_1, (a_2, (a_3, a_4))), (b_5, (b_6, (b_7, b_8)))], ())).bind fun r9 =>
    if ((r9.1.1 : Int) != (0 : Int)) = true then
      some (([], ((r9.1.1 : Int), ())), ())
    else
      impl_ZeroMorphism.l6 k a_3 (a_3.length : Int) (0 : Int) a_1 a_2 a_3 a_4 b_5 b_6 b_7 b_8 ([])
theorem impl_ZeroMorphism.run (k : Nat) (a_1 : List (List Int)) (a_2 : Int) (a_3 : List Int) (a_4 : List (Int × Int × Int × List Int)) (b_5 : List (List Int)) (b_6 : Int) (b_7 : List Int) (b_8 : List (Int × Int × Int × List Int)) : runFn impl_ZeroMorphism.cfg impl_ZeroMorphism.fin impl_ZeroMorphism.code (initSt impl_ZeroMorphism.sig.ps ((a_1, (a_2, (a_3, a_4))), (b_5, (b_6, (b_7, b_8))), ()) 39) k = impl_ZeroMorphism.T k a_1 a_2 a_3 a_4 b_5 b_6 b_7 b_8 := by kernel_rfl
theorem impl_ZeroMorphism.of (a_1 : List (List Int)) (a_2 : Int) (a_3 : List Int) (a_4 : List (Int × Int × Int × List Int)) (b_5 : List (List Int)) (b_6 : Int) (b_7 : List Int) (b_8 : List (Int × Int × Int × List Int)) {r : (List (Int × Int × Int × List Int) × Int × Unit) × (Unit)} (h : Ev (fun k => impl_ZeroMorphism.T k a_1 a_2 a_3 a_4 b_5 b_6 b_7 b_8) r) : impl_ZeroMorphism.F ((a_1, (a_2, (a_3, a_4))), (b_5, (b_6, (b_7, b_8))), ()) = some r := Ev.run (fun k => impl_ZeroMorphism.run k a_1 a_2 a_3 a_4 b_5 b_6 b_7 b_8) h
theorem impl_ZeroMorphism.ok : CtxOK Go.Proofs.Tryz.prog impl_ZeroMorphism.ctx := ⟨List.forall_mem_nil _, mixed_ok, tab_ok tab_good, List.forall_mem_cons.2 ⟨impl_areSheaves.S, List.forall_mem_cons.2 ⟨impl_zero.S, List.forall_mem_nil _⟩⟩, List.forall_mem_nil _, List.forall_mem_nil _⟩
theorem impl_ZeroMorphism.S : Sound Go.Proofs.Tryz.prog ⟨28, impl_ZeroMorphism.sig, impl_ZeroMorphism.F⟩ := sound_any (fn := Go.Proofs.Tryz.f28) (code := impl_ZeroMorphism.code) (g := impl_ZeroMorphism.cfg) (res := [.tmp 4, .tmp 5]) Go.Proofs.Tryz.func28 (by kernel_rfl) (by kernel_rfl) impl_ZeroMorphism.ok (by kernel_rfl) (by kernel_rfl) (Nat.le_of_ble_eq_true (by kernel_rfl)) (by kernel_rfl)
/-! ### laws_markInt64S -/
noncomputable def laws_markInt64S.sig : Sig := ⟨[.wr false (.sl (.int .i64)) .deep, .val false (.int .i64)], [(.val false, (.int .i64), .deep)]⟩
noncomputable def laws_markInt64S.ctx : Ctx := ⟨tabOf tabl, [], [], [], [], []⟩
noncomputable def laws_markInt64S.cfg : Cfg := ⟨laws_markInt64S.ctx, [0], [], fun id => match id with | 2 => ([0, 1, 5], [0]) | _ => ([], []), fun _ => []⟩
noncomputable def laws_markInt64S.code : Code := (Go.Proofs.Tryz.f40).body.getD .skip
noncomputable def laws_markInt64S.fin := finK laws_markInt64S.ctx laws_markInt64S.sig [.tmp 4]
noncomputable def laws_markInt64S.F (d : List Int × Int × Unit) : Option ((Int × Unit) × (List Int × Unit)) := anyK (runFn laws_markInt64S.cfg laws_markInt64S.fin laws_markInt64S.code (initSt laws_markInt64S.sig.ps d 19))
noncomputable def laws_markInt64S.l2 (k : Nat) (i3 : Int) (i4 : Int) (x5 : List Int) : Option ((Int × Unit) × (List Int × Unit)) :=
  Go.Vm.runT laws_markInt64S.cfg laws_markInt64S.fin k [.inLoop (sub [1, 0, 1, 0, 0] laws_markInt64S.code), .inBlock 0, .code (sub [1, 1] laws_markInt64S.code)]
    ⟨[.view 0 (.root 0) 1 false, .val false [⟨(.int .i64), .sh, i3⟩], .dead, .dead, .dead, .val false [⟨(.int .i64), .sh, i4⟩]] ++ deads 13, [(0, ⟨false, [⟨(.sl (.int .i64)), .deep, x5⟩]⟩)]⟩
theorem laws_markInt64S.l2_eq (k : Nat) (i3 : Int) (i4 : Int) (x5 : List Int) : laws_markInt64S.l2 (k + 1) i3 i4 x5 =
  if (decide (i4 < (x5.length : Int))) = true then
    if 0 ≤ i4 ∧ i4 < (x5.length : Int) then
      laws_markInt64S.l2 k (IntKind.i64.wrap (i3 + (1 : Int))) (IntKind.i64.wrap (i4 + (1 : Int))) (x5.set i4.toNat i3)
    else
      none
  else
    some ((i3, ()), (x5, ())) := by kernel_rfl
noncomputable def laws_markInt64S.T (k : Nat) (a_1 : List Int) (k_2 : Int) : Option ((Int × Unit) × (List Int × Unit)) :=
  laws_markInt64S.l2 k k_2 (0 : Int) a_1
theorem laws_markInt64S.run (k : Nat) (a_1 : List Int) (k_2 : Int) : runFn laws_markInt64S.cfg laws_markInt64S.fin laws_markInt64S.code (initSt laws_markInt64S.sig.ps (a_1, k_2, ()) 19) k = laws_markInt64S.T k a_1 k_2 := by kernel_rfl
theorem laws_markInt64S.of (a_1 : List Int) (k_2 : Int) {r : (Int × Unit) × (List Int × Unit)} (h : Ev (fun k => laws_markInt64S.T k a_1 k_2) r) : laws_markInt64S.F (a_1, k_2, ()) = some r := Ev.run (fun k => laws_markInt64S.run k a_1 k_2) h
theorem laws_markInt64S.ok : CtxOK Go.Proofs.Tryz.prog laws_markInt64S.ctx := ⟨List.forall_mem_nil _, mixed_ok, tab_ok tab_good, List.forall_mem_nil _, List.forall_mem_nil _, List.forall_mem_nil _⟩
theorem laws_markInt64S.S : Sound Go.Proofs.Tryz.prog ⟨40, laws_markInt64S.sig, laws_markInt64S.F⟩ := sound_any (fn := Go.Proofs.Tryz.f40) (code := laws_markInt64S.code) (g := laws_markInt64S.cfg) (res := [.tmp 4]) Go.Proofs.Tryz.func40 (by kernel_rfl) (by kernel_rfl) laws_markInt64S.ok (by kernel_rfl) (by kernel_rfl) (Nat.le_of_ble_eq_true (by kernel_rfl)) (by kernel_rfl)
/-! ### laws_markMatrixS -/
noncomputable def laws_markMatrixS.sig : Sig := ⟨[.wr false (.sl TMatrix) .deep, .val false (.int .i64)], [(.val false, (.int .i64), .deep)]⟩
noncomputable def laws_markMatrixS.ctx : Ctx := ⟨tabOf tabl, [⟨40, laws_markInt64S.sig, laws_markInt64S.F⟩], [], [], [], []⟩
noncomputable def laws_markMatrixS.cfg : Cfg := ⟨laws_markMatrixS.ctx, [0], [], fun id => match id with | 2 => ([0, 1, 5], [0]) | _ => ([], []), fun _ => []⟩
noncomputable def laws_markMatrixS.code : Code := (Go.Proofs.Tryz.f30).body.getD .skip
noncomputable def laws_markMatrixS.fin := finK laws_markMatrixS.ctx laws_markMatrixS.sig [.tmp 4]
noncomputable def laws_markMatrixS.F (d : List (Int × Int × Int × List Int) × Int × Unit) : Option ((Int × Unit) × (List (Int × Int × Int × List Int) × Unit)) := anyK (runFn laws_markMatrixS.cfg laws_markMatrixS.fin laws_markMatrixS.code (initSt laws_markMatrixS.sig.ps d 41))
noncomputable def laws_markMatrixS.l2 (k : Nat) (i3 : Int) (i4 : Int) (x5 : List (Int × Int × Int × List Int)) : Option ((Int × Unit) × (List (Int × Int × Int × List Int) × Unit)) :=
  Go.Vm.runT laws_markMatrixS.cfg laws_markMatrixS.fin k [.inLoop (sub [1, 0, 1, 0, 0] laws_markMatrixS.code), .inBlock 0, .code (sub [1, 1] laws_markMatrixS.code)]
    ⟨[.view 0 (.root 0) 1 false, .val false [⟨(.int .i64), .sh, i3⟩], .dead, .dead, .dead, .val false [⟨(.int .i64), .sh, i4⟩]] ++ deads 35, [(0, ⟨false, [⟨(.sl TMatrix), .deep, x5⟩]⟩)]⟩
theorem laws_markMatrixS.l2_eq (k : Nat) (i3 : Int) (i4 : Int) (x5 : List (Int × Int × Int × List Int)) : laws_markMatrixS.l2 (k + 1) i3 i4 x5 =
  if (decide (i4 < (x5.length : Int))) = true then
    if 0 ≤ i4 ∧ i4 < (x5.length : Int) then
      if 0 ≤ i4 ∧ i4 < ((x5.set i4.toNat (i3, (x5.getD i4.toNat (0, 0, 0, ([] : List Int))).2)).length : Int) then
        let y6 : List (Int × Int × Int × List Int) := (x5.set i4.toNat (i3, (x5.getD i4.toNat (0, 0, 0, ([] : List Int))).2)).set i4.toNat (((x5.set i4.toNat (i3, (x5.getD i4.toNat (0, 0, 0, ([] : List Int))).2)).getD i4.toNat (0, 0, 0, ([] : List Int))).1, (IntKind.i64.wrap (i3 + (1 : Int)), (((x5.set i4.toNat (i3, (x5.getD i4.toNat (0, 0, 0, ([] : List Int))).2)).getD i4.toNat (0, 0, 0, ([] : List Int))).2).2))
        if 0 ≤ i4 ∧ i4 < (y6.length : Int) then
          let y7 : List (Int × Int × Int × List Int) := y6.set i4.toNat ((y6.getD i4.toNat (0, 0, 0, ([] : List Int))).1, (((y6.getD i4.toNat (0, 0, 0, ([] : List Int))).2).1, (IntKind.i64.wrap ((IntKind.i64.wrap (i3 + (1 : Int))) + (1 : Int)), (((y6.getD i4.toNat (0, 0, 0, ([] : List Int))).2).2).2)))
          if 0 ≤ i4 ∧ i4 < (y7.length : Int) then
            (laws_markInt64S.F ((((y7.getD i4.toNat (0, 0, 0, ([] : List Int))).2).2).2, IntKind.i64.wrap ((IntKind.i64.wrap ((IntKind.i64.wrap (i3 + (1 : Int))) + (1 : Int))) + (1 : Int)), ())).bind fun r8 =>
              laws_markMatrixS.l2 k (r8.1.1 : Int) (IntKind.i64.wrap (i4 + (1 : Int))) (y7.set i4.toNat ((y7.getD i4.toNat (0, 0, 0, ([] : List Int))).1, (((y7.getD i4.toNat (0, 0, 0, ([] : List Int))).2).1, ((((y7.getD i4.toNat (0, 0, 0, ([] : List Int))).2).2).1, r8.2.1))))
          else
            none
        else
          none
      else
        none
    else
      none
  else
    some ((i3, ()), (x5, ())) := by kernel_rfl
noncomputable def laws_markMatrixS.T (k : Nat) (a_1 : List (Int × Int × Int × List Int)) (k_2 : Int) : Option ((Int × Unit) × (List (Int × Int × Int × List Int) × Unit)) :=
  laws_markMatrixS.l2 k k_2 (0 : Int) a_1
theorem laws_markMatrixS.run (k : Nat) (a_1 : List (Int × Int × Int × List Int)) (k_2 : Int) : runFn laws_markMatrixS.cfg laws_markMatrixS.fin laws_markMatrixS.code (initSt laws_markMatrixS.sig.ps (a_1, k_2, ()) 41) k = laws_markMatrixS.T k a_1 k_2 := by kernel_rfl
theorem laws_markMatrixS.of (a_1 : List (Int × Int × Int × List Int)) (k_2 : Int) {r : (Int × Unit) × (List (Int × Int × Int × List Int) × Unit)} (h : Ev (fun k => laws_markMatrixS.T k a_1 k_2) r) : laws_markMatrixS.F (a_1, k_2, ()) = some r := Ev.run (fun k => laws_markMatrixS.run k a_1 k_2) h
theorem laws_markMatrixS.ok : CtxOK Go.Proofs.Tryz.prog laws_markMatrixS.ctx := ⟨List.forall_mem_nil _, mixed_ok, tab_ok tab_good, List.forall_mem_cons.2 ⟨laws_markInt64S.S, List.forall_mem_nil _⟩, List.forall_mem_nil _, List.forall_mem_nil _⟩
theorem laws_markMatrixS.S : Sound Go.Proofs.Tryz.prog ⟨30, laws_markMatrixS.sig, laws_markMatrixS.F⟩ := sound_any (fn := Go.Proofs.Tryz.f30) (code := laws_markMatrixS.code) (g := laws_markMatrixS.cfg) (res := [.tmp 4]) Go.Proofs.Tryz.func30 (by kernel_rfl) (by kernel_rfl) laws_markMatrixS.ok (by kernel_rfl) (by kernel_rfl) (Nat.le_of_ble_eq_true (by kernel_rfl)) (by kernel_rfl)
/-! ### laws_markInt64SS -/
noncomputable def laws_markInt64SS.sig : Sig := ⟨[.wr false (.sl (.sl (.int .i64))) .deep, .val false (.int .i64)], [(.val false, (.int .i64), .deep)]⟩
noncomputable def laws_markInt64SS.ctx : Ctx := ⟨tabOf tabl, [⟨40, laws_markInt64S.sig, laws_markInt64S.F⟩], [], [], [], []⟩
noncomputable def laws_markInt64SS.cfg : Cfg := ⟨laws_markInt64SS.ctx, [0], [], fun id => match id with | 2 => ([0, 1, 5], [0]) | _ => ([], []), fun _ => []⟩
noncomputable def laws_markInt64SS.code : Code := (Go.Proofs.Tryz.f91).body.getD .skip
noncomputable def laws_markInt64SS.fin := finK laws_markInt64SS.ctx laws_markInt64SS.sig [.tmp 4]
noncomputable def laws_markInt64SS.F (d : List (List Int) × Int × Unit) : Option ((Int × Unit) × (List (List Int) × Unit)) := anyK (runFn laws_markInt64SS.cfg laws_markInt64SS.fin laws_markInt64SS.code (initSt laws_markInt64SS.sig.ps d 19))
noncomputable def laws_markInt64SS.l2 (k : Nat) (i3 : Int) (i4 : Int) (x5 : List (List Int)) : Option ((Int × Unit) × (List (List Int) × Unit)) :=
  Go.Vm.runT laws_markInt64SS.cfg laws_markInt64SS.fin k [.inLoop (sub [1, 0, 1, 0, 0] laws_markInt64SS.code), .inBlock 0, .code (sub [1, 1] laws_markInt64SS.code)]
    ⟨[.view 0 (.root 0) 1 false, .val false [⟨(.int .i64), .sh, i3⟩], .dead, .dead, .dead, .val false [⟨(.int .i64), .sh, i4⟩]] ++ deads 13, [(0, ⟨false, [⟨(.sl (.sl (.int .i64))), .deep, x5⟩]⟩)]⟩
theorem laws_markInt64SS.l2_eq (k : Nat) (i3 : Int) (i4 : Int) (x5 : List (List Int)) : laws_markInt64SS.l2 (k + 1) i3 i4 x5 =
  if (decide (i4 < (x5.length : Int))) = true then
    if 0 ≤ i4 ∧ i4 < (x5.length : Int) then
      (laws_markInt64S.F (x5.getD i4.toNat ([] : List Int), i3, ())).bind fun r6 =>
        laws_markInt64SS.l2 k (r6.1.1 : Int) (IntKind.i64.wrap (i4 + (1 : Int))) (x5.set i4.toNat r6.2.1)
    else
      none
  else
    some ((i3, ()), (x5, ())) := by kernel_rfl
noncomputable def laws_markInt64SS.T (k : Nat) (a_1 : List (List Int)) (k_2 : Int) : Option ((Int × Unit) × (List (List Int) × Unit)) :=
  laws_markInt64SS.l2 k k_2 (0 : Int) a_1
theorem laws_markInt64SS.run (k : Nat) (a_1 : List (List Int)) (k_2 : Int) : runFn laws_markInt64SS.cfg laws_markInt64SS.fin laws_markInt64SS.code (initSt laws_markInt64SS.sig.ps (a_1, k_2, ()) 19) k = laws_markInt64SS.T k a_1 k_2 := by kernel_rfl
theorem laws_markInt64SS.of (a_1 : List (List Int)) (k_2 : Int) {r : (Int × Unit) × (List (List Int) × Unit)} (h : Ev (fun k => laws_markInt64SS.T k a_1 k_2) r) : laws_markInt64SS.F (a_1, k_2, ()) = some r := Ev.run (fun k => laws_markInt64SS.run k a_1 k_2) h
theorem laws_markInt64SS.ok : CtxOK Go.Proofs.Tryz.prog laws_markInt64SS.ctx := ⟨List.forall_mem_nil _, mixed_ok, tab_ok tab_good, List.forall_mem_cons.2 ⟨laws_markInt64S.S, List.forall_mem_nil _⟩, List.forall_mem_nil _, List.forall_mem_nil _⟩
theorem laws_markInt64SS.S : Sound Go.Proofs.Tryz.prog ⟨91, laws_markInt64SS.sig, laws_markInt64SS.F⟩ := sound_any (fn := Go.Proofs.Tryz.f91) (code := laws_markInt64SS.code) (g := laws_markInt64SS.cfg) (res := [.tmp 4]) Go.Proofs.Tryz.func91 (by kernel_rfl) (by kernel_rfl) laws_markInt64SS.ok (by kernel_rfl) (by kernel_rfl) (Nat.le_of_ble_eq_true (by kernel_rfl)) (by kernel_rfl)
/-! ### laws_markComplex -/
noncomputable def laws_markComplex.sig : Sig := ⟨[.wr true (.sl (.sl (.int .i64))) .deep, .val false (.int .i64)], [(.val false, (.int .i64), .deep)]⟩
noncomputable def laws_markComplex.ctx : Ctx := ⟨tabOf tabl, [⟨91, laws_markInt64SS.sig, laws_markInt64SS.F⟩], [], [], [], []⟩
noncomputable def laws_markComplex.cfg : Cfg := ⟨laws_markComplex.ctx, [0], [], fun _ => ([], []), fun _ => []⟩
noncomputable def laws_markComplex.code : Code := (Go.Proofs.Tryz.f39).body.getD .skip
noncomputable def laws_markComplex.fin := finK laws_markComplex.ctx laws_markComplex.sig [.tmp 4]
noncomputable def laws_markComplex.F (d : List (List Int) × Int × Unit) : Option ((Int × Unit) × (List (List Int) × Unit)) := anyK (runFn laws_markComplex.cfg laws_markComplex.fin laws_markComplex.code (initSt laws_markComplex.sig.ps d 10))
noncomputable def laws_markComplex.T (a_1 : List (List Int)) (k_2 : Int) : Option ((Int × Unit) × (List (List Int) × Unit)) :=
  (laws_markInt64SS.F (a_1, k_2, ())).bind fun r3 =>
    some (((r3.1.1 : Int), ()), (r3.2.1, ()))
theorem laws_markComplex.run (k : Nat) (a_1 : List (List Int)) (k_2 : Int) : runFn laws_markComplex.cfg laws_markComplex.fin laws_markComplex.code (initSt laws_markComplex.sig.ps (a_1, k_2, ()) 10) k = laws_markComplex.T a_1 k_2 := by kernel_rfl
theorem laws_markComplex.eq (a_1 : List (List Int)) (k_2 : Int) : laws_markComplex.F (a_1, k_2, ()) = laws_markComplex.T a_1 k_2 := (congrArg anyK (funext fun k => laws_markComplex.run k a_1 k_2)).trans (anyK_const _)
theorem laws_markComplex.ok : CtxOK Go.Proofs.Tryz.prog laws_markComplex.ctx := ⟨List.forall_mem_nil _, mixed_ok, tab_ok tab_good, List.forall_mem_cons.2 ⟨laws_markInt64SS.S, List.forall_mem_nil _⟩, List.forall_mem_nil _, List.forall_mem_nil _⟩
theorem laws_markComplex.S : Sound Go.Proofs.Tryz.prog ⟨39, laws_markComplex.sig, laws_markComplex.F⟩ := sound_any (fn := Go.Proofs.Tryz.f39) (code := laws_markComplex.code) (g := laws_markComplex.cfg) (res := [.tmp 4]) Go.Proofs.Tryz.func39 (by kernel_rfl) (by kernel_rfl) laws_markComplex.ok (by kernel_rfl) (by kernel_rfl) (Nat.le_of_ble_eq_true (by kernel_rfl)) (by kernel_rfl)
/-! ### laws_markSheaf -/
noncomputable def laws_markSheaf.sig : Sig := ⟨[.wr true TSheaf .deep, .val false (.int .i64)], [(.val false, (.int .i64), .deep)]⟩
noncomputable def laws_markSheaf.ctx : Ctx := ⟨tabOf tabl, [⟨30, laws_markMatrixS.sig, laws_markMatrixS.F⟩, ⟨39, laws_markComplex.sig, laws_markComplex.F⟩, ⟨40, laws_markInt64S.sig, laws_markInt64S.F⟩], [], [], [], []⟩
noncomputable def laws_markSheaf.cfg : Cfg := ⟨laws_markSheaf.ctx, [0], [], fun _ => ([], []), fun _ => []⟩
noncomputable def laws_markSheaf.code : Code := (Go.Proofs.Tryz.f29).body.getD .skip
noncomputable def laws_markSheaf.fin := finK laws_markSheaf.ctx laws_markSheaf.sig [.tmp 4]
noncomputable def laws_markSheaf.F (d : (List (List Int) × Int × List Int × List (Int × Int × Int × List Int)) × Int × Unit) : Option ((Int × Unit) × ((List (List Int) × Int × List Int × List (Int × Int × Int × List Int)) × Unit)) := anyK (runFn laws_markSheaf.cfg laws_markSheaf.fin laws_markSheaf.code (initSt laws_markSheaf.sig.ps d 18))
noncomputable def laws_markSheaf.T (a_1 : List (List Int)) (a_2 : Int) (a_3 : List Int) (a_4 : List (Int × Int × Int × List Int)) (k_5 : Int) : Option ((Int × Unit) × ((List (List Int) × Int × List Int × List (Int × Int × Int × List Int)) × Unit)) :=
  (laws_markComplex.F (a_1, k_5, ())).bind fun r6 =>
    (laws_markInt64S.F (a_3, (r6.1.1 : Int), ())).bind fun r7 =>
      (laws_markMatrixS.F (a_4, (r7.1.1 : Int), ())).bind fun r8 =>
        some (((r8.1.1 : Int), ()), ((r6.2.1, (a_2, (r7.2.1, r8.2.1))), ()))
theorem laws_markSheaf.run (k : Nat) (a_1 : List (List Int)) (a_2 : Int) (a_3 : List Int) (a_4 : List (Int × Int × Int × List Int)) (k_5 : Int) : runFn laws_markSheaf.cfg laws_markSheaf.fin laws_markSheaf.code (initSt laws_markSheaf.sig.ps ((a_1, (a_2, (a_3, a_4))), k_5, ()) 18) k = laws_markSheaf.T a_1 a_2 a_3 a_4 k_5 := by kernel_rfl
theorem laws_markSheaf.eq (a_1 : List (List Int)) (a_2 : Int) (a_3 : List Int) (a_4 : List (Int × Int × Int × List Int)) (k_5 : Int) : laws_markSheaf.F ((a_1, (a_2, (a_3, a_4))), k_5, ()) = laws_markSheaf.T a_1 a_2 a_3 a_4 k_5 := (congrArg anyK (funext fun k => laws_markSheaf.run k a_1 a_2 a_3 a_4 k_5)).trans (anyK_const _)
theorem laws_markSheaf.ok : CtxOK Go.Proofs.Tryz.prog laws_markSheaf.ctx := ⟨List.forall_mem_nil _, mixed_ok, tab_ok tab_good, List.forall_mem_cons.2 ⟨laws_markMatrixS.S, List.forall_mem_cons.2 ⟨laws_markComplex.S, List.forall_mem_cons.2 ⟨laws_markInt64S.S, List.forall_mem_nil _⟩⟩⟩, List.forall_mem_nil _, List.forall_mem_nil _⟩
theorem laws_markSheaf.S : Sound Go.Proofs.Tryz.prog ⟨29, laws_markSheaf.sig, laws_markSheaf.F⟩ := sound_any (fn := Go.Proofs.Tryz.f29) (code := laws_markSheaf.code) (g := laws_markSheaf.cfg) (res := [.tmp 4]) Go.Proofs.Tryz.func29 (by kernel_rfl) (by kernel_rfl) laws_markSheaf.ok (by kernel_rfl) (by kernel_rfl) (Nat.le_of_ble_eq_true (by kernel_rfl)) (by kernel_rfl)
/-! ### laws_heldInt64S -/
noncomputable def laws_heldInt64S.sig : Sig := ⟨[.val false (.sl (.int .i64)), .val false (.int .i64)], [(.val false, (.int .i64), .deep)]⟩
noncomputable def laws_heldInt64S.ctx : Ctx := ⟨tabOf tabl, [], [], [], [], []⟩
noncomputable def laws_heldInt64S.cfg : Cfg := ⟨laws_heldInt64S.ctx, [], [], fun id => match id with | 2 => ([0, 1, 5], []) | _ => ([], []), fun _ => []⟩
noncomputable def laws_heldInt64S.code : Code := (Go.Proofs.Tryz.f41).body.getD .skip
noncomputable def laws_heldInt64S.fin := finK laws_heldInt64S.ctx laws_heldInt64S.sig [.tmp 4]
noncomputable def laws_heldInt64S.F (d : List Int × Int × Unit) : Option ((Int × Unit) × (Unit)) := anyK (runFn laws_heldInt64S.cfg laws_heldInt64S.fin laws_heldInt64S.code (initSt laws_heldInt64S.sig.ps d 21))
noncomputable def laws_heldInt64S.l2 (k : Nat) (x3 : List Int) (i4 : Int) (i5 : Int) : Option ((Int × Unit) × (Unit)) :=
  Go.Vm.runT laws_heldInt64S.cfg laws_heldInt64S.fin k [.inLoop (sub [1, 0, 1, 0, 0] laws_heldInt64S.code), .inBlock 0, .code (sub [1, 1] laws_heldInt64S.code)]
    ⟨[.val false [⟨(.sl (.int .i64)), .sh, x3⟩], .val false [⟨(.int .i64), .sh, i4⟩], .dead, .dead, .dead, .val false [⟨(.int .i64), .sh, i5⟩]] ++ deads 15, []⟩
theorem laws_heldInt64S.l2_eq (k : Nat) (x3 : List Int) (i4 : Int) (i5 : Int) : laws_heldInt64S.l2 (k + 1) x3 i4 i5 =
  if (decide (i5 < (x3.length : Int))) = true then
    if 0 ≤ i5 ∧ i5 < (x3.length : Int) then
      if ((x3.getD i5.toNat 0 : Int) != i4) = true then
        some (((-1 : Int), ()), ())
      else
        laws_heldInt64S.l2 k x3 (IntKind.i64.wrap (i4 + (1 : Int))) (IntKind.i64.wrap (i5 + (1 : Int)))
    else
      none
  else
    some ((i4, ()), ()) := by kernel_rfl
noncomputable def laws_heldInt64S.T (k : Nat) (a_1 : List Int) (k_2 : Int) : Option ((Int × Unit) × (Unit)) :=
  laws_heldInt64S.l2 k a_1 k_2 (0 : Int)
theorem laws_heldInt64S.run (k : Nat) (a_1 : List Int) (k_2 : Int) : runFn laws_heldInt64S.cfg laws_heldInt64S.fin laws_heldInt64S.code (initSt laws_heldInt64S.sig.ps (a_1, k_2, ()) 21) k = laws_heldInt64S.T k a_1 k_2 := by kernel_rfl
theorem laws_heldInt64S.of (a_1 : List Int) (k_2 : Int) {r : (Int × Unit) × (Unit)} (h : Ev (fun k => laws_heldInt64S.T k a_1 k_2) r) : laws_heldInt64S.F (a_1, k_2, ()) = some r := Ev.run (fun k => laws_heldInt64S.run k a_1 k_2) h
theorem laws_heldInt64S.ok : CtxOK Go.Proofs.Tryz.prog laws_heldInt64S.ctx := ⟨List.forall_mem_nil _, mixed_ok, tab_ok tab_good, List.forall_mem_nil _, List.forall_mem_nil _, List.forall_mem_nil _⟩
theorem laws_heldInt64S.S : Sound Go.Proofs.Tryz.prog ⟨41, laws_heldInt64S.sig, laws_heldInt64S.F⟩ := sound_any (fn := Go.Proofs.Tryz.f41) (code := laws_heldInt64S.code) (g := laws_heldInt64S.cfg) (res := [.tmp 4]) Go.Proofs.Tryz.func41 (by kernel_rfl) (by kernel_rfl) laws_heldInt64S.ok (by kernel_rfl) (by kernel_rfl) (Nat.le_of_ble_eq_true (by kernel_rfl)) (by kernel_rfl)
/-! ### laws_heldMatrixS -/
noncomputable def laws_heldMatrixS.sig : Sig := ⟨[.val false (.sl TMatrix), .val false (.int .i64)], [(.val false, (.int .i64), .deep)]⟩
noncomputable def laws_heldMatrixS.ctx : Ctx := ⟨tabOf tabl, [⟨41, laws_heldInt64S.sig, laws_heldInt64S.F⟩], [], [], [], []⟩
noncomputable def laws_heldMatrixS.cfg : Cfg := ⟨laws_heldMatrixS.ctx, [], [], fun id => match id with | 2 => ([0, 1, 5], []) | _ => ([], []), fun _ => []⟩
noncomputable def laws_heldMatrixS.code : Code := (Go.Proofs.Tryz.f31).body.getD .skip
noncomputable def laws_heldMatrixS.fin := finK laws_heldMatrixS.ctx laws_heldMatrixS.sig [.tmp 4]
noncomputable def laws_heldMatrixS.F (d : List (Int × Int × Int × List Int) × Int × Unit) : Option ((Int × Unit) × (Unit)) := anyK (runFn laws_heldMatrixS.cfg laws_heldMatrixS.fin laws_heldMatrixS.code (initSt laws_heldMatrixS.sig.ps d 49))
noncomputable def laws_heldMatrixS.l2 (k : Nat) (x3 : List (Int × Int × Int × List Int)) (i4 : Int) (i5 : Int) : Option ((Int × Unit) × (Unit)) :=
  Go.Vm.runT laws_heldMatrixS.cfg laws_heldMatrixS.fin k [.inLoop (sub [1, 0, 1, 0, 0] laws_heldMatrixS.code), .inBlock 0, .code (sub [1, 1] laws_heldMatrixS.code)]
    ⟨[.val false [⟨(.sl TMatrix), .sh, x3⟩], .val false [⟨(.int .i64), .sh, i4⟩], .dead, .dead, .dead, .val false [⟨(.int .i64), .sh, i5⟩]] ++ deads 43, []⟩
theorem laws_heldMatrixS.l2_eq (k : Nat) (x3 : List (Int × Int × Int × List Int)) (i4 : Int) (i5 : Int) : laws_heldMatrixS.l2 (k + 1) x3 i4 i5 =
  if (decide (i5 < (x3.length : Int))) = true then
    if 0 ≤ i5 ∧ i5 < (x3.length : Int) then
      if (((x3.getD i5.toNat (0, 0, 0, ([] : List Int))).1) != i4) = true then
        some (((-1 : Int), ()), ())
      else
        if 0 ≤ i5 ∧ i5 < (x3.length : Int) then
          if ((((x3.getD i5.toNat (0, 0, 0, ([] : List Int))).2).1) != (IntKind.i64.wrap (i4 + (1 : Int)))) = true then
            some (((-1 : Int), ()), ())
          else
            if 0 ≤ i5 ∧ i5 < (x3.length : Int) then
              if (((((x3.getD i5.toNat (0, 0, 0, ([] : List Int))).2).2).1) != (IntKind.i64.wrap ((IntKind.i64.wrap (i4 + (1 : Int))) + (1 : Int)))) = true then
                some (((-1 : Int), ()), ())
              else
                if 0 ≤ i5 ∧ i5 < (x3.length : Int) then
                  (laws_heldInt64S.F ((((x3.getD i5.toNat (0, 0, 0, ([] : List Int))).2).2).2, IntKind.i64.wrap ((IntKind.i64.wrap ((IntKind.i64.wrap (i4 + (1 : Int))) + (1 : Int))) + (1 : Int)), ())).bind fun r6 =>
                    if (decide ((r6.1.1 : Int) < (0 : Int))) = true then
                      some (((-1 : Int), ()), ())
                    else
                      laws_heldMatrixS.l2 k x3 (r6.1.1 : Int) (IntKind.i64.wrap (i5 + (1 : Int)))
                else
                  none
            else
              none
        else
          none
    else
      none
  else
    some ((i4, ()), ()) := by kernel_rfl
noncomputable def laws_heldMatrixS.T (k : Nat) (a_1 : List (Int × Int × Int × List Int)) (k_2 : Int) : Option ((Int × Unit) × (Unit)) :=
  laws_heldMatrixS.l2 k a_1 k_2 (0 : Int)
theorem laws_heldMatrixS.run (k : Nat) (a_1 : List (Int × Int × Int × List Int)) (k_2 : Int) : runFn laws_heldMatrixS.cfg laws_heldMatrixS.fin laws_heldMatrixS.code (initSt laws_heldMatrixS.sig.ps (a_1, k_2, ()) 49) k = laws_heldMatrixS.T k a_1 k_2 := by kernel_rfl
theorem laws_heldMatrixS.of (a_1 : List (Int × Int × Int × List Int)) (k_2 : Int) {r : (Int × Unit) × (Unit)} (h : Ev (fun k => laws_heldMatrixS.T k a_1 k_2) r) : laws_heldMatrixS.F (a_1, k_2, ()) = some r := Ev.run (fun k => laws_heldMatrixS.run k a_1 k_2) h
theorem laws_heldMatrixS.ok : CtxOK Go.Proofs.Tryz.prog laws_heldMatrixS.ctx := ⟨List.forall_mem_nil _, mixed_ok, tab_ok tab_good, List.forall_mem_cons.2 ⟨laws_heldInt64S.S, List.forall_mem_nil _⟩, List.forall_mem_nil _, List.forall_mem_nil _⟩
theorem laws_heldMatrixS.S : Sound Go.Proofs.Tryz.prog ⟨31, laws_heldMatrixS.sig, laws_heldMatrixS.F⟩ := sound_any (fn := Go.Proofs.Tryz.f31) (code := laws_heldMatrixS.code) (g := laws_heldMatrixS.cfg) (res := [.tmp 4]) Go.Proofs.Tryz.func31 (by kernel_rfl) (by kernel_rfl) laws_heldMatrixS.ok (by kernel_rfl) (by kernel_rfl) (Nat.le_of_ble_eq_true (by kernel_rfl)) (by kernel_rfl)
/-! ### laws_FnExactZeroMorphism -/
noncomputable def laws_FnExactZeroMorphism.sig : Sig := ⟨[.val true TSheaf, .val true TSheaf], [(.val false, .bool, .deep)]⟩
noncomputable def laws_FnExactZeroMorphism.ctx : Ctx := ⟨tabOf tabl, [⟨19, laws_szSheaf.sig, laws_szSheaf.F⟩, ⟨22, laws_toSheaf.sig, laws_toSheaf.F⟩, ⟨25, laws_eqSheaf.sig, laws_eqSheaf.F⟩, ⟨26, laws_eqMatrixS.sig, laws_eqMatrixS.F⟩, ⟨27, spec_ZeroMorphism.sig, spec_ZeroMorphism.F⟩, ⟨28, impl_ZeroMorphism.sig, impl_ZeroMorphism.F⟩, ⟨29, laws_markSheaf.sig, laws_markSheaf.F⟩, ⟨30, laws_markMatrixS.sig, laws_markMatrixS.F⟩, ⟨31, laws_heldMatrixS.sig, laws_heldMatrixS.F⟩], [], [], [], [6, 15]⟩
noncomputable def laws_FnExactZeroMorphism.cfg : Cfg := ⟨laws_FnExactZeroMorphism.ctx, [], [], fun _ => ([], []), fun _ => []⟩
noncomputable def laws_FnExactZeroMorphism.code : Code := (Go.Proofs.Tryz.f5).body.getD .skip
noncomputable def laws_FnExactZeroMorphism.fin := finK laws_FnExactZeroMorphism.ctx laws_FnExactZeroMorphism.sig [.tmp 4]
noncomputable def laws_FnExactZeroMorphism.F (d : (List (List Int) × Int × List Int × List (Int × Int × Int × List Int)) × (List (List Int) × Int × List Int × List (Int × Int × Int × List Int)) × Unit) : Option ((Bool × Unit) × (Unit)) := anyK (runFn laws_FnExactZeroMorphism.cfg laws_FnExactZeroMorphism.fin laws_FnExactZeroMorphism.code (initSt laws_FnExactZeroMorphism.sig.ps d 119))
noncomputable def laws_FnExactZeroMorphism.T (toArray_1 : List (List Int)) (toArray_2 : Int) (toArray_3 : List Int) (toArray_4 : List (Int × Int × Int × List Int)) (a_5 : List (List Int)) (a_6 : Int) (a_7 : List Int) (a_8 : List (Int × Int × Int × List Int)) : Option ((Bool × Unit) × (Unit)) :=
  (laws_szSheaf.F ((toArray_1, (toArray_2, (toArray_3, toArray_4))), (1048576 : Int), ())).bind fun r9 =>
    if (decide ((r9.1.1 : Int) < (0 : Int))) = true then
      some ((true, ()), ())
    else
      (laws_szSheaf.F ((a_5, (a_6, (a_7, a_8))), (r9.1.1 : Int), ())).bind fun r10 =>
        if (decide ((r10.1.1 : Int) < (0 : Int))) = true then
          some ((true, ()), ())
        else
          (laws_toSheaf.F ((toArray_1, (toArray_2, (toArray_3, toArray_4))), ())).bind fun r11 =>
            (laws_toSheaf.F ((a_5, (a_6, (a_7, a_8))), ())).bind fun r12 =>
              (spec_ZeroMorphism.F (r11.1.1, r12.1.1, ())).bind fun r13 =>
                (laws_toSheaf.F ((toArray_1, (toArray_2, (toArray_3, toArray_4))), ())).bind fun r14 =>
                  (laws_toSheaf.F ((a_5, (a_6, (a_7, a_8))), ())).bind fun r15 =>
                    (impl_ZeroMorphism.F (r14.1.1, r15.1.1, ())).bind fun r16 =>
                      (laws_eqMatrixS.F (r16.1.1, r13.1.1, ())).bind fun r17 =>
                        if (!(r17.1.1 : Bool)) = true then
                          some ((false, ()), ())
                        else
                          if ((r16.1.2.1 : Int) != (r13.1.2.1 : Int)) = true then
                            some ((false, ()), ())
                          else
                            (laws_toSheaf.F ((toArray_1, (toArray_2, (toArray_3, toArray_4))), ())).bind fun r18 =>
                              (laws_eqSheaf.F (r14.1.1, r18.1.1, ())).bind fun r19 =>
                                if (!(r19.1.1 : Bool)) = true then
                                  some ((false, ()), ())
                                else
                                  (laws_toSheaf.F ((a_5, (a_6, (a_7, a_8))), ())).bind fun r20 =>
                                    (laws_eqSheaf.F (r15.1.1, r20.1.1, ())).bind fun r21 =>
                                      if (!(r21.1.1 : Bool)) = true then
                                        some ((false, ()), ())
                                      else
                                        (laws_markSheaf.F (r14.1.1, (1 : Int), ())).bind fun r22 =>
                                          (laws_markSheaf.F (r15.1.1, (r22.1.1 : Int), ())).bind fun r23 =>
                                            if (decide ((r23.1.1 : Int) < (0 : Int))) = true then
                                              some ((false, ()), ())
                                            else
                                              (laws_eqMatrixS.F (r16.1.1, r13.1.1, ())).bind fun r24 =>
                                                if (!(r24.1.1 : Bool)) = true then
                                                  some ((false, ()), ())
                                                else
                                                  if ((r16.1.2.1 : Int) != (r13.1.2.1 : Int)) = true then
                                                    some ((false, ()), ())
                                                  else
                                                    (laws_markMatrixS.F (r16.1.1, (1 : Int), ())).bind fun r25 =>
                                                      (laws_heldMatrixS.F (r25.2.1, (1 : Int), ())).bind fun r26 =>
                                                        if (decide ((r26.1.1 : Int) < (0 : Int))) = true then
                                                          some ((false, ()), ())
                                                        else
                                                          if ((r26.1.1 : Int) != (r25.1.1 : Int)) = true then
                                                            some ((false, ()), ())
                                                          else
                                                            (laws_toSheaf.F ((toArray_1, (toArray_2, (toArray_3, toArray_4))), ())).bind fun r27 =>
                                                              (laws_toSheaf.F ((a_5, (a_6, (a_7, a_8))), ())).bind fun r28 =>
                                                                (impl_ZeroMorphism.F (r27.1.1, r28.1.1, ())).bind fun r29 =>
                                                                  (laws_eqMatrixS.F (r29.1.1, r13.1.1, ())).bind fun r30 =>
                                                                    if (!(r30.1.1 : Bool)) = true then
                                                                      some ((false, ()), ())
                                                                    else
                                                                      if ((r29.1.2.1 : Int) != (r13.1.2.1 : Int)) = true then
                                                                        some ((false, ()), ())
                                                                      else
                                                                        (laws_heldMatrixS.F (r25.2.1, (1 : Int), ())).bind fun r31 =>
                                                                          if (decide ((r31.1.1 : Int) < (0 : Int))) = true then
                                                                            some ((false, ()), ())
                                                                          else
                                                                            if ((r31.1.1 : Int) != (r25.1.1 : Int)) = true then
                                                                              some ((false, ()), ())
                                                                            else
                                                                              some ((true, ()), ())
theorem laws_FnExactZeroMorphism.run (k : Nat) (toArray_1 : List (List Int)) (toArray_2 : Int) (toArray_3 : List Int) (toArray_4 : List (Int × Int × Int × List Int)) (a_5 : List (List Int)) (a_6 : Int) (a_7 : List Int) (a_8 : List (Int × Int × Int × List Int)) : runFn laws_FnExactZeroMorphism.cfg laws_FnExactZeroMorphism.fin laws_FnExactZeroMorphism.code (initSt laws_FnExactZeroMorphism.sig.ps ((toArray_1, (toArray_2, (toArray_3, toArray_4))), (a_5, (a_6, (a_7, a_8))), ()) 119) k = laws_FnExactZeroMorphism.T toArray_1 toArray_2 toArray_3 toArray_4 a_5 a_6 a_7 a_8 := by kernel_rfl
theorem laws_FnExactZeroMorphism.eq (toArray_1 : List (List Int)) (toArray_2 : Int) (toArray_3 : List Int) (toArray_4 : List (Int × Int × Int × List Int)) (a_5 : List (List Int)) (a_6 : Int) (a_7 : List Int) (a_8 : List (Int × Int × Int × List Int)) : laws_FnExactZeroMorphism.F ((toArray_1, (toArray_2, (toArray_3, toArray_4))), (a_5, (a_6, (a_7, a_8))), ()) = laws_FnExactZeroMorphism.T toArray_1 toArray_2 toArray_3 toArray_4 a_5 a_6 a_7 a_8 := (congrArg anyK (funext fun k => laws_FnExactZeroMorphism.run k toArray_1 toArray_2 toArray_3 toArray_4 a_5 a_6 a_7 a_8)).trans (anyK_const _)
theorem laws_FnExactZeroMorphism.ok : CtxOK Go.Proofs.Tryz.prog laws_FnExactZeroMorphism.ctx := ⟨List.forall_mem_nil _, mixed_ok, tab_ok tab_good, List.forall_mem_cons.2 ⟨laws_szSheaf.S, List.forall_mem_cons.2 ⟨laws_toSheaf.S, List.forall_mem_cons.2 ⟨laws_eqSheaf.S, List.forall_mem_cons.2 ⟨laws_eqMatrixS.S, List.forall_mem_cons.2 ⟨spec_ZeroMorphism.S, List.forall_mem_cons.2 ⟨impl_ZeroMorphism.S, List.forall_mem_cons.2 ⟨laws_markSheaf.S, List.forall_mem_cons.2 ⟨laws_markMatrixS.S, List.forall_mem_cons.2 ⟨laws_heldMatrixS.S, List.forall_mem_nil _⟩⟩⟩⟩⟩⟩⟩⟩⟩, List.forall_mem_nil _, List.forall_mem_nil _⟩
theorem laws_FnExactZeroMorphism.S : Sound Go.Proofs.Tryz.prog ⟨5, laws_FnExactZeroMorphism.sig, laws_FnExactZeroMorphism.F⟩ := sound_any (fn := Go.Proofs.Tryz.f5) (code := laws_FnExactZeroMorphism.code) (g := laws_FnExactZeroMorphism.cfg) (res := [.tmp 4]) Go.Proofs.Tryz.func5 (by kernel_rfl) (by kernel_rfl) laws_FnExactZeroMorphism.ok (by kernel_rfl) (by kernel_rfl) (Nat.le_of_ble_eq_true (by kernel_rfl)) (by kernel_rfl)
end Go.Proofs.YtbjnpdngackjoaaGreat
