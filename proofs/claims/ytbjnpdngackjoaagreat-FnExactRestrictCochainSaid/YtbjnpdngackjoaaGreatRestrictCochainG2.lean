/- The functions, as the machine runs them. -/
import Derived.Test.YtbjnpdngackjoaaGreatRestrictCochainG1
import Derived.Test.YtbjnpdngackjoaaGreatProg
import Derived.KernelRfl
import Derived.WalkKit
import Derived.Lib.Walk
import Derived.Lib.AppendZeros
namespace Go.Proofs.YtbjnpdngackjoaaGreat
open Go Go.Vm
set_option linter.unusedVariables false
set_option linter.unusedSimpArgs false
/-! ### impl_isElement -/
noncomputable def impl_isElement.sig : Sig := ⟨[.val false (.int .i64), .val false (.int .i64)], [(.val false, .bool, .deep)]⟩
noncomputable def impl_isElement.ctx : Ctx := ⟨tabOf tabl, [⟨160, impl_within.sig, impl_within.F⟩], [], [], [], []⟩
noncomputable def impl_isElement.cfg : Cfg := ⟨impl_isElement.ctx, [], [], fun _ => ([], []), fun _ => []⟩
noncomputable def impl_isElement.code : Code := (Go.Proofs.Tryz.f221).body.getD .skip
noncomputable def impl_isElement.fin := finK impl_isElement.ctx impl_isElement.sig [.tmp 4]
noncomputable def impl_isElement.F (d : Int × Int × Unit) : Option ((Bool × Unit) × (Unit)) := anyK (runFn impl_isElement.cfg impl_isElement.fin impl_isElement.code (initSt impl_isElement.sig.ps d 9))
noncomputable def impl_isElement.T (a_1 : Int) (p_2 : Int) : Option ((Bool × Unit) × (Unit)) :=
  (impl_within.F (a_1, (0 : Int), IntKind.i64.wrap (p_2 - (1 : Int)), ())).bind fun r3 =>
    some (((r3.1.1 : Bool), ()), ())
theorem impl_isElement.run (k : Nat) (a_1 : Int) (p_2 : Int) : runFn impl_isElement.cfg impl_isElement.fin impl_isElement.code (initSt impl_isElement.sig.ps (a_1, p_2, ()) 9) k = impl_isElement.T a_1 p_2 := by kernel_rfl
theorem impl_isElement.eq (a_1 : Int) (p_2 : Int) : impl_isElement.F (a_1, p_2, ()) = impl_isElement.T a_1 p_2 := (congrArg anyK (funext fun k => impl_isElement.run k a_1 p_2)).trans (anyK_const _)
theorem impl_isElement.ok : CtxOK Go.Proofs.Tryz.prog impl_isElement.ctx := ⟨List.forall_mem_nil _, mixed_ok, tab_ok tab_good, List.forall_mem_cons.2 ⟨impl_within.S, List.forall_mem_nil _⟩, List.forall_mem_nil _, List.forall_mem_nil _⟩
theorem impl_isElement.S : Sound Go.Proofs.Tryz.prog ⟨221, impl_isElement.sig, impl_isElement.F⟩ := sound_any (fn := Go.Proofs.Tryz.f221) (code := impl_isElement.code) (g := impl_isElement.cfg) (res := [.tmp 4]) Go.Proofs.Tryz.func221 (by kernel_rfl) (by kernel_rfl) impl_isElement.ok (by kernel_rfl) (by kernel_rfl) (Nat.le_of_ble_eq_true (by kernel_rfl)) (by kernel_rfl)
/-! ### impl_areElements_1 -/
noncomputable def impl_areElements_1.sig : Sig := ⟨[.val false (.int .i64), .rptr (.int .i64)], [(.val false, .bool, .deep)]⟩
noncomputable def impl_areElements_1.ctx : Ctx := ⟨tabOf tabl, [⟨221, impl_isElement.sig, impl_isElement.F⟩], [], [], [], []⟩
noncomputable def impl_areElements_1.cfg : Cfg := ⟨impl_areElements_1.ctx, [], [], fun _ => ([], []), fun _ => []⟩
noncomputable def impl_areElements_1.code : Code := (Go.Proofs.Tryz.f220).body.getD .skip
noncomputable def impl_areElements_1.fin := finK impl_areElements_1.ctx impl_areElements_1.sig [.tmp 3]
noncomputable def impl_areElements_1.F (d : Int × Int × Unit) : Option ((Bool × Unit) × (Unit)) := anyK (runFn impl_areElements_1.cfg impl_areElements_1.fin impl_areElements_1.code (initSt impl_areElements_1.sig.ps d 8))
noncomputable def impl_areElements_1.T (a_1 : Int) (a_2 : Int) : Option ((Bool × Unit) × (Unit)) :=
  (impl_isElement.F (a_1, a_2, ())).bind fun r3 =>
    some ((!(r3.1.1 : Bool), ()), ())
theorem impl_areElements_1.run (k : Nat) (a_1 : Int) (a_2 : Int) : runFn impl_areElements_1.cfg impl_areElements_1.fin impl_areElements_1.code (initSt impl_areElements_1.sig.ps (a_1, a_2, ()) 8) k = impl_areElements_1.T a_1 a_2 := by kernel_rfl
theorem impl_areElements_1.eq (a_1 : Int) (a_2 : Int) : impl_areElements_1.F (a_1, a_2, ()) = impl_areElements_1.T a_1 a_2 := (congrArg anyK (funext fun k => impl_areElements_1.run k a_1 a_2)).trans (anyK_const _)
theorem impl_areElements_1.ok : CtxOK Go.Proofs.Tryz.prog impl_areElements_1.ctx := ⟨List.forall_mem_nil _, mixed_ok, tab_ok tab_good, List.forall_mem_cons.2 ⟨impl_isElement.S, List.forall_mem_nil _⟩, List.forall_mem_nil _, List.forall_mem_nil _⟩
theorem impl_areElements_1.S : Sound Go.Proofs.Tryz.prog ⟨220, impl_areElements_1.sig, impl_areElements_1.F⟩ := sound_any (fn := Go.Proofs.Tryz.f220) (code := impl_areElements_1.code) (g := impl_areElements_1.cfg) (res := [.tmp 3]) Go.Proofs.Tryz.func220 (by kernel_rfl) (by kernel_rfl) impl_areElements_1.ok (by kernel_rfl) (by kernel_rfl) (Nat.le_of_ble_eq_true (by kernel_rfl)) (by kernel_rfl)
noncomputable def impl_areElements_1.cloG (y : Int × Unit) (d : Int × Unit) : Option (Bool × Unit) := (impl_areElements_1.F (joinIns [.rptr (.int .i64)] [(false, (.int .i64))] d y)).map (·.1)
noncomputable def impl_areElements_1.clo : Clo := ⟨220, ⟨[(false, (.int .i64))], [(.val false, .bool, .deep)]⟩, [.rptr (.int .i64)], impl_areElements_1.cloG⟩
theorem impl_areElements_1.cloS : SoundClo Go.Proofs.Tryz.prog impl_areElements_1.clo := sound_clo (s := ⟨[(false, (.int .i64))], [(.val false, .bool, .deep)]⟩) (caps := [.rptr (.int .i64)]) rfl impl_areElements_1.S
/-! ### impl_areElements -/
noncomputable def impl_areElements.sig : Sig := ⟨[.val false (.sl (.int .i64)), .val false (.int .i64)], [(.val false, .bool, .deep)]⟩
noncomputable def impl_areElements.ctx : Ctx := ⟨tabOf tabl, [⟨212, slices_ContainsFunc_Lint64_int64.sig, slices_ContainsFunc_Lint64_int64.F⟩], [impl_areElements_1.clo], [], [], []⟩
noncomputable def impl_areElements.cfg : Cfg := ⟨impl_areElements.ctx, [], [], fun _ => ([], []), fun _ => []⟩
noncomputable def impl_areElements.code : Code := (Go.Proofs.Tryz.f162).body.getD .skip
noncomputable def impl_areElements.fin := finK impl_areElements.ctx impl_areElements.sig [.tmp 4]
noncomputable def impl_areElements.F (d : List Int × Int × Unit) : Option ((Bool × Unit) × (Unit)) := anyK (runFn impl_areElements.cfg impl_areElements.fin impl_areElements.code (initSt impl_areElements.sig.ps d 9))
noncomputable def impl_areElements.T (list_1 : List Int) (p_2 : Int) : Option ((Bool × Unit) × (Unit)) :=
  (slices_ContainsFunc_Lint64_int64.F (list_1, impl_areElements_1.cloG (p_2, ()), ())).bind fun r3 =>
    some ((!(r3.1.1 : Bool), ()), ())
theorem impl_areElements.run (k : Nat) (list_1 : List Int) (p_2 : Int) : runFn impl_areElements.cfg impl_areElements.fin impl_areElements.code (initSt impl_areElements.sig.ps (list_1, p_2, ()) 9) k = impl_areElements.T list_1 p_2 := by kernel_rfl
theorem impl_areElements.eq (list_1 : List Int) (p_2 : Int) : impl_areElements.F (list_1, p_2, ()) = impl_areElements.T list_1 p_2 := (congrArg anyK (funext fun k => impl_areElements.run k list_1 p_2)).trans (anyK_const _)
theorem impl_areElements.ok : CtxOK Go.Proofs.Tryz.prog impl_areElements.ctx := ⟨List.forall_mem_nil _, mixed_ok, tab_ok tab_good, List.forall_mem_cons.2 ⟨slices_ContainsFunc_Lint64_int64.S, List.forall_mem_nil _⟩, List.forall_mem_cons.2 ⟨impl_areElements_1.cloS, List.forall_mem_nil _⟩, List.forall_mem_nil _⟩
theorem impl_areElements.S : Sound Go.Proofs.Tryz.prog ⟨162, impl_areElements.sig, impl_areElements.F⟩ := sound_any (fn := Go.Proofs.Tryz.f162) (code := impl_areElements.code) (g := impl_areElements.cfg) (res := [.tmp 4]) Go.Proofs.Tryz.func162 (by kernel_rfl) (by kernel_rfl) impl_areElements.ok (by kernel_rfl) (by kernel_rfl) (Nat.le_of_ble_eq_true (by kernel_rfl)) (by kernel_rfl)
/-! ### impl_ValidPrime -/
noncomputable def impl_ValidPrime.sig : Sig := ⟨[.val false (.int .i64)], [(.val false, .bool, .deep)]⟩
noncomputable def impl_ValidPrime.ctx : Ctx := ⟨tabOf tabl, [⟨160, impl_within.sig, impl_within.F⟩], [], [], [], []⟩
noncomputable def impl_ValidPrime.cfg : Cfg := ⟨impl_ValidPrime.ctx, [], [], fun id => match id with | 4 => ([0, 3], []) | _ => ([], []), fun _ => []⟩
noncomputable def impl_ValidPrime.code : Code := (Go.Proofs.Tryz.f196).body.getD .skip
noncomputable def impl_ValidPrime.fin := finK impl_ValidPrime.ctx impl_ValidPrime.sig [.tmp 2]
noncomputable def impl_ValidPrime.F (d : Int × Unit) : Option ((Bool × Unit) × (Unit)) := anyK (runFn impl_ValidPrime.cfg impl_ValidPrime.fin impl_ValidPrime.code (initSt impl_ValidPrime.sig.ps d 18))
noncomputable def impl_ValidPrime.l4 (k : Nat) (i3 : Int) (i4 : Int) : Option ((Bool × Unit) × (Unit)) :=
  Go.Vm.runT impl_ValidPrime.cfg impl_ValidPrime.fin k [.inLoop (sub [1, 1, 0, 1, 0, 0] impl_ValidPrime.code), .inBlock 0, .code (sub [1, 1, 1] impl_ValidPrime.code)]
    ⟨[.val false [⟨(.int .i64), .sh, i3⟩], .dead, .dead, .val false [⟨(.int .i64), .sh, i4⟩]] ++ deads 14, []⟩
theorem impl_ValidPrime.l4_eq (k : Nat) (i3 : Int) (i4 : Int) : impl_ValidPrime.l4 (k + 1) i3 i4 =
  if (decide ((IntKind.i64.wrap (i4 * i4)) ≤ i3)) = true then
    if i4 = 0 then
      none
    else
      if ((i3.tmod i4) == (0 : Int)) = true then
        some ((false, ()), ())
      else
        impl_ValidPrime.l4 k i3 (IntKind.i64.wrap (i4 + (1 : Int)))
  else
    some ((true, ()), ()) := by kernel_rfl
noncomputable def impl_ValidPrime.T (k : Nat) (p_1 : Int) : Option ((Bool × Unit) × (Unit)) :=
  (impl_within.F (p_1, (2 : Int), (251 : Int), ())).bind fun r2 =>
    if (!(r2.1.1 : Bool)) = true then
      some ((false, ()), ())
    else
      impl_ValidPrime.l4 k p_1 (2 : Int)
theorem impl_ValidPrime.run (k : Nat) (p_1 : Int) : runFn impl_ValidPrime.cfg impl_ValidPrime.fin impl_ValidPrime.code (initSt impl_ValidPrime.sig.ps (p_1, ()) 18) k = impl_ValidPrime.T k p_1 := by kernel_rfl
theorem impl_ValidPrime.of (p_1 : Int) {r : (Bool × Unit) × (Unit)} (h : Ev (fun k => impl_ValidPrime.T k p_1) r) : impl_ValidPrime.F (p_1, ()) = some r := Ev.run (fun k => impl_ValidPrime.run k p_1) h
theorem impl_ValidPrime.ok : CtxOK Go.Proofs.Tryz.prog impl_ValidPrime.ctx := ⟨List.forall_mem_nil _, mixed_ok, tab_ok tab_good, List.forall_mem_cons.2 ⟨impl_within.S, List.forall_mem_nil _⟩, List.forall_mem_nil _, List.forall_mem_nil _⟩
theorem impl_ValidPrime.S : Sound Go.Proofs.Tryz.prog ⟨196, impl_ValidPrime.sig, impl_ValidPrime.F⟩ := sound_any (fn := Go.Proofs.Tryz.f196) (code := impl_ValidPrime.code) (g := impl_ValidPrime.cfg) (res := [.tmp 2]) Go.Proofs.Tryz.func196 (by kernel_rfl) (by kernel_rfl) impl_ValidPrime.ok (by kernel_rfl) (by kernel_rfl) (Nat.le_of_ble_eq_true (by kernel_rfl)) (by kernel_rfl)
/-! ### impl_isSide -/
noncomputable def impl_isSide.sig : Sig := ⟨[.val false (.int .i64)], [(.val false, .bool, .deep)]⟩
noncomputable def impl_isSide.ctx : Ctx := ⟨tabOf tabl, [⟨160, impl_within.sig, impl_within.F⟩], [], [], [], []⟩
noncomputable def impl_isSide.cfg : Cfg := ⟨impl_isSide.ctx, [], [], fun _ => ([], []), fun _ => []⟩
noncomputable def impl_isSide.code : Code := (Go.Proofs.Tryz.f197).body.getD .skip
noncomputable def impl_isSide.fin := finK impl_isSide.ctx impl_isSide.sig [.tmp 2]
noncomputable def impl_isSide.F (d : Int × Unit) : Option ((Bool × Unit) × (Unit)) := anyK (runFn impl_isSide.cfg impl_isSide.fin impl_isSide.code (initSt impl_isSide.sig.ps d 5))
noncomputable def impl_isSide.T (n_1 : Int) : Option ((Bool × Unit) × (Unit)) :=
  (impl_within.F (n_1, (0 : Int), (32 : Int), ())).bind fun r2 =>
    some (((r2.1.1 : Bool), ()), ())
theorem impl_isSide.run (k : Nat) (n_1 : Int) : runFn impl_isSide.cfg impl_isSide.fin impl_isSide.code (initSt impl_isSide.sig.ps (n_1, ()) 5) k = impl_isSide.T n_1 := by kernel_rfl
theorem impl_isSide.eq (n_1 : Int) : impl_isSide.F (n_1, ()) = impl_isSide.T n_1 := (congrArg anyK (funext fun k => impl_isSide.run k n_1)).trans (anyK_const _)
theorem impl_isSide.ok : CtxOK Go.Proofs.Tryz.prog impl_isSide.ctx := ⟨List.forall_mem_nil _, mixed_ok, tab_ok tab_good, List.forall_mem_cons.2 ⟨impl_within.S, List.forall_mem_nil _⟩, List.forall_mem_nil _, List.forall_mem_nil _⟩
theorem impl_isSide.S : Sound Go.Proofs.Tryz.prog ⟨197, impl_isSide.sig, impl_isSide.F⟩ := sound_any (fn := Go.Proofs.Tryz.f197) (code := impl_isSide.code) (g := impl_isSide.cfg) (res := [.tmp 2]) Go.Proofs.Tryz.func197 (by kernel_rfl) (by kernel_rfl) impl_isSide.ok (by kernel_rfl) (by kernel_rfl) (Nat.le_of_ble_eq_true (by kernel_rfl)) (by kernel_rfl)
/-! ### impl_ValidMatrix -/
noncomputable def impl_ValidMatrix.sig : Sig := ⟨[.val true TMatrix], [(.val false, .bool, .deep)]⟩
noncomputable def impl_ValidMatrix.ctx : Ctx := ⟨tabOf tabl, [⟨161, impl_size_int64.sig, impl_size_int64.F⟩, ⟨162, impl_areElements.sig, impl_areElements.F⟩, ⟨196, impl_ValidPrime.sig, impl_ValidPrime.F⟩, ⟨197, impl_isSide.sig, impl_isSide.F⟩], [], [], [], []⟩
noncomputable def impl_ValidMatrix.cfg : Cfg := ⟨impl_ValidMatrix.ctx, [], [], fun _ => ([], []), fun _ => []⟩
noncomputable def impl_ValidMatrix.code : Code := (Go.Proofs.Tryz.f128).body.getD .skip
noncomputable def impl_ValidMatrix.fin := finK impl_ValidMatrix.ctx impl_ValidMatrix.sig [.tmp 2]
noncomputable def impl_ValidMatrix.F (d : (Int × Int × Int × List Int) × Unit) : Option ((Bool × Unit) × (Unit)) := anyK (runFn impl_ValidMatrix.cfg impl_ValidMatrix.fin impl_ValidMatrix.code (initSt impl_ValidMatrix.sig.ps d 34))
noncomputable def impl_ValidMatrix.T (m_1 : Int) (m_2 : Int) (m_3 : Int) (m_4 : List Int) : Option ((Bool × Unit) × (Unit)) :=
  (impl_ValidPrime.F (m_1, ())).bind fun r5 =>
    if (r5.1.1 : Bool) = true then
      (impl_isSide.F (m_2, ())).bind fun r6 =>
        if (r6.1.1 : Bool) = true then
          (impl_isSide.F (m_3, ())).bind fun r7 =>
            if (r7.1.1 : Bool) = true then
              (impl_size_int64.F (m_4, ())).bind fun r8 =>
                if ((r8.1.1 : Int) == (IntKind.i64.wrap (m_2 * m_3))) = true then
                  (impl_areElements.F (m_4, m_1, ())).bind fun r9 =>
                    some (((r9.1.1 : Bool), ()), ())
                else
                  some ((false, ()), ())
            else
              some ((false, ()), ())
        else
          some ((false, ()), ())
    else
      some ((false, ()), ())
theorem impl_ValidMatrix.run (k : Nat) (m_1 : Int) (m_2 : Int) (m_3 : Int) (m_4 : List Int) : runFn impl_ValidMatrix.cfg impl_ValidMatrix.fin impl_ValidMatrix.code (initSt impl_ValidMatrix.sig.ps ((m_1, (m_2, (m_3, m_4))), ()) 34) k = impl_ValidMatrix.T m_1 m_2 m_3 m_4 := by kernel_rfl
theorem impl_ValidMatrix.eq (m_1 : Int) (m_2 : Int) (m_3 : Int) (m_4 : List Int) : impl_ValidMatrix.F ((m_1, (m_2, (m_3, m_4))), ()) = impl_ValidMatrix.T m_1 m_2 m_3 m_4 := (congrArg anyK (funext fun k => impl_ValidMatrix.run k m_1 m_2 m_3 m_4)).trans (anyK_const _)
theorem impl_ValidMatrix.ok : CtxOK Go.Proofs.Tryz.prog impl_ValidMatrix.ctx := ⟨List.forall_mem_nil _, mixed_ok, tab_ok tab_good, List.forall_mem_cons.2 ⟨impl_size_int64.S, List.forall_mem_cons.2 ⟨impl_areElements.S, List.forall_mem_cons.2 ⟨impl_ValidPrime.S, List.forall_mem_cons.2 ⟨impl_isSide.S, List.forall_mem_nil _⟩⟩⟩⟩, List.forall_mem_nil _, List.forall_mem_nil _⟩
theorem impl_ValidMatrix.S : Sound Go.Proofs.Tryz.prog ⟨128, impl_ValidMatrix.sig, impl_ValidMatrix.F⟩ := sound_any (fn := Go.Proofs.Tryz.f128) (code := impl_ValidMatrix.code) (g := impl_ValidMatrix.cfg) (res := [.tmp 2]) Go.Proofs.Tryz.func128 (by kernel_rfl) (by kernel_rfl) impl_ValidMatrix.ok (by kernel_rfl) (by kernel_rfl) (Nat.le_of_ble_eq_true (by kernel_rfl)) (by kernel_rfl)
/-! ### impl_isBetween -/
noncomputable def impl_isBetween.sig : Sig := ⟨[.val true TMatrix, .val false (.int .i64), .val false (.int .i64), .val false (.int .i64)], [(.val false, .bool, .deep)]⟩
noncomputable def impl_isBetween.ctx : Ctx := ⟨tabOf tabl, [⟨128, impl_ValidMatrix.sig, impl_ValidMatrix.F⟩], [], [], [], []⟩
noncomputable def impl_isBetween.cfg : Cfg := ⟨impl_isBetween.ctx, [], [], fun _ => ([], []), fun _ => []⟩
noncomputable def impl_isBetween.code : Code := (Go.Proofs.Tryz.f141).body.getD .skip
noncomputable def impl_isBetween.fin := finK impl_isBetween.ctx impl_isBetween.sig [.tmp 8]
noncomputable def impl_isBetween.F (d : (Int × Int × Int × List Int) × Int × Int × Int × Unit) : Option ((Bool × Unit) × (Unit)) := anyK (runFn impl_isBetween.cfg impl_isBetween.fin impl_isBetween.code (initSt impl_isBetween.sig.ps d 29))
noncomputable def impl_isBetween.T (m_1 : Int) (m_2 : Int) (m_3 : Int) (m_4 : List Int) (p_5 : Int) (from_6 : Int) (to_7 : Int) : Option ((Bool × Unit) × (Unit)) :=
  (impl_ValidMatrix.F ((m_1, (m_2, (m_3, m_4))), ())).bind fun r8 =>
    if (r8.1.1 : Bool) = true then
      if (m_1 == p_5) = true then
        if (m_2 == to_7) = true then
          some ((m_3 == from_6, ()), ())
        else
          some ((false, ()), ())
      else
        some ((false, ()), ())
    else
      some ((false, ()), ())
theorem impl_isBetween.run (k : Nat) (m_1 : Int) (m_2 : Int) (m_3 : Int) (m_4 : List Int) (p_5 : Int) (from_6 : Int) (to_7 : Int) : runFn impl_isBetween.cfg impl_isBetween.fin impl_isBetween.code (initSt impl_isBetween.sig.ps ((m_1, (m_2, (m_3, m_4))), p_5, from_6, to_7, ()) 29) k = impl_isBetween.T m_1 m_2 m_3 m_4 p_5 from_6 to_7 := by kernel_rfl
theorem impl_isBetween.eq (m_1 : Int) (m_2 : Int) (m_3 : Int) (m_4 : List Int) (p_5 : Int) (from_6 : Int) (to_7 : Int) : impl_isBetween.F ((m_1, (m_2, (m_3, m_4))), p_5, from_6, to_7, ()) = impl_isBetween.T m_1 m_2 m_3 m_4 p_5 from_6 to_7 := (congrArg anyK (funext fun k => impl_isBetween.run k m_1 m_2 m_3 m_4 p_5 from_6 to_7)).trans (anyK_const _)
theorem impl_isBetween.ok : CtxOK Go.Proofs.Tryz.prog impl_isBetween.ctx := ⟨List.forall_mem_nil _, mixed_ok, tab_ok tab_good, List.forall_mem_cons.2 ⟨impl_ValidMatrix.S, List.forall_mem_nil _⟩, List.forall_mem_nil _, List.forall_mem_nil _⟩
theorem impl_isBetween.S : Sound Go.Proofs.Tryz.prog ⟨141, impl_isBetween.sig, impl_isBetween.F⟩ := sound_any (fn := Go.Proofs.Tryz.f141) (code := impl_isBetween.code) (g := impl_isBetween.cfg) (res := [.tmp 8]) Go.Proofs.Tryz.func141 (by kernel_rfl) (by kernel_rfl) impl_isBetween.ok (by kernel_rfl) (by kernel_rfl) (Nat.le_of_ble_eq_true (by kernel_rfl)) (by kernel_rfl)
/-! ### impl_simplicesOf -/
noncomputable def impl_simplicesOf.sig : Sig := ⟨[.val true (.sl (.sl (.int .i64))), .val false (.int .i64)], [(.val false, (.sl (.int .i64)), .deep)]⟩
noncomputable def impl_simplicesOf.ctx : Ctx := ⟨tabOf tabl, [⟨161, impl_size_int64.sig, impl_size_int64.F⟩], [], [], [], []⟩
noncomputable def impl_simplicesOf.cfg : Cfg := ⟨impl_simplicesOf.ctx, [], [], fun id => match id with | 3 => ([1, 5, 9, 10, 11], [20]) | _ => ([], []), fun _ => []⟩
noncomputable def impl_simplicesOf.code : Code := (Go.Proofs.Tryz.f163).body.getD .skip
noncomputable def impl_simplicesOf.fin := finK impl_simplicesOf.ctx impl_simplicesOf.sig [.tmp 4]
noncomputable def impl_simplicesOf.F (d : List (List Int) × Int × Unit) : Option ((List Int × Unit) × (Unit)) := anyK (runFn impl_simplicesOf.cfg impl_simplicesOf.fin impl_simplicesOf.code (initSt impl_simplicesOf.sig.ps d 27))
noncomputable def impl_simplicesOf.l3 (k : Nat) (i3 : Int) (x4 : List (List Int)) (i5 : Int) (i6 : Int) (x7 : List Int) : Option ((List Int × Unit) × (Unit)) :=
  Go.Vm.runT impl_simplicesOf.cfg impl_simplicesOf.fin k [.inLoop (sub [1, 1, 0, 1, 0, 0] impl_simplicesOf.code), .inBlock 0, .code (sub [1, 1, 1] impl_simplicesOf.code)]
    ⟨[.dead, .val false [⟨(.int .i64), .sh, i3⟩], .dead, .dead, .dead, .view 20 (.root 0) 1 false, .dead, .dead, .dead, .val false [⟨(.sl (.sl (.int .i64))), .sh, x4⟩], .val false [⟨(.int .i64), .sh, i5⟩], .val false [⟨(.int .i64), .sh, i6⟩]] ++ deads 15, [(20, ⟨false, [⟨(.sl (.int .i64)), .deep, x7⟩]⟩)]⟩
theorem impl_simplicesOf.l3_eq (k : Nat) (i3 : Int) (x4 : List (List Int)) (i5 : Int) (i6 : Int) (x7 : List Int) : impl_simplicesOf.l3 (k + 1) i3 x4 i5 i6 x7 =
  if (decide (i6 < i5)) = true then
    if 0 ≤ i6 ∧ i6 < (x4.length : Int) then
      (impl_size_int64.F (x4.getD i6.toNat ([] : List Int), ())).bind fun r8 =>
        if ((r8.1.1 : Int) == (IntKind.i64.wrap (i3 + (1 : Int)))) = true then
          if x7.length + ([i6] : List Int).length ≤ bigA then
            impl_simplicesOf.l3 k i3 x4 i5 (IntKind.i64.wrap (i6 + (1 : Int))) (x7 ++ ([i6]))
          else
            none
        else
          impl_simplicesOf.l3 k i3 x4 i5 (IntKind.i64.wrap (i6 + (1 : Int))) x7
    else
      none
  else
    some ((x7, ()), ()) := by kernel_rfl
noncomputable def impl_simplicesOf.T (k : Nat) (c_1 : List (List Int)) (dimension_2 : Int) : Option ((List Int × Unit) × (Unit)) :=
  impl_simplicesOf.l3 k dimension_2 c_1 (c_1.length : Int) (0 : Int) ([])
theorem impl_simplicesOf.run (k : Nat) (c_1 : List (List Int)) (dimension_2 : Int) : runFn impl_simplicesOf.cfg impl_simplicesOf.fin impl_simplicesOf.code (initSt impl_simplicesOf.sig.ps (c_1, dimension_2, ()) 27) k = impl_simplicesOf.T k c_1 dimension_2 := by kernel_rfl
theorem impl_simplicesOf.of (c_1 : List (List Int)) (dimension_2 : Int) {r : (List Int × Unit) × (Unit)} (h : Ev (fun k => impl_simplicesOf.T k c_1 dimension_2) r) : impl_simplicesOf.F (c_1, dimension_2, ()) = some r := Ev.run (fun k => impl_simplicesOf.run k c_1 dimension_2) h
theorem impl_simplicesOf.ok : CtxOK Go.Proofs.Tryz.prog impl_simplicesOf.ctx := ⟨List.forall_mem_nil _, mixed_ok, tab_ok tab_good, List.forall_mem_cons.2 ⟨impl_size_int64.S, List.forall_mem_nil _⟩, List.forall_mem_nil _, List.forall_mem_nil _⟩
theorem impl_simplicesOf.S : Sound Go.Proofs.Tryz.prog ⟨163, impl_simplicesOf.sig, impl_simplicesOf.F⟩ := sound_any (fn := Go.Proofs.Tryz.f163) (code := impl_simplicesOf.code) (g := impl_simplicesOf.cfg) (res := [.tmp 4]) Go.Proofs.Tryz.func163 (by kernel_rfl) (by kernel_rfl) impl_simplicesOf.ok (by kernel_rfl) (by kernel_rfl) (Nat.le_of_ble_eq_true (by kernel_rfl)) (by kernel_rfl)
/-! ### impl_stalkSum -/
noncomputable def impl_stalkSum.sig : Sig := ⟨[.val true TSheaf, .val false (.int .i64)], [(.val false, (.int .i64), .deep)]⟩
noncomputable def impl_stalkSum.ctx : Ctx := ⟨tabOf tabl, [⟨163, impl_simplicesOf.sig, impl_simplicesOf.F⟩], [], [], [], []⟩
noncomputable def impl_stalkSum.cfg : Cfg := ⟨impl_stalkSum.ctx, [], [], fun id => match id with | 3 => ([2, 5, 11, 12, 13], [8, 44]) | _ => ([], []), fun _ => []⟩
noncomputable def impl_stalkSum.code : Code := (Go.Proofs.Tryz.f87).body.getD .skip
noncomputable def impl_stalkSum.fin := finK impl_stalkSum.ctx impl_stalkSum.sig [.tmp 4]
noncomputable def impl_stalkSum.F (d : (List (List Int) × Int × List Int × List (Int × Int × Int × List Int)) × Int × Unit) : Option ((Int × Unit) × (Unit)) := anyK (runFn impl_stalkSum.cfg impl_stalkSum.fin impl_stalkSum.code (initSt impl_stalkSum.sig.ps d 26))
noncomputable def impl_stalkSum.l3 (k : Nat) (i7 : Int) (i8 : Int) (i9 : Int) (x10 : List (List Int)) (i11 : Int) (x12 : List Int) (x13 : List (Int × Int × Int × List Int)) (x14 : List Int) : Option ((Int × Unit) × (Unit)) :=
  Go.Vm.runT impl_stalkSum.cfg impl_stalkSum.fin k [.inLoop (sub [1, 1, 0, 1, 0, 0] impl_stalkSum.code), .inBlock 0, .code (sub [1, 1, 1] impl_stalkSum.code)]
    ⟨[.dead, .dead, .ref 8 (.root 0), .dead, .dead, .val false [⟨(.int .i64), .sh, i7⟩], .dead, .dead, .dead, .dead, .dead, .view 44 (.root 0) 1 false, .val false [⟨(.int .i64), .sh, i8⟩], .val false [⟨(.int .i64), .sh, i9⟩]] ++ deads 12, [(8, ⟨true, [⟨(.sl (.sl (.int .i64))), .sh, x10⟩, ⟨(.int .i64), .sh, i11⟩, ⟨(.sl (.int .i64)), .sh, x12⟩, ⟨(.sl TMatrix), .sh, x13⟩]⟩), (44, ⟨false, [⟨(.sl (.int .i64)), .deep, x14⟩]⟩)]⟩
theorem impl_stalkSum.l3_eq (k : Nat) (i7 : Int) (i8 : Int) (i9 : Int) (x10 : List (List Int)) (i11 : Int) (x12 : List Int) (x13 : List (Int × Int × Int × List Int)) (x14 : List Int) : impl_stalkSum.l3 (k + 1) i7 i8 i9 x10 i11 x12 x13 x14 =
  if (decide (i9 < i8)) = true then
    if 0 ≤ i9 ∧ i9 < (x14.length : Int) then
      if 0 ≤ (x14.getD i9.toNat 0 : Int) ∧ (x14.getD i9.toNat 0 : Int) < (x12.length : Int) then
        impl_stalkSum.l3 k (IntKind.i64.wrap (i7 + (x12.getD (x14.getD i9.toNat 0 : Int).toNat 0))) i8 (IntKind.i64.wrap (i9 + (1 : Int))) x10 i11 x12 x13 x14
      else
        none
    else
      none
  else
    some ((i7, ()), ()) := by kernel_rfl
noncomputable def impl_stalkSum.T (k : Nat) (s_1 : List (List Int)) (s_2 : Int) (s_3 : List Int) (s_4 : List (Int × Int × Int × List Int)) (k_5 : Int) : Option ((Int × Unit) × (Unit)) :=
  (impl_simplicesOf.F (s_1, k_5, ())).bind fun r6 =>
    impl_stalkSum.l3 k (0 : Int) (r6.1.1.length : Int) (0 : Int) s_1 s_2 s_3 s_4 r6.1.1
theorem impl_stalkSum.run (k : Nat) (s_1 : List (List Int)) (s_2 : Int) (s_3 : List Int) (s_4 : List (Int × Int × Int × List Int)) (k_5 : Int) : runFn impl_stalkSum.cfg impl_stalkSum.fin impl_stalkSum.code (initSt impl_stalkSum.sig.ps ((s_1, (s_2, (s_3, s_4))), k_5, ()) 26) k = impl_stalkSum.T k s_1 s_2 s_3 s_4 k_5 := by kernel_rfl
theorem impl_stalkSum.of (s_1 : List (List Int)) (s_2 : Int) (s_3 : List Int) (s_4 : List (Int × Int × Int × List Int)) (k_5 : Int) {r : (Int × Unit) × (Unit)} (h : Ev (fun k => impl_stalkSum.T k s_1 s_2 s_3 s_4 k_5) r) : impl_stalkSum.F ((s_1, (s_2, (s_3, s_4))), k_5, ()) = some r := Ev.run (fun k => impl_stalkSum.run k s_1 s_2 s_3 s_4 k_5) h
theorem impl_stalkSum.ok : CtxOK Go.Proofs.Tryz.prog impl_stalkSum.ctx := ⟨List.forall_mem_nil _, mixed_ok, tab_ok tab_good, List.forall_mem_cons.2 ⟨impl_simplicesOf.S, List.forall_mem_nil _⟩, List.forall_mem_nil _, List.forall_mem_nil _⟩
theorem impl_stalkSum.S : Sound Go.Proofs.Tryz.prog ⟨87, impl_stalkSum.sig, impl_stalkSum.F⟩ := sound_any (fn := Go.Proofs.Tryz.f87) (code := impl_stalkSum.code) (g := impl_stalkSum.cfg) (res := [.tmp 4]) Go.Proofs.Tryz.func87 (by kernel_rfl) (by kernel_rfl) impl_stalkSum.ok (by kernel_rfl) (by kernel_rfl) (Nat.le_of_ble_eq_true (by kernel_rfl)) (by kernel_rfl)
/-! ### impl_areStalks_1 -/
noncomputable def impl_areStalks_1.sig : Sig := ⟨[.val false (.int .i64)], [(.val false, .bool, .deep)]⟩
noncomputable def impl_areStalks_1.ctx : Ctx := ⟨tabOf tabl, [⟨160, impl_within.sig, impl_within.F⟩], [], [], [], []⟩
noncomputable def impl_areStalks_1.cfg : Cfg := ⟨impl_areStalks_1.ctx, [], [], fun _ => ([], []), fun _ => []⟩
noncomputable def impl_areStalks_1.code : Code := (Go.Proofs.Tryz.f236).body.getD .skip
noncomputable def impl_areStalks_1.fin := finK impl_areStalks_1.ctx impl_areStalks_1.sig [.tmp 2]
noncomputable def impl_areStalks_1.F (d : Int × Unit) : Option ((Bool × Unit) × (Unit)) := anyK (runFn impl_areStalks_1.cfg impl_areStalks_1.fin impl_areStalks_1.code (initSt impl_areStalks_1.sig.ps d 6))
noncomputable def impl_areStalks_1.T (n_1 : Int) : Option ((Bool × Unit) × (Unit)) :=
  (impl_within.F (n_1, (0 : Int), (3 : Int), ())).bind fun r2 =>
    some ((!(r2.1.1 : Bool), ()), ())
theorem impl_areStalks_1.run (k : Nat) (n_1 : Int) : runFn impl_areStalks_1.cfg impl_areStalks_1.fin impl_areStalks_1.code (initSt impl_areStalks_1.sig.ps (n_1, ()) 6) k = impl_areStalks_1.T n_1 := by kernel_rfl
theorem impl_areStalks_1.eq (n_1 : Int) : impl_areStalks_1.F (n_1, ()) = impl_areStalks_1.T n_1 := (congrArg anyK (funext fun k => impl_areStalks_1.run k n_1)).trans (anyK_const _)
theorem impl_areStalks_1.ok : CtxOK Go.Proofs.Tryz.prog impl_areStalks_1.ctx := ⟨List.forall_mem_nil _, mixed_ok, tab_ok tab_good, List.forall_mem_cons.2 ⟨impl_within.S, List.forall_mem_nil _⟩, List.forall_mem_nil _, List.forall_mem_nil _⟩
theorem impl_areStalks_1.S : Sound Go.Proofs.Tryz.prog ⟨236, impl_areStalks_1.sig, impl_areStalks_1.F⟩ := sound_any (fn := Go.Proofs.Tryz.f236) (code := impl_areStalks_1.code) (g := impl_areStalks_1.cfg) (res := [.tmp 2]) Go.Proofs.Tryz.func236 (by kernel_rfl) (by kernel_rfl) impl_areStalks_1.ok (by kernel_rfl) (by kernel_rfl) (Nat.le_of_ble_eq_true (by kernel_rfl)) (by kernel_rfl)
noncomputable def impl_areStalks_1.cloG (y : Unit) (d : Int × Unit) : Option (Bool × Unit) := (impl_areStalks_1.F (joinIns [] [(false, (.int .i64))] d y)).map (·.1)
noncomputable def impl_areStalks_1.clo : Clo := ⟨236, ⟨[(false, (.int .i64))], [(.val false, .bool, .deep)]⟩, [], impl_areStalks_1.cloG⟩
theorem impl_areStalks_1.cloS : SoundClo Go.Proofs.Tryz.prog impl_areStalks_1.clo := sound_clo (s := ⟨[(false, (.int .i64))], [(.val false, .bool, .deep)]⟩) (caps := []) rfl impl_areStalks_1.S
/-! ### impl_areStalks -/
noncomputable def impl_areStalks.sig : Sig := ⟨[.val true (.sl (.sl (.int .i64))), .val false (.sl (.int .i64))], [(.val false, .bool, .deep)]⟩
noncomputable def impl_areStalks.ctx : Ctx := ⟨tabOf tabl, [⟨87, impl_stalkSum.sig, impl_stalkSum.F⟩, ⟨212, slices_ContainsFunc_Lint64_int64.sig, slices_ContainsFunc_Lint64_int64.F⟩], [impl_areStalks_1.clo], [], [], []⟩
noncomputable def impl_areStalks.cfg : Cfg := ⟨impl_areStalks.ctx, [], [], fun id => match id with | 4 => ([1, 2, 16], [8]) | _ => ([], []), fun _ => []⟩
noncomputable def impl_areStalks.code : Code := (Go.Proofs.Tryz.f198).body.getD .skip
noncomputable def impl_areStalks.fin := finK impl_areStalks.ctx impl_areStalks.sig [.tmp 4]
noncomputable def impl_areStalks.F (d : List (List Int) × List Int × Unit) : Option ((Bool × Unit) × (Unit)) := anyK (runFn impl_areStalks.cfg impl_areStalks.fin impl_areStalks.code (initSt impl_areStalks.sig.ps d 26))
noncomputable def impl_areStalks.l4 (k : Nat) (x4 : List Int) (i5 : Int) (x6 : List (List Int)) : Option ((Bool × Unit) × (Unit)) :=
  Go.Vm.runT impl_areStalks.cfg impl_areStalks.fin k [.inLoop (sub [1, 1, 0, 1, 0, 0] impl_areStalks.code), .inBlock 0, .code (sub [1, 1, 1] impl_areStalks.code)]
    ⟨[.dead, .val false [⟨(.sl (.int .i64)), .sh, x4⟩], .ref 8 (.root 0), .dead, .dead, .dead, .dead, .dead, .dead, .dead, .dead, .dead, .dead, .dead, .dead, .dead, .val false [⟨(.int .i64), .sh, i5⟩]] ++ deads 9, [(8, ⟨true, [⟨(.sl (.sl (.int .i64))), .sh, x6⟩]⟩)]⟩
theorem impl_areStalks.l4_eq (k : Nat) (x4 : List Int) (i5 : Int) (x6 : List (List Int)) : impl_areStalks.l4 (k + 1) x4 i5 x6 =
  if (decide (i5 < (4 : Int))) = true then
    (impl_stalkSum.F ((x6, (0, (x4, []))), i5, ())).bind fun r7 =>
      if (decide ((r7.1.1 : Int) > (32 : Int))) = true then
        some ((false, ()), ())
      else
        impl_areStalks.l4 k x4 (IntKind.i64.wrap (i5 + (1 : Int))) x6
  else
    some ((true, ()), ()) := by kernel_rfl
noncomputable def impl_areStalks.T (k : Nat) (c_1 : List (List Int)) (stalks_2 : List Int) : Option ((Bool × Unit) × (Unit)) :=
  if ((stalks_2.length : Int) != (c_1.length : Int)) = true then
    some ((false, ()), ())
  else
    (slices_ContainsFunc_Lint64_int64.F (stalks_2, impl_areStalks_1.cloG (()), ())).bind fun r3 =>
      if (r3.1.1 : Bool) = true then
        some ((false, ()), ())
      else
        impl_areStalks.l4 k stalks_2 (0 : Int) c_1
theorem impl_areStalks.run (k : Nat) (c_1 : List (List Int)) (stalks_2 : List Int) : runFn impl_areStalks.cfg impl_areStalks.fin impl_areStalks.code (initSt impl_areStalks.sig.ps (c_1, stalks_2, ()) 26) k = impl_areStalks.T k c_1 stalks_2 := by kernel_rfl
theorem impl_areStalks.of (c_1 : List (List Int)) (stalks_2 : List Int) {r : (Bool × Unit) × (Unit)} (h : Ev (fun k => impl_areStalks.T k c_1 stalks_2) r) : impl_areStalks.F (c_1, stalks_2, ()) = some r := Ev.run (fun k => impl_areStalks.run k c_1 stalks_2) h
theorem impl_areStalks.ok : CtxOK Go.Proofs.Tryz.prog impl_areStalks.ctx := ⟨List.forall_mem_nil _, mixed_ok, tab_ok tab_good, List.forall_mem_cons.2 ⟨impl_stalkSum.S, List.forall_mem_cons.2 ⟨slices_ContainsFunc_Lint64_int64.S, List.forall_mem_nil _⟩⟩, List.forall_mem_cons.2 ⟨impl_areStalks_1.cloS, List.forall_mem_nil _⟩, List.forall_mem_nil _⟩
theorem impl_areStalks.S : Sound Go.Proofs.Tryz.prog ⟨198, impl_areStalks.sig, impl_areStalks.F⟩ := sound_any (fn := Go.Proofs.Tryz.f198) (code := impl_areStalks.code) (g := impl_areStalks.cfg) (res := [.tmp 4]) Go.Proofs.Tryz.func198 (by kernel_rfl) (by kernel_rfl) impl_areStalks.ok (by kernel_rfl) (by kernel_rfl) (Nat.le_of_ble_eq_true (by kernel_rfl)) (by kernel_rfl)
/-! ### impl_ValidSheaf -/
noncomputable def impl_ValidSheaf.sig : Sig := ⟨[.val true TSheaf], [(.val false, .bool, .deep)]⟩
noncomputable def impl_ValidSheaf.ctx : Ctx := ⟨tabOf tabl, [⟨84, impl_ValidComplex.sig, impl_ValidComplex.F⟩, ⟨109, impl_arrows.sig, impl_arrows.F⟩, ⟨141, impl_isBetween.sig, impl_isBetween.F⟩, ⟨196, impl_ValidPrime.sig, impl_ValidPrime.F⟩, ⟨198, impl_areStalks.sig, impl_areStalks.F⟩], [], [], [], []⟩
noncomputable def impl_ValidSheaf.cfg : Cfg := ⟨impl_ValidSheaf.ctx, [], [], fun id => match id with | 5 => ([1, 3, 27, 28, 29], [4, 12]) | _ => ([], []), fun _ => []⟩
noncomputable def impl_ValidSheaf.code : Code := (Go.Proofs.Tryz.f129).body.getD .skip
noncomputable def impl_ValidSheaf.fin := finK impl_ValidSheaf.ctx impl_ValidSheaf.sig [.tmp 2]
noncomputable def impl_ValidSheaf.F (d : (List (List Int) × Int × List Int × List (Int × Int × Int × List Int)) × Unit) : Option ((Bool × Unit) × (Unit)) := anyK (runFn impl_ValidSheaf.cfg impl_ValidSheaf.fin impl_ValidSheaf.code (initSt impl_ValidSheaf.sig.ps d 69))
noncomputable def impl_ValidSheaf.l5 (k : Nat) (i9 : Int) (i10 : Int) (x11 : List (List Int)) (i12 : Int) (x13 : List Int) (x14 : List (Int × Int × Int × List Int)) (x15 : List (Int × Int × Int)) : Option ((Bool × Unit) × (Unit)) :=
  Go.Vm.runT impl_ValidSheaf.cfg impl_ValidSheaf.fin k [.inLoop (sub [1, 1, 1, 0, 1, 0, 0] impl_ValidSheaf.code), .inBlock 0, .code (sub [1, 1, 1, 1] impl_ValidSheaf.code)]
    ⟨[.dead, .ref 4 (.root 0), .dead, .view 12 (.root 0) 1 false, .dead, .dead, .dead, .dead, .dead, .dead, .dead, .dead, .dead, .dead, .dead, .dead, .dead, .dead, .dead, .dead, .dead, .dead, .dead, .dead, .dead, .dead, .dead, .view 12 (.root 0) 1 false, .val false [⟨(.int .i64), .sh, i9⟩], .val false [⟨(.int .i64), .sh, i10⟩]] ++ deads 39, [(4, ⟨true, [⟨(.sl (.sl (.int .i64))), .sh, x11⟩, ⟨(.int .i64), .sh, i12⟩, ⟨(.sl (.int .i64)), .sh, x13⟩, ⟨(.sl TMatrix), .sh, x14⟩]⟩), (12, ⟨false, [⟨(.sl TEdge), .deep, x15⟩]⟩)]⟩
theorem impl_ValidSheaf.l5_eq (k : Nat) (i9 : Int) (i10 : Int) (x11 : List (List Int)) (i12 : Int) (x13 : List Int) (x14 : List (Int × Int × Int × List Int)) (x15 : List (Int × Int × Int)) : impl_ValidSheaf.l5 (k + 1) i9 i10 x11 i12 x13 x14 x15 =
  if (decide (i10 < i9)) = true then
    if 0 ≤ i10 ∧ i10 < (x15.length : Int) then
      if (decide (i10 ≥ (x14.length : Int))) = true then
        some ((false, ()), ())
      else
        if 0 ≤ i10 ∧ i10 < (x14.length : Int) then
          if 0 ≤ (((x15.getD i10.toNat (0, 0, 0)).2).2 : Int) ∧ (((x15.getD i10.toNat (0, 0, 0)).2).2 : Int) < (x13.length : Int) then
            if 0 ≤ ((x15.getD i10.toNat (0, 0, 0)).1 : Int) ∧ ((x15.getD i10.toNat (0, 0, 0)).1 : Int) < (x13.length : Int) then
              (impl_isBetween.F (x14.getD i10.toNat (0, 0, 0, ([] : List Int)), i12, x13.getD (((x15.getD i10.toNat (0, 0, 0)).2).2 : Int).toNat 0, x13.getD ((x15.getD i10.toNat (0, 0, 0)).1 : Int).toNat 0, ())).bind fun r16 =>
                if (!(r16.1.1 : Bool)) = true then
                  some ((false, ()), ())
                else
                  impl_ValidSheaf.l5 k i9 (IntKind.i64.wrap (i10 + (1 : Int))) x11 i12 x13 x14 x15
            else
              none
          else
            none
        else
          none
    else
      none
  else
    some (((x15.length : Int) == (x14.length : Int), ()), ()) := by kernel_rfl
noncomputable def impl_ValidSheaf.T (k : Nat) (toArray_1 : List (List Int)) (toArray_2 : Int) (toArray_3 : List Int) (toArray_4 : List (Int × Int × Int × List Int)) : Option ((Bool × Unit) × (Unit)) :=
  (impl_ValidComplex.F (toArray_1, ())).bind fun r5 =>
    if (!(r5.1.1 : Bool)) = true then
      some ((false, ()), ())
    else
      (impl_ValidPrime.F (toArray_2, ())).bind fun r6 =>
        if (!(r6.1.1 : Bool)) = true then
          some ((false, ()), ())
        else
          (impl_areStalks.F (toArray_1, toArray_3, ())).bind fun r7 =>
            if (!(r7.1.1 : Bool)) = true then
              some ((false, ()), ())
            else
              (impl_arrows.F (toArray_1, ())).bind fun r8 =>
                impl_ValidSheaf.l5 k (r8.1.1.length : Int) (0 : Int) toArray_1 toArray_2 toArray_3 toArray_4 r8.1.1
theorem impl_ValidSheaf.run (k : Nat) (toArray_1 : List (List Int)) (toArray_2 : Int) (toArray_3 : List Int) (toArray_4 : List (Int × Int × Int × List Int)) : runFn impl_ValidSheaf.cfg impl_ValidSheaf.fin impl_ValidSheaf.code (initSt impl_ValidSheaf.sig.ps ((toArray_1, (toArray_2, (toArray_3, toArray_4))), ()) 69) k = impl_ValidSheaf.T k toArray_1 toArray_2 toArray_3 toArray_4 := by kernel_rfl
theorem impl_ValidSheaf.of (toArray_1 : List (List Int)) (toArray_2 : Int) (toArray_3 : List Int) (toArray_4 : List (Int × Int × Int × List Int)) {r : (Bool × Unit) × (Unit)} (h : Ev (fun k => impl_ValidSheaf.T k toArray_1 toArray_2 toArray_3 toArray_4) r) : impl_ValidSheaf.F ((toArray_1, (toArray_2, (toArray_3, toArray_4))), ()) = some r := Ev.run (fun k => impl_ValidSheaf.run k toArray_1 toArray_2 toArray_3 toArray_4) h
theorem impl_ValidSheaf.ok : CtxOK Go.Proofs.Tryz.prog impl_ValidSheaf.ctx := ⟨List.forall_mem_nil _, mixed_ok, tab_ok tab_good, List.forall_mem_cons.2 ⟨impl_ValidComplex.S, List.forall_mem_cons.2 ⟨impl_arrows.S, List.forall_mem_cons.2 ⟨impl_isBetween.S, List.forall_mem_cons.2 ⟨impl_ValidPrime.S, List.forall_mem_cons.2 ⟨impl_areStalks.S, List.forall_mem_nil _⟩⟩⟩⟩⟩, List.forall_mem_nil _, List.forall_mem_nil _⟩
theorem impl_ValidSheaf.S : Sound Go.Proofs.Tryz.prog ⟨129, impl_ValidSheaf.sig, impl_ValidSheaf.F⟩ := sound_any (fn := Go.Proofs.Tryz.f129) (code := impl_ValidSheaf.code) (g := impl_ValidSheaf.cfg) (res := [.tmp 2]) Go.Proofs.Tryz.func129 (by kernel_rfl) (by kernel_rfl) impl_ValidSheaf.ok (by kernel_rfl) (by kernel_rfl) (Nat.le_of_ble_eq_true (by kernel_rfl)) (by kernel_rfl)
/-! ### impl_filled -/
noncomputable def impl_filled.sig : Sig := ⟨[.val false (.int .i64), .val false (.int .i64), .val false (.int .i64), .fnx ⟨[(false, (.int .i64)), (false, (.int .i64))], [(.val false, (.int .i64), .deep)]⟩], [(.val true, TMatrix, .deep)]⟩
noncomputable def impl_filled.ctx : Ctx := ⟨tabOf tabl, [], [], [], [], []⟩
noncomputable def impl_filled.cfg : Cfg := ⟨impl_filled.ctx, [], [], fun id => match id with | 3 => ([2, 3, 8, 9, 16, 17], [32, 36]) | 6 => ([2, 3, 8, 9, 10, 16, 17, 20, 21], [32, 36]) | _ => ([], []), fun _ => []⟩
noncomputable def impl_filled.code : Code := (Go.Proofs.Tryz.f144).body.getD .skip
noncomputable def impl_filled.fin := finK impl_filled.ctx impl_filled.sig [.cell 8 65]
noncomputable def impl_filled.F (d : Int × Int × Int × ((Int × Int × Unit) → Option (Int × Unit)) × Unit) : Option (((Int × Int × Int × List Int) × Unit) × (Unit)) := anyK (runFn impl_filled.cfg impl_filled.fin impl_filled.code (initSt impl_filled.sig.ps d 36))
noncomputable def impl_filled.l3 (k : Nat) (i5 : Int) (f6 : (Int × Int × Unit) → Option (Int × Unit)) (i7 : Int) (i8 : Int) (i9 : Int) (i10 : Int) (i11 : Int) (x12 : List Int) (i13 : Int) (i14 : Int) (i15 : Int) (x16 : List Int) : Option (((Int × Int × Int × List Int) × Unit) × (Unit)) :=
  Go.Vm.runT impl_filled.cfg impl_filled.fin k [.inLoop (sub [1, 1, 0, 1, 0, 0] impl_filled.code), .inBlock 0, .code (sub [1, 1, 1] impl_filled.code)]
    ⟨[.dead, .dead, .val false [⟨(.int .i64), .sh, i5⟩], .fnx ⟨[(false, (.int .i64)), (false, (.int .i64))], [(.val false, (.int .i64), .deep)]⟩ f6, .dead, .dead, .dead, .dead, .ref 32 (.root 0), .ref 36 (.root 0), .dead, .dead, .dead, .dead, .dead, .dead, .val false [⟨(.int .i64), .sh, i7⟩], .val false [⟨(.int .i64), .sh, i8⟩]] ++ deads 18, [(32, ⟨true, [⟨(.int .i64), .sh, i9⟩, ⟨(.int .i64), .sh, i10⟩, ⟨(.int .i64), .sh, i11⟩, ⟨(.sl (.int .i64)), .deep, x12⟩]⟩), (36, ⟨true, [⟨(.int .i64), .sh, i13⟩, ⟨(.int .i64), .sh, i14⟩, ⟨(.int .i64), .sh, i15⟩, ⟨(.sl (.int .i64)), .deep, x16⟩]⟩)]⟩
noncomputable def impl_filled.l6 (k : Nat) (i17 : Int) (f18 : (Int × Int × Unit) → Option (Int × Unit)) (i19 : Int) (i20 : Int) (i21 : Int) (i22 : Int) (i23 : Int) (i24 : Int) (i25 : Int) (i26 : Int) (x27 : List Int) (i28 : Int) (i29 : Int) (i30 : Int) (x31 : List Int) : Option (((Int × Int × Int × List Int) × Unit) × (Unit)) :=
  Go.Vm.runT impl_filled.cfg impl_filled.fin k [.inLoop (sub [1, 1, 0, 1, 0, 0, 1, 1, 0, 0, 1, 1, 0, 0] impl_filled.code), .inBlock 2, .inBlock 1, .code (sub [1, 1, 0, 1, 0, 0, 1, 1, 1] impl_filled.code), .inLoop (sub [1, 1, 0, 1, 0, 0] impl_filled.code), .inBlock 0, .code (sub [1, 1, 1] impl_filled.code)]
    ⟨[.dead, .dead, .val false [⟨(.int .i64), .sh, i17⟩], .fnx ⟨[(false, (.int .i64)), (false, (.int .i64))], [(.val false, (.int .i64), .deep)]⟩ f18, .dead, .dead, .dead, .dead, .ref 32 (.root 0), .ref 36 (.root 0), .val false [⟨(.int .i64), .sh, i19⟩], .dead, .dead, .dead, .dead, .dead, .val false [⟨(.int .i64), .sh, i20⟩], .val false [⟨(.int .i64), .sh, i21⟩], .dead, .dead, .val false [⟨(.int .i64), .sh, i22⟩], .val false [⟨(.int .i64), .sh, i23⟩]] ++ deads 14, [(32, ⟨true, [⟨(.int .i64), .sh, i24⟩, ⟨(.int .i64), .sh, i25⟩, ⟨(.int .i64), .sh, i26⟩, ⟨(.sl (.int .i64)), .deep, x27⟩]⟩), (36, ⟨true, [⟨(.int .i64), .sh, i28⟩, ⟨(.int .i64), .sh, i29⟩, ⟨(.int .i64), .sh, i30⟩, ⟨(.sl (.int .i64)), .deep, x31⟩]⟩)]⟩
theorem impl_filled.l3_eq (k : Nat) (i5 : Int) (f6 : (Int × Int × Unit) → Option (Int × Unit)) (i7 : Int) (i8 : Int) (i9 : Int) (i10 : Int) (i11 : Int) (x12 : List Int) (i13 : Int) (i14 : Int) (i15 : Int) (x16 : List Int) : impl_filled.l3 (k + 1) i5 f6 i7 i8 i9 i10 i11 x12 i13 i14 i15 x16 =
  if (decide (i8 < i7)) = true then
    impl_filled.l6 k i5 f6 i8 i7 i8 i5 (0 : Int) i9 i10 i11 x12 i13 i14 i15 x16
  else
    some (((i13, (i14, (i15, x16))), ()), ()) := by kernel_rfl
theorem impl_filled.l6_eq (k : Nat) (i17 : Int) (f18 : (Int × Int × Unit) → Option (Int × Unit)) (i19 : Int) (i20 : Int) (i21 : Int) (i22 : Int) (i23 : Int) (i24 : Int) (i25 : Int) (i26 : Int) (x27 : List Int) (i28 : Int) (i29 : Int) (i30 : Int) (x31 : List Int) : impl_filled.l6 (k + 1) i17 f18 i19 i20 i21 i22 i23 i24 i25 i26 x27 i28 i29 i30 x31 =
  if (decide (i23 < i22)) = true then
    (f18 (i19, i23, ())).bind fun r32 =>
      if x31.length + ([(r32.1 : Int)] : List Int).length ≤ bigA then
        impl_filled.l6 k i17 f18 i19 i20 i21 i22 (IntKind.i64.wrap (i23 + (1 : Int))) i24 i25 i26 x27 i28 i29 i30 (x31 ++ ([(r32.1 : Int)]))
      else
        none
  else
    impl_filled.l3 k i17 f18 i20 (IntKind.i64.wrap (i21 + (1 : Int))) i24 i25 i26 x27 i28 i29 i30 x31 := by kernel_rfl
noncomputable def impl_filled.T (k : Nat) (p_1 : Int) (rows_2 : Int) (columns_3 : Int) (f_4 : (Int × Int × Unit) → Option (Int × Unit)) : Option (((Int × Int × Int × List Int) × Unit) × (Unit)) :=
  impl_filled.l3 k columns_3 f_4 rows_2 (0 : Int) 0 0 0 ([]) p_1 rows_2 columns_3 ([])
theorem impl_filled.run (k : Nat) (p_1 : Int) (rows_2 : Int) (columns_3 : Int) (f_4 : (Int × Int × Unit) → Option (Int × Unit)) : runFn impl_filled.cfg impl_filled.fin impl_filled.code (initSt impl_filled.sig.ps (p_1, rows_2, columns_3, f_4, ()) 36) k = impl_filled.T k p_1 rows_2 columns_3 f_4 := by kernel_rfl
theorem impl_filled.of (p_1 : Int) (rows_2 : Int) (columns_3 : Int) (f_4 : (Int × Int × Unit) → Option (Int × Unit)) {r : ((Int × Int × Int × List Int) × Unit) × (Unit)} (h : Ev (fun k => impl_filled.T k p_1 rows_2 columns_3 f_4) r) : impl_filled.F (p_1, rows_2, columns_3, f_4, ()) = some r := Ev.run (fun k => impl_filled.run k p_1 rows_2 columns_3 f_4) h
theorem impl_filled.ok : CtxOK Go.Proofs.Tryz.prog impl_filled.ctx := ⟨List.forall_mem_nil _, mixed_ok, tab_ok tab_good, List.forall_mem_nil _, List.forall_mem_nil _, List.forall_mem_nil _⟩
theorem impl_filled.S : Sound Go.Proofs.Tryz.prog ⟨144, impl_filled.sig, impl_filled.F⟩ := sound_any (fn := Go.Proofs.Tryz.f144) (code := impl_filled.code) (g := impl_filled.cfg) (res := [.cell 8 65]) Go.Proofs.Tryz.func144 (by kernel_rfl) (by kernel_rfl) impl_filled.ok (by kernel_rfl) (by kernel_rfl) (Nat.le_of_ble_eq_true (by kernel_rfl)) (by kernel_rfl)
/-! ### impl_Matrix_at -/
noncomputable def impl_Matrix_at.sig : Sig := ⟨[.val true TMatrix, .val false (.int .i64), .val false (.int .i64)], [(.val false, (.int .i64), .deep)]⟩
noncomputable def impl_Matrix_at.ctx : Ctx := ⟨tabOf tabl, [], [], [], [], []⟩
noncomputable def impl_Matrix_at.cfg : Cfg := ⟨impl_Matrix_at.ctx, [], [], fun _ => ([], []), fun _ => []⟩
noncomputable def impl_Matrix_at.code : Code := (Go.Proofs.Tryz.f110).body.getD .skip
noncomputable def impl_Matrix_at.fin := finK impl_Matrix_at.ctx impl_Matrix_at.sig [.tmp 6]
noncomputable def impl_Matrix_at.F (d : (Int × Int × Int × List Int) × Int × Int × Unit) : Option ((Int × Unit) × (Unit)) := anyK (runFn impl_Matrix_at.cfg impl_Matrix_at.fin impl_Matrix_at.code (initSt impl_Matrix_at.sig.ps d 17))
noncomputable def impl_Matrix_at.T (m_1 : Int) (m_2 : Int) (m_3 : Int) (m_4 : List Int) (i_5 : Int) (j_6 : Int) : Option ((Int × Unit) × (Unit)) :=
  if 0 ≤ (IntKind.i64.wrap ((IntKind.i64.wrap (i_5 * m_3)) + j_6)) ∧ (IntKind.i64.wrap ((IntKind.i64.wrap (i_5 * m_3)) + j_6)) < (m_4.length : Int) then
    some (((m_4.getD (IntKind.i64.wrap ((IntKind.i64.wrap (i_5 * m_3)) + j_6)).toNat 0 : Int), ()), ())
  else
    none
theorem impl_Matrix_at.run (k : Nat) (m_1 : Int) (m_2 : Int) (m_3 : Int) (m_4 : List Int) (i_5 : Int) (j_6 : Int) : runFn impl_Matrix_at.cfg impl_Matrix_at.fin impl_Matrix_at.code (initSt impl_Matrix_at.sig.ps ((m_1, (m_2, (m_3, m_4))), i_5, j_6, ()) 17) k = impl_Matrix_at.T m_1 m_2 m_3 m_4 i_5 j_6 := by kernel_rfl
theorem impl_Matrix_at.eq (m_1 : Int) (m_2 : Int) (m_3 : Int) (m_4 : List Int) (i_5 : Int) (j_6 : Int) : impl_Matrix_at.F ((m_1, (m_2, (m_3, m_4))), i_5, j_6, ()) = impl_Matrix_at.T m_1 m_2 m_3 m_4 i_5 j_6 := (congrArg anyK (funext fun k => impl_Matrix_at.run k m_1 m_2 m_3 m_4 i_5 j_6)).trans (anyK_const _)
theorem impl_Matrix_at.ok : CtxOK Go.Proofs.Tryz.prog impl_Matrix_at.ctx := ⟨List.forall_mem_nil _, mixed_ok, tab_ok tab_good, List.forall_mem_nil _, List.forall_mem_nil _, List.forall_mem_nil _⟩
theorem impl_Matrix_at.S : Sound Go.Proofs.Tryz.prog ⟨110, impl_Matrix_at.sig, impl_Matrix_at.F⟩ := sound_any (fn := Go.Proofs.Tryz.f110) (code := impl_Matrix_at.code) (g := impl_Matrix_at.cfg) (res := [.tmp 6]) Go.Proofs.Tryz.func110 (by kernel_rfl) (by kernel_rfl) impl_Matrix_at.ok (by kernel_rfl) (by kernel_rfl) (Nat.le_of_ble_eq_true (by kernel_rfl)) (by kernel_rfl)
/-! ### impl_transpose_1 -/
noncomputable def impl_transpose_1.sig : Sig := ⟨[.val false (.int .i64), .val false (.int .i64), .rptr TMatrix], [(.val false, (.int .i64), .deep)]⟩
noncomputable def impl_transpose_1.ctx : Ctx := ⟨tabOf tabl, [⟨110, impl_Matrix_at.sig, impl_Matrix_at.F⟩], [], [], [], []⟩
noncomputable def impl_transpose_1.cfg : Cfg := ⟨impl_transpose_1.ctx, [], [], fun _ => ([], []), fun _ => []⟩
noncomputable def impl_transpose_1.code : Code := (Go.Proofs.Tryz.f174).body.getD .skip
noncomputable def impl_transpose_1.fin := finK impl_transpose_1.ctx impl_transpose_1.sig [.tmp 5]
noncomputable def impl_transpose_1.F (d : Int × Int × (Int × Int × Int × List Int) × Unit) : Option ((Int × Unit) × (Unit)) := anyK (runFn impl_transpose_1.cfg impl_transpose_1.fin impl_transpose_1.code (initSt impl_transpose_1.sig.ps d 10))
noncomputable def impl_transpose_1.T (i_1 : Int) (j_2 : Int) (a_3 : Int) (a_4 : Int) (a_5 : Int) (a_6 : List Int) : Option ((Int × Unit) × (Unit)) :=
  (impl_Matrix_at.F ((a_3, (a_4, (a_5, a_6))), j_2, i_1, ())).bind fun r7 =>
    some (((r7.1.1 : Int), ()), ())
theorem impl_transpose_1.run (k : Nat) (i_1 : Int) (j_2 : Int) (a_3 : Int) (a_4 : Int) (a_5 : Int) (a_6 : List Int) : runFn impl_transpose_1.cfg impl_transpose_1.fin impl_transpose_1.code (initSt impl_transpose_1.sig.ps (i_1, j_2, (a_3, (a_4, (a_5, a_6))), ()) 10) k = impl_transpose_1.T i_1 j_2 a_3 a_4 a_5 a_6 := by kernel_rfl
theorem impl_transpose_1.eq (i_1 : Int) (j_2 : Int) (a_3 : Int) (a_4 : Int) (a_5 : Int) (a_6 : List Int) : impl_transpose_1.F (i_1, j_2, (a_3, (a_4, (a_5, a_6))), ()) = impl_transpose_1.T i_1 j_2 a_3 a_4 a_5 a_6 := (congrArg anyK (funext fun k => impl_transpose_1.run k i_1 j_2 a_3 a_4 a_5 a_6)).trans (anyK_const _)
theorem impl_transpose_1.ok : CtxOK Go.Proofs.Tryz.prog impl_transpose_1.ctx := ⟨List.forall_mem_nil _, mixed_ok, tab_ok tab_good, List.forall_mem_cons.2 ⟨impl_Matrix_at.S, List.forall_mem_nil _⟩, List.forall_mem_nil _, List.forall_mem_nil _⟩
theorem impl_transpose_1.S : Sound Go.Proofs.Tryz.prog ⟨174, impl_transpose_1.sig, impl_transpose_1.F⟩ := sound_any (fn := Go.Proofs.Tryz.f174) (code := impl_transpose_1.code) (g := impl_transpose_1.cfg) (res := [.tmp 5]) Go.Proofs.Tryz.func174 (by kernel_rfl) (by kernel_rfl) impl_transpose_1.ok (by kernel_rfl) (by kernel_rfl) (Nat.le_of_ble_eq_true (by kernel_rfl)) (by kernel_rfl)
noncomputable def impl_transpose_1.cloG (y : (Int × Int × Int × List Int) × Unit) (d : Int × Int × Unit) : Option (Int × Unit) := (impl_transpose_1.F (joinIns [.rptr TMatrix] [(false, (.int .i64)), (false, (.int .i64))] d y)).map (·.1)
noncomputable def impl_transpose_1.clo : Clo := ⟨174, ⟨[(false, (.int .i64)), (false, (.int .i64))], [(.val false, (.int .i64), .deep)]⟩, [.rptr TMatrix], impl_transpose_1.cloG⟩
theorem impl_transpose_1.cloS : SoundClo Go.Proofs.Tryz.prog impl_transpose_1.clo := sound_clo (s := ⟨[(false, (.int .i64)), (false, (.int .i64))], [(.val false, (.int .i64), .deep)]⟩) (caps := [.rptr TMatrix]) rfl impl_transpose_1.S
/-! ### impl_transpose -/
noncomputable def impl_transpose.sig : Sig := ⟨[.val true TMatrix], [(.val true, TMatrix, .deep)]⟩
noncomputable def impl_transpose.ctx : Ctx := ⟨tabOf tabl, [⟨144, impl_filled.sig, impl_filled.F⟩], [impl_transpose_1.clo], [], [], []⟩
noncomputable def impl_transpose.cfg : Cfg := ⟨impl_transpose.ctx, [], [], fun _ => ([], []), fun _ => []⟩
noncomputable def impl_transpose.code : Code := (Go.Proofs.Tryz.f97).body.getD .skip
noncomputable def impl_transpose.fin := finK impl_transpose.ctx impl_transpose.sig [.cell 2 65]
noncomputable def impl_transpose.F (d : (Int × Int × Int × List Int) × Unit) : Option (((Int × Int × Int × List Int) × Unit) × (Unit)) := anyK (runFn impl_transpose.cfg impl_transpose.fin impl_transpose.code (initSt impl_transpose.sig.ps d 11))
noncomputable def impl_transpose.T (m_1 : Int) (m_2 : Int) (m_3 : Int) (m_4 : List Int) : Option (((Int × Int × Int × List Int) × Unit) × (Unit)) :=
  (impl_filled.F (m_1, m_3, m_2, impl_transpose_1.cloG ((m_1, (m_2, (m_3, m_4))), ()), ())).bind fun r5 =>
    some ((r5.1.1, ()), ())
theorem impl_transpose.run (k : Nat) (m_1 : Int) (m_2 : Int) (m_3 : Int) (m_4 : List Int) : runFn impl_transpose.cfg impl_transpose.fin impl_transpose.code (initSt impl_transpose.sig.ps ((m_1, (m_2, (m_3, m_4))), ()) 11) k = impl_transpose.T m_1 m_2 m_3 m_4 := by kernel_rfl
theorem impl_transpose.eq (m_1 : Int) (m_2 : Int) (m_3 : Int) (m_4 : List Int) : impl_transpose.F ((m_1, (m_2, (m_3, m_4))), ()) = impl_transpose.T m_1 m_2 m_3 m_4 := (congrArg anyK (funext fun k => impl_transpose.run k m_1 m_2 m_3 m_4)).trans (anyK_const _)
theorem impl_transpose.ok : CtxOK Go.Proofs.Tryz.prog impl_transpose.ctx := ⟨List.forall_mem_nil _, mixed_ok, tab_ok tab_good, List.forall_mem_cons.2 ⟨impl_filled.S, List.forall_mem_nil _⟩, List.forall_mem_cons.2 ⟨impl_transpose_1.cloS, List.forall_mem_nil _⟩, List.forall_mem_nil _⟩
theorem impl_transpose.S : Sound Go.Proofs.Tryz.prog ⟨97, impl_transpose.sig, impl_transpose.F⟩ := sound_any (fn := Go.Proofs.Tryz.f97) (code := impl_transpose.code) (g := impl_transpose.cfg) (res := [.cell 2 65]) Go.Proofs.Tryz.func97 (by kernel_rfl) (by kernel_rfl) impl_transpose.ok (by kernel_rfl) (by kernel_rfl) (Nat.le_of_ble_eq_true (by kernel_rfl)) (by kernel_rfl)
/-! ### slices_Clone_Lint64_int64 -/
noncomputable def slices_Clone_Lint64_int64.sig : Sig := ⟨[.val false (.sl (.int .i64))], [(.val false, (.sl (.int .i64)), .deep)]⟩
noncomputable def slices_Clone_Lint64_int64.ctx : Ctx := ⟨tabOf tabl, [], [], [], [], []⟩
noncomputable def slices_Clone_Lint64_int64.cfg : Cfg := ⟨slices_Clone_Lint64_int64.ctx, [], [], fun _ => ([], []), fun _ => []⟩
noncomputable def slices_Clone_Lint64_int64.code : Code := (Go.Proofs.Tryz.f132).body.getD .skip
noncomputable def slices_Clone_Lint64_int64.fin := finK slices_Clone_Lint64_int64.ctx slices_Clone_Lint64_int64.sig [.tmp 2]
noncomputable def slices_Clone_Lint64_int64.F (d : List Int × Unit) : Option ((List Int × Unit) × (Unit)) := anyK (runFn slices_Clone_Lint64_int64.cfg slices_Clone_Lint64_int64.fin slices_Clone_Lint64_int64.code (initSt slices_Clone_Lint64_int64.sig.ps d 8))
noncomputable def slices_Clone_Lint64_int64.T (s_1 : List Int) : Option ((List Int × Unit) × (Unit)) :=
  if 0 < s_1.length then
    if ([] : List Int).length + s_1.length ≤ bigA then
      some ((([] : List Int) ++ s_1, ()), ())
    else
      none
  else
    both (
      some (([], ()), ())
    ) (
      if ([] : List Int).length + s_1.length ≤ bigA then
        some ((([] : List Int) ++ s_1, ()), ())
      else
        none
    )
theorem slices_Clone_Lint64_int64.run (k : Nat) (s_1 : List Int) : runFn slices_Clone_Lint64_int64.cfg slices_Clone_Lint64_int64.fin slices_Clone_Lint64_int64.code (initSt slices_Clone_Lint64_int64.sig.ps (s_1, ()) 8) k = slices_Clone_Lint64_int64.T s_1 := by kernel_rfl
theorem slices_Clone_Lint64_int64.eq (s_1 : List Int) : slices_Clone_Lint64_int64.F (s_1, ()) = slices_Clone_Lint64_int64.T s_1 := (congrArg anyK (funext fun k => slices_Clone_Lint64_int64.run k s_1)).trans (anyK_const _)
theorem slices_Clone_Lint64_int64.ok : CtxOK Go.Proofs.Tryz.prog slices_Clone_Lint64_int64.ctx := ⟨List.forall_mem_nil _, mixed_ok, tab_ok tab_good, List.forall_mem_nil _, List.forall_mem_nil _, List.forall_mem_nil _⟩
theorem slices_Clone_Lint64_int64.S : Sound Go.Proofs.Tryz.prog ⟨132, slices_Clone_Lint64_int64.sig, slices_Clone_Lint64_int64.F⟩ := sound_any (fn := Go.Proofs.Tryz.f132) (code := slices_Clone_Lint64_int64.code) (g := slices_Clone_Lint64_int64.cfg) (res := [.tmp 2]) Go.Proofs.Tryz.func132 (by kernel_rfl) (by kernel_rfl) slices_Clone_Lint64_int64.ok (by kernel_rfl) (by kernel_rfl) (Nat.le_of_ble_eq_true (by kernel_rfl)) (by kernel_rfl)
/-! ### impl_Matrix_row -/
noncomputable def impl_Matrix_row.sig : Sig := ⟨[.val true TMatrix, .val false (.int .i64)], [(.val false, (.sl (.int .i64)), .sh)]⟩
noncomputable def impl_Matrix_row.ctx : Ctx := ⟨tabOf tabl, [], [], [], [], []⟩
noncomputable def impl_Matrix_row.cfg : Cfg := ⟨impl_Matrix_row.ctx, [], [], fun _ => ([], []), fun _ => []⟩
noncomputable def impl_Matrix_row.code : Code := (Go.Proofs.Tryz.f178).body.getD .skip
noncomputable def impl_Matrix_row.fin := finK impl_Matrix_row.ctx impl_Matrix_row.sig [.tmp 4]
noncomputable def impl_Matrix_row.F (d : (Int × Int × Int × List Int) × Int × Unit) : Option ((List Int × Unit) × (Unit)) := anyK (runFn impl_Matrix_row.cfg impl_Matrix_row.fin impl_Matrix_row.code (initSt impl_Matrix_row.sig.ps d 17))
noncomputable def impl_Matrix_row.T (m_1 : Int) (m_2 : Int) (m_3 : Int) (m_4 : List Int) (i_5 : Int) : Option ((List Int × Unit) × (Unit)) :=
  if 0 ≤ (IntKind.i64.wrap (i_5 * m_3)) ∧ (IntKind.i64.wrap (i_5 * m_3)) ≤ (IntKind.i64.wrap ((IntKind.i64.wrap (i_5 + (1 : Int))) * m_3)) ∧ (IntKind.i64.wrap ((IntKind.i64.wrap (i_5 + (1 : Int))) * m_3)) ≤ (m_4.length : Int) then
    some ((cutL m_4 (IntKind.i64.wrap (i_5 * m_3)) (IntKind.i64.wrap ((IntKind.i64.wrap (i_5 + (1 : Int))) * m_3)), ()), ())
  else
    none
theorem impl_Matrix_row.run (k : Nat) (m_1 : Int) (m_2 : Int) (m_3 : Int) (m_4 : List Int) (i_5 : Int) : runFn impl_Matrix_row.cfg impl_Matrix_row.fin impl_Matrix_row.code (initSt impl_Matrix_row.sig.ps ((m_1, (m_2, (m_3, m_4))), i_5, ()) 17) k = impl_Matrix_row.T m_1 m_2 m_3 m_4 i_5 := by kernel_rfl
theorem impl_Matrix_row.eq (m_1 : Int) (m_2 : Int) (m_3 : Int) (m_4 : List Int) (i_5 : Int) : impl_Matrix_row.F ((m_1, (m_2, (m_3, m_4))), i_5, ()) = impl_Matrix_row.T m_1 m_2 m_3 m_4 i_5 := (congrArg anyK (funext fun k => impl_Matrix_row.run k m_1 m_2 m_3 m_4 i_5)).trans (anyK_const _)
theorem impl_Matrix_row.ok : CtxOK Go.Proofs.Tryz.prog impl_Matrix_row.ctx := ⟨List.forall_mem_nil _, mixed_ok, tab_ok tab_good, List.forall_mem_nil _, List.forall_mem_nil _, List.forall_mem_nil _⟩
theorem impl_Matrix_row.S : Sound Go.Proofs.Tryz.prog ⟨178, impl_Matrix_row.sig, impl_Matrix_row.F⟩ := sound_any (fn := Go.Proofs.Tryz.f178) (code := impl_Matrix_row.code) (g := impl_Matrix_row.cfg) (res := [.tmp 4]) Go.Proofs.Tryz.func178 (by kernel_rfl) (by kernel_rfl) impl_Matrix_row.ok (by kernel_rfl) (by kernel_rfl) (Nat.le_of_ble_eq_true (by kernel_rfl)) (by kernel_rfl)
/-! ### impl_rowsOf -/
noncomputable def impl_rowsOf.sig : Sig := ⟨[.val true TMatrix], [(.val false, (.sl (.sl (.int .i64))), .deep)]⟩
noncomputable def impl_rowsOf.ctx : Ctx := ⟨tabOf tabl, [⟨132, slices_Clone_Lint64_int64.sig, slices_Clone_Lint64_int64.F⟩, ⟨178, impl_Matrix_row.sig, impl_Matrix_row.F⟩], [], [], [], []⟩
noncomputable def impl_rowsOf.cfg : Cfg := ⟨impl_rowsOf.ctx, [], [], fun id => match id with | 3 => ([1, 3, 6, 7], [4, 12]) | _ => ([], []), fun _ => []⟩
noncomputable def impl_rowsOf.code : Code := (Go.Proofs.Tryz.f186).body.getD .skip
noncomputable def impl_rowsOf.fin := finK impl_rowsOf.ctx impl_rowsOf.sig [.tmp 2]
noncomputable def impl_rowsOf.F (d : (Int × Int × Int × List Int) × Unit) : Option ((List (List Int) × Unit) × (Unit)) := anyK (runFn impl_rowsOf.cfg impl_rowsOf.fin impl_rowsOf.code (initSt impl_rowsOf.sig.ps d 19))
noncomputable def impl_rowsOf.l3 (k : Nat) (i5 : Int) (i6 : Int) (i7 : Int) (i8 : Int) (i9 : Int) (x10 : List Int) (x11 : List (List Int)) : Option ((List (List Int) × Unit) × (Unit)) :=
  Go.Vm.runT impl_rowsOf.cfg impl_rowsOf.fin k [.inLoop (sub [1, 1, 0, 1, 0, 0] impl_rowsOf.code), .inBlock 0, .code (sub [1, 1, 1] impl_rowsOf.code)]
    ⟨[.dead, .ref 4 (.root 0), .dead, .view 12 (.root 0) 1 false, .dead, .dead, .val false [⟨(.int .i64), .sh, i5⟩], .val false [⟨(.int .i64), .sh, i6⟩]] ++ deads 11, [(4, ⟨true, [⟨(.int .i64), .sh, i7⟩, ⟨(.int .i64), .sh, i8⟩, ⟨(.int .i64), .sh, i9⟩, ⟨(.sl (.int .i64)), .sh, x10⟩]⟩), (12, ⟨false, [⟨(.sl (.sl (.int .i64))), .deep, x11⟩]⟩)]⟩
theorem impl_rowsOf.l3_eq (k : Nat) (i5 : Int) (i6 : Int) (i7 : Int) (i8 : Int) (i9 : Int) (x10 : List Int) (x11 : List (List Int)) : impl_rowsOf.l3 (k + 1) i5 i6 i7 i8 i9 x10 x11 =
  if (decide (i6 < i5)) = true then
    (impl_Matrix_row.F ((i7, (i8, (i9, x10))), i6, ())).bind fun r12 =>
      (slices_Clone_Lint64_int64.F (r12.1.1, ())).bind fun r13 =>
        if x11.length + ([r13.1.1] : List (List Int)).length ≤ bigA then
          impl_rowsOf.l3 k i5 (IntKind.i64.wrap (i6 + (1 : Int))) i7 i8 i9 x10 (x11 ++ ([r13.1.1]))
        else
          none
  else
    some ((x11, ()), ()) := by kernel_rfl
noncomputable def impl_rowsOf.T (k : Nat) (m_1 : Int) (m_2 : Int) (m_3 : Int) (m_4 : List Int) : Option ((List (List Int) × Unit) × (Unit)) :=
  impl_rowsOf.l3 k m_2 (0 : Int) m_1 m_2 m_3 m_4 ([])
theorem impl_rowsOf.run (k : Nat) (m_1 : Int) (m_2 : Int) (m_3 : Int) (m_4 : List Int) : runFn impl_rowsOf.cfg impl_rowsOf.fin impl_rowsOf.code (initSt impl_rowsOf.sig.ps ((m_1, (m_2, (m_3, m_4))), ()) 19) k = impl_rowsOf.T k m_1 m_2 m_3 m_4 := by kernel_rfl
theorem impl_rowsOf.of (m_1 : Int) (m_2 : Int) (m_3 : Int) (m_4 : List Int) {r : (List (List Int) × Unit) × (Unit)} (h : Ev (fun k => impl_rowsOf.T k m_1 m_2 m_3 m_4) r) : impl_rowsOf.F ((m_1, (m_2, (m_3, m_4))), ()) = some r := Ev.run (fun k => impl_rowsOf.run k m_1 m_2 m_3 m_4) h
theorem impl_rowsOf.ok : CtxOK Go.Proofs.Tryz.prog impl_rowsOf.ctx := ⟨List.forall_mem_nil _, mixed_ok, tab_ok tab_good, List.forall_mem_cons.2 ⟨slices_Clone_Lint64_int64.S, List.forall_mem_cons.2 ⟨impl_Matrix_row.S, List.forall_mem_nil _⟩⟩, List.forall_mem_nil _, List.forall_mem_nil _⟩
theorem impl_rowsOf.S : Sound Go.Proofs.Tryz.prog ⟨186, impl_rowsOf.sig, impl_rowsOf.F⟩ := sound_any (fn := Go.Proofs.Tryz.f186) (code := impl_rowsOf.code) (g := impl_rowsOf.cfg) (res := [.tmp 2]) Go.Proofs.Tryz.func186 (by kernel_rfl) (by kernel_rfl) impl_rowsOf.ok (by kernel_rfl) (by kernel_rfl) (Nat.le_of_ble_eq_true (by kernel_rfl)) (by kernel_rfl)
/-! ### impl_columnsOf -/
noncomputable def impl_columnsOf.sig : Sig := ⟨[.val true TMatrix], [(.val false, (.sl (.sl (.int .i64))), .deep)]⟩
noncomputable def impl_columnsOf.ctx : Ctx := ⟨tabOf tabl, [⟨97, impl_transpose.sig, impl_transpose.F⟩, ⟨186, impl_rowsOf.sig, impl_rowsOf.F⟩], [], [], [], []⟩
noncomputable def impl_columnsOf.cfg : Cfg := ⟨impl_columnsOf.ctx, [], [], fun _ => ([], []), fun _ => []⟩
noncomputable def impl_columnsOf.code : Code := (Go.Proofs.Tryz.f123).body.getD .skip
noncomputable def impl_columnsOf.fin := finK impl_columnsOf.ctx impl_columnsOf.sig [.tmp 2]
noncomputable def impl_columnsOf.F (d : (Int × Int × Int × List Int) × Unit) : Option ((List (List Int) × Unit) × (Unit)) := anyK (runFn impl_columnsOf.cfg impl_columnsOf.fin impl_columnsOf.code (initSt impl_columnsOf.sig.ps d 6))
noncomputable def impl_columnsOf.T (m_1 : Int) (m_2 : Int) (m_3 : Int) (m_4 : List Int) : Option ((List (List Int) × Unit) × (Unit)) :=
  (impl_transpose.F ((m_1, (m_2, (m_3, m_4))), ())).bind fun r5 =>
    (impl_rowsOf.F (r5.1.1, ())).bind fun r6 =>
      some ((r6.1.1, ()), ())
theorem impl_columnsOf.run (k : Nat) (m_1 : Int) (m_2 : Int) (m_3 : Int) (m_4 : List Int) : runFn impl_columnsOf.cfg impl_columnsOf.fin impl_columnsOf.code (initSt impl_columnsOf.sig.ps ((m_1, (m_2, (m_3, m_4))), ()) 6) k = impl_columnsOf.T m_1 m_2 m_3 m_4 := by kernel_rfl
theorem impl_columnsOf.eq (m_1 : Int) (m_2 : Int) (m_3 : Int) (m_4 : List Int) : impl_columnsOf.F ((m_1, (m_2, (m_3, m_4))), ()) = impl_columnsOf.T m_1 m_2 m_3 m_4 := (congrArg anyK (funext fun k => impl_columnsOf.run k m_1 m_2 m_3 m_4)).trans (anyK_const _)
theorem impl_columnsOf.ok : CtxOK Go.Proofs.Tryz.prog impl_columnsOf.ctx := ⟨List.forall_mem_nil _, mixed_ok, tab_ok tab_good, List.forall_mem_cons.2 ⟨impl_transpose.S, List.forall_mem_cons.2 ⟨impl_rowsOf.S, List.forall_mem_nil _⟩⟩, List.forall_mem_nil _, List.forall_mem_nil _⟩
theorem impl_columnsOf.S : Sound Go.Proofs.Tryz.prog ⟨123, impl_columnsOf.sig, impl_columnsOf.F⟩ := sound_any (fn := Go.Proofs.Tryz.f123) (code := impl_columnsOf.code) (g := impl_columnsOf.cfg) (res := [.tmp 2]) Go.Proofs.Tryz.func123 (by kernel_rfl) (by kernel_rfl) impl_columnsOf.ok (by kernel_rfl) (by kernel_rfl) (Nat.le_of_ble_eq_true (by kernel_rfl)) (by kernel_rfl)
/-! ### impl_dot -/
noncomputable def impl_dot.sig : Sig := ⟨[.val false (.sl (.int .i64)), .val false (.sl (.int .i64)), .val false (.int .i64)], [(.val false, (.int .i64), .deep)]⟩
noncomputable def impl_dot.ctx : Ctx := ⟨tabOf tabl, [], [], [], [], []⟩
noncomputable def impl_dot.cfg : Cfg := ⟨impl_dot.ctx, [], [], fun id => match id with | 3 => ([0, 1, 2, 7, 10, 11], []) | _ => ([], []), fun _ => []⟩
noncomputable def impl_dot.code : Code := (Go.Proofs.Tryz.f177).body.getD .skip
noncomputable def impl_dot.fin := finK impl_dot.ctx impl_dot.sig [.tmp 6]
noncomputable def impl_dot.F (d : List Int × List Int × Int × Unit) : Option ((Int × Unit) × (Unit)) := anyK (runFn impl_dot.cfg impl_dot.fin impl_dot.code (initSt impl_dot.sig.ps d 29))
noncomputable def impl_dot.l3 (k : Nat) (x4 : List Int) (x5 : List Int) (i6 : Int) (i7 : Int) (i8 : Int) (i9 : Int) : Option ((Int × Unit) × (Unit)) :=
  Go.Vm.runT impl_dot.cfg impl_dot.fin k [.inLoop (sub [1, 1, 0, 1, 0, 0] impl_dot.code), .inBlock 0, .code (sub [1, 1, 1] impl_dot.code)]
    ⟨[.val false [⟨(.sl (.int .i64)), .sh, x4⟩], .val false [⟨(.sl (.int .i64)), .sh, x5⟩], .val false [⟨(.int .i64), .sh, i6⟩], .dead, .dead, .dead, .dead, .val false [⟨(.int .i64), .sh, i7⟩], .dead, .dead, .val false [⟨(.int .i64), .sh, i8⟩], .val false [⟨(.int .i64), .sh, i9⟩]] ++ deads 17, []⟩
theorem impl_dot.l3_eq (k : Nat) (x4 : List Int) (x5 : List Int) (i6 : Int) (i7 : Int) (i8 : Int) (i9 : Int) : impl_dot.l3 (k + 1) x4 x5 i6 i7 i8 i9 =
  if (decide (i9 < i8)) = true then
    if 0 ≤ i9 ∧ i9 < (x4.length : Int) then
      if 0 ≤ i9 ∧ i9 < (x5.length : Int) then
        if i6 = 0 then
          none
        else
          impl_dot.l3 k x4 x5 i6 ((IntKind.i64.wrap (i7 + (IntKind.i64.wrap ((x4.getD i9.toNat 0 : Int) * (x5.getD i9.toNat 0 : Int))))).tmod i6) i8 (IntKind.i64.wrap (i9 + (1 : Int)))
      else
        none
    else
      none
  else
    some ((i7, ()), ()) := by kernel_rfl
noncomputable def impl_dot.T (k : Nat) (a_1 : List Int) (b_2 : List Int) (p_3 : Int) : Option ((Int × Unit) × (Unit)) :=
  impl_dot.l3 k a_1 b_2 p_3 (0 : Int) (a_1.length : Int) (0 : Int)
theorem impl_dot.run (k : Nat) (a_1 : List Int) (b_2 : List Int) (p_3 : Int) : runFn impl_dot.cfg impl_dot.fin impl_dot.code (initSt impl_dot.sig.ps (a_1, b_2, p_3, ()) 29) k = impl_dot.T k a_1 b_2 p_3 := by kernel_rfl
theorem impl_dot.of (a_1 : List Int) (b_2 : List Int) (p_3 : Int) {r : (Int × Unit) × (Unit)} (h : Ev (fun k => impl_dot.T k a_1 b_2 p_3) r) : impl_dot.F (a_1, b_2, p_3, ()) = some r := Ev.run (fun k => impl_dot.run k a_1 b_2 p_3) h
theorem impl_dot.ok : CtxOK Go.Proofs.Tryz.prog impl_dot.ctx := ⟨List.forall_mem_nil _, mixed_ok, tab_ok tab_good, List.forall_mem_nil _, List.forall_mem_nil _, List.forall_mem_nil _⟩
theorem impl_dot.S : Sound Go.Proofs.Tryz.prog ⟨177, impl_dot.sig, impl_dot.F⟩ := sound_any (fn := Go.Proofs.Tryz.f177) (code := impl_dot.code) (g := impl_dot.cfg) (res := [.tmp 6]) Go.Proofs.Tryz.func177 (by kernel_rfl) (by kernel_rfl) impl_dot.ok (by kernel_rfl) (by kernel_rfl) (Nat.le_of_ble_eq_true (by kernel_rfl)) (by kernel_rfl)
/-! ### impl_product_1 -/
noncomputable def impl_product_1.sig : Sig := ⟨[.val false (.int .i64), .val false (.int .i64), .rptr TMatrix, .rptr (.sl (.sl (.int .i64)))], [(.val false, (.int .i64), .deep)]⟩
noncomputable def impl_product_1.ctx : Ctx := ⟨tabOf tabl, [⟨177, impl_dot.sig, impl_dot.F⟩, ⟨178, impl_Matrix_row.sig, impl_Matrix_row.F⟩], [], [], [], []⟩
noncomputable def impl_product_1.cfg : Cfg := ⟨impl_product_1.ctx, [], [], fun _ => ([], []), fun _ => []⟩
noncomputable def impl_product_1.code : Code := (Go.Proofs.Tryz.f176).body.getD .skip
noncomputable def impl_product_1.fin := finK impl_product_1.ctx impl_product_1.sig [.tmp 6]
noncomputable def impl_product_1.F (d : Int × Int × (Int × Int × Int × List Int) × List (List Int) × Unit) : Option ((Int × Unit) × (Unit)) := anyK (runFn impl_product_1.cfg impl_product_1.fin impl_product_1.code (initSt impl_product_1.sig.ps d 17))
noncomputable def impl_product_1.T (i_1 : Int) (j_2 : Int) (a_3 : Int) (a_4 : Int) (a_5 : Int) (a_6 : List Int) (a_7 : List (List Int)) : Option ((Int × Unit) × (Unit)) :=
  (impl_Matrix_row.F ((a_3, (a_4, (a_5, a_6))), i_1, ())).bind fun r8 =>
    if 0 ≤ j_2 ∧ j_2 < (a_7.length : Int) then
      (impl_dot.F (r8.1.1, a_7.getD j_2.toNat ([] : List Int), a_3, ())).bind fun r9 =>
        some (((r9.1.1 : Int), ()), ())
    else
      none
theorem impl_product_1.run (k : Nat) (i_1 : Int) (j_2 : Int) (a_3 : Int) (a_4 : Int) (a_5 : Int) (a_6 : List Int) (a_7 : List (List Int)) : runFn impl_product_1.cfg impl_product_1.fin impl_product_1.code (initSt impl_product_1.sig.ps (i_1, j_2, (a_3, (a_4, (a_5, a_6))), a_7, ()) 17) k = impl_product_1.T i_1 j_2 a_3 a_4 a_5 a_6 a_7 := by kernel_rfl
theorem impl_product_1.eq (i_1 : Int) (j_2 : Int) (a_3 : Int) (a_4 : Int) (a_5 : Int) (a_6 : List Int) (a_7 : List (List Int)) : impl_product_1.F (i_1, j_2, (a_3, (a_4, (a_5, a_6))), a_7, ()) = impl_product_1.T i_1 j_2 a_3 a_4 a_5 a_6 a_7 := (congrArg anyK (funext fun k => impl_product_1.run k i_1 j_2 a_3 a_4 a_5 a_6 a_7)).trans (anyK_const _)
theorem impl_product_1.ok : CtxOK Go.Proofs.Tryz.prog impl_product_1.ctx := ⟨List.forall_mem_nil _, mixed_ok, tab_ok tab_good, List.forall_mem_cons.2 ⟨impl_dot.S, List.forall_mem_cons.2 ⟨impl_Matrix_row.S, List.forall_mem_nil _⟩⟩, List.forall_mem_nil _, List.forall_mem_nil _⟩
theorem impl_product_1.S : Sound Go.Proofs.Tryz.prog ⟨176, impl_product_1.sig, impl_product_1.F⟩ := sound_any (fn := Go.Proofs.Tryz.f176) (code := impl_product_1.code) (g := impl_product_1.cfg) (res := [.tmp 6]) Go.Proofs.Tryz.func176 (by kernel_rfl) (by kernel_rfl) impl_product_1.ok (by kernel_rfl) (by kernel_rfl) (Nat.le_of_ble_eq_true (by kernel_rfl)) (by kernel_rfl)
noncomputable def impl_product_1.cloG (y : (Int × Int × Int × List Int) × List (List Int) × Unit) (d : Int × Int × Unit) : Option (Int × Unit) := (impl_product_1.F (joinIns [.rptr TMatrix, .rptr (.sl (.sl (.int .i64)))] [(false, (.int .i64)), (false, (.int .i64))] d y)).map (·.1)
noncomputable def impl_product_1.clo : Clo := ⟨176, ⟨[(false, (.int .i64)), (false, (.int .i64))], [(.val false, (.int .i64), .deep)]⟩, [.rptr TMatrix, .rptr (.sl (.sl (.int .i64)))], impl_product_1.cloG⟩
theorem impl_product_1.cloS : SoundClo Go.Proofs.Tryz.prog impl_product_1.clo := sound_clo (s := ⟨[(false, (.int .i64)), (false, (.int .i64))], [(.val false, (.int .i64), .deep)]⟩) (caps := [.rptr TMatrix, .rptr (.sl (.sl (.int .i64)))]) rfl impl_product_1.S
/-! ### impl_product -/
noncomputable def impl_product.sig : Sig := ⟨[.val true TMatrix, .val true TMatrix], [(.val true, TMatrix, .deep)]⟩
noncomputable def impl_product.ctx : Ctx := ⟨tabOf tabl, [⟨123, impl_columnsOf.sig, impl_columnsOf.F⟩, ⟨144, impl_filled.sig, impl_filled.F⟩], [impl_product_1.clo], [], [], []⟩
noncomputable def impl_product.cfg : Cfg := ⟨impl_product.ctx, [], [], fun _ => ([], []), fun _ => []⟩
noncomputable def impl_product.code : Code := (Go.Proofs.Tryz.f101).body.getD .skip
noncomputable def impl_product.fin := finK impl_product.ctx impl_product.sig [.cell 4 65]
noncomputable def impl_product.F (d : (Int × Int × Int × List Int) × (Int × Int × Int × List Int) × Unit) : Option (((Int × Int × Int × List Int) × Unit) × (Unit)) := anyK (runFn impl_product.cfg impl_product.fin impl_product.code (initSt impl_product.sig.ps d 16))
noncomputable def impl_product.T (a_1 : Int) (a_2 : Int) (a_3 : Int) (a_4 : List Int) (b_5 : Int) (b_6 : Int) (b_7 : Int) (b_8 : List Int) : Option (((Int × Int × Int × List Int) × Unit) × (Unit)) :=
  (impl_columnsOf.F ((b_5, (b_6, (b_7, b_8))), ())).bind fun r9 =>
    (impl_filled.F (a_1, a_2, b_7, impl_product_1.cloG ((a_1, (a_2, (a_3, a_4))), r9.1.1, ()), ())).bind fun r10 =>
      some ((r10.1.1, ()), ())
theorem impl_product.run (k : Nat) (a_1 : Int) (a_2 : Int) (a_3 : Int) (a_4 : List Int) (b_5 : Int) (b_6 : Int) (b_7 : Int) (b_8 : List Int) : runFn impl_product.cfg impl_product.fin impl_product.code (initSt impl_product.sig.ps ((a_1, (a_2, (a_3, a_4))), (b_5, (b_6, (b_7, b_8))), ()) 16) k = impl_product.T a_1 a_2 a_3 a_4 b_5 b_6 b_7 b_8 := by kernel_rfl
theorem impl_product.eq (a_1 : Int) (a_2 : Int) (a_3 : Int) (a_4 : List Int) (b_5 : Int) (b_6 : Int) (b_7 : Int) (b_8 : List Int) : impl_product.F ((a_1, (a_2, (a_3, a_4))), (b_5, (b_6, (b_7, b_8))), ()) = impl_product.T a_1 a_2 a_3 a_4 b_5 b_6 b_7 b_8 := (congrArg anyK (funext fun k => impl_product.run k a_1 a_2 a_3 a_4 b_5 b_6 b_7 b_8)).trans (anyK_const _)
theorem impl_product.ok : CtxOK Go.Proofs.Tryz.prog impl_product.ctx := ⟨List.forall_mem_nil _, mixed_ok, tab_ok tab_good, List.forall_mem_cons.2 ⟨impl_columnsOf.S, List.forall_mem_cons.2 ⟨impl_filled.S, List.forall_mem_nil _⟩⟩, List.forall_mem_cons.2 ⟨impl_product_1.cloS, List.forall_mem_nil _⟩, List.forall_mem_nil _⟩
theorem impl_product.S : Sound Go.Proofs.Tryz.prog ⟨101, impl_product.sig, impl_product.F⟩ := sound_any (fn := Go.Proofs.Tryz.f101) (code := impl_product.code) (g := impl_product.cfg) (res := [.cell 4 65]) Go.Proofs.Tryz.func101 (by kernel_rfl) (by kernel_rfl) impl_product.ok (by kernel_rfl) (by kernel_rfl) (Nat.le_of_ble_eq_true (by kernel_rfl)) (by kernel_rfl)
/-! ### slices_Equal_Lint64_int64 -/
noncomputable def slices_Equal_Lint64_int64.sig : Sig := ⟨[.val false (.sl (.int .i64)), .val false (.sl (.int .i64))], [(.val false, .bool, .deep)]⟩
noncomputable def slices_Equal_Lint64_int64.ctx : Ctx := ⟨tabOf tabl, [], [], [], [], []⟩
noncomputable def slices_Equal_Lint64_int64.cfg : Cfg := ⟨slices_Equal_Lint64_int64.ctx, [], [], fun id => match id with | 4 => ([0, 1, 12, 13], []) | _ => ([], []), fun _ => []⟩
noncomputable def slices_Equal_Lint64_int64.code : Code := (Go.Proofs.Tryz.f203).body.getD .skip
noncomputable def slices_Equal_Lint64_int64.fin := finK slices_Equal_Lint64_int64.ctx slices_Equal_Lint64_int64.sig [.tmp 4]
noncomputable def slices_Equal_Lint64_int64.F (d : List Int × List Int × Unit) : Option ((Bool × Unit) × (Unit)) := anyK (runFn slices_Equal_Lint64_int64.cfg slices_Equal_Lint64_int64.fin slices_Equal_Lint64_int64.code (initSt slices_Equal_Lint64_int64.sig.ps d 26))
noncomputable def slices_Equal_Lint64_int64.l4 (k : Nat) (x3 : List Int) (x4 : List Int) (i5 : Int) (i6 : Int) : Option ((Bool × Unit) × (Unit)) :=
  Go.Vm.runT slices_Equal_Lint64_int64.cfg slices_Equal_Lint64_int64.fin k [.inLoop (sub [1, 1, 0, 1, 0, 0] slices_Equal_Lint64_int64.code), .inBlock 0, .code (sub [1, 1, 1] slices_Equal_Lint64_int64.code)]
    ⟨[.val false [⟨(.sl (.int .i64)), .sh, x3⟩], .val false [⟨(.sl (.int .i64)), .sh, x4⟩], .dead, .dead, .dead, .dead, .dead, .dead, .dead, .dead, .dead, .dead, .val false [⟨(.int .i64), .sh, i5⟩], .val false [⟨(.int .i64), .sh, i6⟩]] ++ deads 12, []⟩
theorem slices_Equal_Lint64_int64.l4_eq (k : Nat) (x3 : List Int) (x4 : List Int) (i5 : Int) (i6 : Int) : slices_Equal_Lint64_int64.l4 (k + 1) x3 x4 i5 i6 =
  if (decide (i6 < i5)) = true then
    if 0 ≤ i6 ∧ i6 < (x3.length : Int) then
      if 0 ≤ i6 ∧ i6 < (x4.length : Int) then
        if ((x3.getD i6.toNat 0 : Int) != (x4.getD i6.toNat 0 : Int)) = true then
          some ((false, ()), ())
        else
          slices_Equal_Lint64_int64.l4 k x3 x4 i5 (IntKind.i64.wrap (i6 + (1 : Int)))
      else
        none
    else
      none
  else
    some ((true, ()), ()) := by kernel_rfl
noncomputable def slices_Equal_Lint64_int64.T (k : Nat) (s1_1 : List Int) (s2_2 : List Int) : Option ((Bool × Unit) × (Unit)) :=
  if ((s1_1.length : Int) != (s2_2.length : Int)) = true then
    some ((false, ()), ())
  else
    slices_Equal_Lint64_int64.l4 k s1_1 s2_2 (s1_1.length : Int) (0 : Int)
theorem slices_Equal_Lint64_int64.run (k : Nat) (s1_1 : List Int) (s2_2 : List Int) : runFn slices_Equal_Lint64_int64.cfg slices_Equal_Lint64_int64.fin slices_Equal_Lint64_int64.code (initSt slices_Equal_Lint64_int64.sig.ps (s1_1, s2_2, ()) 26) k = slices_Equal_Lint64_int64.T k s1_1 s2_2 := by kernel_rfl
theorem slices_Equal_Lint64_int64.of (s1_1 : List Int) (s2_2 : List Int) {r : (Bool × Unit) × (Unit)} (h : Ev (fun k => slices_Equal_Lint64_int64.T k s1_1 s2_2) r) : slices_Equal_Lint64_int64.F (s1_1, s2_2, ()) = some r := Ev.run (fun k => slices_Equal_Lint64_int64.run k s1_1 s2_2) h
theorem slices_Equal_Lint64_int64.ok : CtxOK Go.Proofs.Tryz.prog slices_Equal_Lint64_int64.ctx := ⟨List.forall_mem_nil _, mixed_ok, tab_ok tab_good, List.forall_mem_nil _, List.forall_mem_nil _, List.forall_mem_nil _⟩
theorem slices_Equal_Lint64_int64.S : Sound Go.Proofs.Tryz.prog ⟨203, slices_Equal_Lint64_int64.sig, slices_Equal_Lint64_int64.F⟩ := sound_any (fn := Go.Proofs.Tryz.f203) (code := slices_Equal_Lint64_int64.code) (g := slices_Equal_Lint64_int64.cfg) (res := [.tmp 4]) Go.Proofs.Tryz.func203 (by kernel_rfl) (by kernel_rfl) slices_Equal_Lint64_int64.ok (by kernel_rfl) (by kernel_rfl) (Nat.le_of_ble_eq_true (by kernel_rfl)) (by kernel_rfl)
/-! ### impl_SameMatrix -/
noncomputable def impl_SameMatrix.sig : Sig := ⟨[.val true TMatrix, .val true TMatrix], [(.val false, .bool, .deep)]⟩
noncomputable def impl_SameMatrix.ctx : Ctx := ⟨tabOf tabl, [⟨203, slices_Equal_Lint64_int64.sig, slices_Equal_Lint64_int64.F⟩], [], [], [], []⟩
noncomputable def impl_SameMatrix.cfg : Cfg := ⟨impl_SameMatrix.ctx, [], [], fun _ => ([], []), fun _ => []⟩
noncomputable def impl_SameMatrix.code : Code := (Go.Proofs.Tryz.f142).body.getD .skip
noncomputable def impl_SameMatrix.fin := finK impl_SameMatrix.ctx impl_SameMatrix.sig [.tmp 4]
noncomputable def impl_SameMatrix.F (d : (Int × Int × Int × List Int) × (Int × Int × Int × List Int) × Unit) : Option ((Bool × Unit) × (Unit)) := anyK (runFn impl_SameMatrix.cfg impl_SameMatrix.fin impl_SameMatrix.code (initSt impl_SameMatrix.sig.ps d 31))
noncomputable def impl_SameMatrix.T (a_1 : Int) (a_2 : Int) (a_3 : Int) (a_4 : List Int) (b_5 : Int) (b_6 : Int) (b_7 : Int) (b_8 : List Int) : Option ((Bool × Unit) × (Unit)) :=
  if (a_1 == b_5) = true then
    if (a_2 == b_6) = true then
      if (a_3 == b_7) = true then
        (slices_Equal_Lint64_int64.F (a_4, b_8, ())).bind fun r9 =>
          some (((r9.1.1 : Bool), ()), ())
      else
        some ((false, ()), ())
    else
      some ((false, ()), ())
  else
    some ((false, ()), ())
theorem impl_SameMatrix.run (k : Nat) (a_1 : Int) (a_2 : Int) (a_3 : Int) (a_4 : List Int) (b_5 : Int) (b_6 : Int) (b_7 : Int) (b_8 : List Int) : runFn impl_SameMatrix.cfg impl_SameMatrix.fin impl_SameMatrix.code (initSt impl_SameMatrix.sig.ps ((a_1, (a_2, (a_3, a_4))), (b_5, (b_6, (b_7, b_8))), ()) 31) k = impl_SameMatrix.T a_1 a_2 a_3 a_4 b_5 b_6 b_7 b_8 := by kernel_rfl
theorem impl_SameMatrix.eq (a_1 : Int) (a_2 : Int) (a_3 : Int) (a_4 : List Int) (b_5 : Int) (b_6 : Int) (b_7 : Int) (b_8 : List Int) : impl_SameMatrix.F ((a_1, (a_2, (a_3, a_4))), (b_5, (b_6, (b_7, b_8))), ()) = impl_SameMatrix.T a_1 a_2 a_3 a_4 b_5 b_6 b_7 b_8 := (congrArg anyK (funext fun k => impl_SameMatrix.run k a_1 a_2 a_3 a_4 b_5 b_6 b_7 b_8)).trans (anyK_const _)
theorem impl_SameMatrix.ok : CtxOK Go.Proofs.Tryz.prog impl_SameMatrix.ctx := ⟨List.forall_mem_nil _, mixed_ok, tab_ok tab_good, List.forall_mem_cons.2 ⟨slices_Equal_Lint64_int64.S, List.forall_mem_nil _⟩, List.forall_mem_nil _, List.forall_mem_nil _⟩
theorem impl_SameMatrix.S : Sound Go.Proofs.Tryz.prog ⟨142, impl_SameMatrix.sig, impl_SameMatrix.F⟩ := sound_any (fn := Go.Proofs.Tryz.f142) (code := impl_SameMatrix.code) (g := impl_SameMatrix.cfg) (res := [.tmp 4]) Go.Proofs.Tryz.func142 (by kernel_rfl) (by kernel_rfl) impl_SameMatrix.ok (by kernel_rfl) (by kernel_rfl) (Nat.le_of_ble_eq_true (by kernel_rfl)) (by kernel_rfl)
/-! ### impl_firstMap -/
noncomputable def impl_firstMap.sig : Sig := ⟨[.val true TSheaf, .val false (.int .i64)], [(.val false, (.int .i64), .deep)]⟩
noncomputable def impl_firstMap.ctx : Ctx := ⟨tabOf tabl, [⟨161, impl_size_int64.sig, impl_size_int64.F⟩], [], [], [], []⟩
noncomputable def impl_firstMap.cfg : Cfg := ⟨impl_firstMap.ctx, [], [], fun id => match id with | 3 => ([5, 12, 13, 14], []) | _ => ([], []), fun _ => []⟩
noncomputable def impl_firstMap.code : Code := (Go.Proofs.Tryz.f233).body.getD .skip
noncomputable def impl_firstMap.fin := finK impl_firstMap.ctx impl_firstMap.sig [.tmp 4]
noncomputable def impl_firstMap.F (d : (List (List Int) × Int × List Int × List (Int × Int × Int × List Int)) × Int × Unit) : Option ((Int × Unit) × (Unit)) := anyK (runFn impl_firstMap.cfg impl_firstMap.fin impl_firstMap.code (initSt impl_firstMap.sig.ps d 27))
noncomputable def impl_firstMap.l3 (k : Nat) (i6 : Int) (x7 : List (List Int)) (i8 : Int) (i9 : Int) : Option ((Int × Unit) × (Unit)) :=
  Go.Vm.runT impl_firstMap.cfg impl_firstMap.fin k [.inLoop (sub [1, 1, 0, 1, 0, 0] impl_firstMap.code), .inBlock 0, .code (sub [1, 1, 1] impl_firstMap.code)]
    ⟨[.dead, .dead, .dead, .dead, .dead, .val false [⟨(.int .i64), .sh, i6⟩], .dead, .dead, .dead, .dead, .dead, .dead, .val false [⟨(.sl (.sl (.int .i64))), .sh, x7⟩], .val false [⟨(.int .i64), .sh, i8⟩], .val false [⟨(.int .i64), .sh, i9⟩]] ++ deads 12, []⟩
theorem impl_firstMap.l3_eq (k : Nat) (i6 : Int) (x7 : List (List Int)) (i8 : Int) (i9 : Int) : impl_firstMap.l3 (k + 1) i6 x7 i8 i9 =
  if (decide (i9 < i8)) = true then
    if 0 ≤ i9 ∧ i9 < (x7.length : Int) then
      if (decide (((x7.getD i9.toNat ([] : List Int)).length : Int) > (1 : Int))) = true then
        (impl_size_int64.F (x7.getD i9.toNat ([] : List Int), ())).bind fun r10 =>
          impl_firstMap.l3 k (IntKind.i64.wrap (i6 + (r10.1.1 : Int))) x7 i8 (IntKind.i64.wrap (i9 + (1 : Int)))
      else
        impl_firstMap.l3 k i6 x7 i8 (IntKind.i64.wrap (i9 + (1 : Int)))
    else
      none
  else
    some ((i6, ()), ()) := by kernel_rfl
noncomputable def impl_firstMap.T (k : Nat) (s_1 : List (List Int)) (s_2 : Int) (s_3 : List Int) (s_4 : List (Int × Int × Int × List Int)) (simplex_5 : Int) : Option ((Int × Unit) × (Unit)) :=
  if 0 ≤ (0 : Int) ∧ (0 : Int) ≤ simplex_5 ∧ simplex_5 ≤ (s_1.length : Int) then
    impl_firstMap.l3 k (0 : Int) (cutL s_1 (0 : Int) simplex_5) ((cutL s_1 (0 : Int) simplex_5).length : Int) (0 : Int)
  else
    none
theorem impl_firstMap.run (k : Nat) (s_1 : List (List Int)) (s_2 : Int) (s_3 : List Int) (s_4 : List (Int × Int × Int × List Int)) (simplex_5 : Int) : runFn impl_firstMap.cfg impl_firstMap.fin impl_firstMap.code (initSt impl_firstMap.sig.ps ((s_1, (s_2, (s_3, s_4))), simplex_5, ()) 27) k = impl_firstMap.T k s_1 s_2 s_3 s_4 simplex_5 := by kernel_rfl
theorem impl_firstMap.of (s_1 : List (List Int)) (s_2 : Int) (s_3 : List Int) (s_4 : List (Int × Int × Int × List Int)) (simplex_5 : Int) {r : (Int × Unit) × (Unit)} (h : Ev (fun k => impl_firstMap.T k s_1 s_2 s_3 s_4 simplex_5) r) : impl_firstMap.F ((s_1, (s_2, (s_3, s_4))), simplex_5, ()) = some r := Ev.run (fun k => impl_firstMap.run k s_1 s_2 s_3 s_4 simplex_5) h
theorem impl_firstMap.ok : CtxOK Go.Proofs.Tryz.prog impl_firstMap.ctx := ⟨List.forall_mem_nil _, mixed_ok, tab_ok tab_good, List.forall_mem_cons.2 ⟨impl_size_int64.S, List.forall_mem_nil _⟩, List.forall_mem_nil _, List.forall_mem_nil _⟩
theorem impl_firstMap.S : Sound Go.Proofs.Tryz.prog ⟨233, impl_firstMap.sig, impl_firstMap.F⟩ := sound_any (fn := Go.Proofs.Tryz.f233) (code := impl_firstMap.code) (g := impl_firstMap.cfg) (res := [.tmp 4]) Go.Proofs.Tryz.func233 (by kernel_rfl) (by kernel_rfl) impl_firstMap.ok (by kernel_rfl) (by kernel_rfl) (Nat.le_of_ble_eq_true (by kernel_rfl)) (by kernel_rfl)
/-! ### impl_direct -/
noncomputable def impl_direct.sig : Sig := ⟨[.val true TSheaf, .val false (.int .i64), .val false (.int .i64)], [(.val true, TMatrix, .sh)]⟩
noncomputable def impl_direct.ctx : Ctx := ⟨tabOf tabl, [⟨233, impl_firstMap.sig, impl_firstMap.F⟩], [], [], [], []⟩
noncomputable def impl_direct.cfg : Cfg := ⟨impl_direct.ctx, [], [], fun _ => ([], []), fun _ => []⟩
noncomputable def impl_direct.code : Code := (Go.Proofs.Tryz.f190).body.getD .skip
noncomputable def impl_direct.fin := finK impl_direct.ctx impl_direct.sig [.cell 6 65]
noncomputable def impl_direct.F (d : (List (List Int) × Int × List Int × List (Int × Int × Int × List Int)) × Int × Int × Unit) : Option (((Int × Int × Int × List Int) × Unit) × (Unit)) := anyK (runFn impl_direct.cfg impl_direct.fin impl_direct.code (initSt impl_direct.sig.ps d 16))
noncomputable def impl_direct.T (s_1 : List (List Int)) (s_2 : Int) (s_3 : List Int) (s_4 : List (Int × Int × Int × List Int)) (simplex_5 : Int) (place_6 : Int) : Option (((Int × Int × Int × List Int) × Unit) × (Unit)) :=
  (impl_firstMap.F ((s_1, (s_2, (s_3, s_4))), simplex_5, ())).bind fun r7 =>
    if 0 ≤ (IntKind.i64.wrap ((r7.1.1 : Int) + place_6)) ∧ (IntKind.i64.wrap ((r7.1.1 : Int) + place_6)) < (s_4.length : Int) then
      let y8 : Int := (s_4.getD (IntKind.i64.wrap ((r7.1.1 : Int) + place_6)).toNat (0, 0, 0, ([] : List Int))).1
      let y9 : Int := ((s_4.getD (IntKind.i64.wrap ((r7.1.1 : Int) + place_6)).toNat (0, 0, 0, ([] : List Int))).2).1
      let y10 : Int := (((s_4.getD (IntKind.i64.wrap ((r7.1.1 : Int) + place_6)).toNat (0, 0, 0, ([] : List Int))).2).2).1
      let y11 : List Int := (((s_4.getD (IntKind.i64.wrap ((r7.1.1 : Int) + place_6)).toNat (0, 0, 0, ([] : List Int))).2).2).2
      some (((y8, (y9, (y10, y11))), ()), ())
    else
      none
theorem impl_direct.run (k : Nat) (s_1 : List (List Int)) (s_2 : Int) (s_3 : List Int) (s_4 : List (Int × Int × Int × List Int)) (simplex_5 : Int) (place_6 : Int) : runFn impl_direct.cfg impl_direct.fin impl_direct.code (initSt impl_direct.sig.ps ((s_1, (s_2, (s_3, s_4))), simplex_5, place_6, ()) 16) k = impl_direct.T s_1 s_2 s_3 s_4 simplex_5 place_6 := by kernel_rfl
theorem impl_direct.eq (s_1 : List (List Int)) (s_2 : Int) (s_3 : List Int) (s_4 : List (Int × Int × Int × List Int)) (simplex_5 : Int) (place_6 : Int) : impl_direct.F ((s_1, (s_2, (s_3, s_4))), simplex_5, place_6, ()) = impl_direct.T s_1 s_2 s_3 s_4 simplex_5 place_6 := (congrArg anyK (funext fun k => impl_direct.run k s_1 s_2 s_3 s_4 simplex_5 place_6)).trans (anyK_const _)
theorem impl_direct.ok : CtxOK Go.Proofs.Tryz.prog impl_direct.ctx := ⟨List.forall_mem_nil _, mixed_ok, tab_ok tab_good, List.forall_mem_cons.2 ⟨impl_firstMap.S, List.forall_mem_nil _⟩, List.forall_mem_nil _, List.forall_mem_nil _⟩
theorem impl_direct.S : Sound Go.Proofs.Tryz.prog ⟨190, impl_direct.sig, impl_direct.F⟩ := sound_any (fn := Go.Proofs.Tryz.f190) (code := impl_direct.code) (g := impl_direct.cfg) (res := [.cell 6 65]) Go.Proofs.Tryz.func190 (by kernel_rfl) (by kernel_rfl) impl_direct.ok (by kernel_rfl) (by kernel_rfl) (Nat.le_of_ble_eq_true (by kernel_rfl)) (by kernel_rfl)
/-! ### impl_wrongSquare -/
noncomputable def impl_wrongSquare.sig : Sig := ⟨[.val true TSheaf], [(.val false, (.int .i64), .deep), (.val false, (.int .i64), .deep), (.val false, .bool, .deep)]⟩
noncomputable def impl_wrongSquare.ctx : Ctx := ⟨tabOf tabl, [⟨101, impl_product.sig, impl_product.F⟩, ⟨142, impl_SameMatrix.sig, impl_SameMatrix.F⟩, ⟨184, impl_faceIndices.sig, impl_faceIndices.F⟩, ⟨190, impl_direct.sig, impl_direct.F⟩], [], [], [], []⟩
noncomputable def impl_wrongSquare.cfg : Cfg := ⟨impl_wrongSquare.ctx, [], [], fun id => match id with | 2 => ([1, 15, 16, 17], [4]) | 8 => ([1, 6, 7, 8, 15, 16, 17, 31, 32], [4, 32]) | 11 => ([1, 6, 7, 8, 9, 10, 15, 16, 17, 31, 32], [4, 32]) | _ => ([], []), fun _ => []⟩
noncomputable def impl_wrongSquare.code : Code := (Go.Proofs.Tryz.f130).body.getD .skip
noncomputable def impl_wrongSquare.fin := finK impl_wrongSquare.ctx impl_wrongSquare.sig [.tmp 2, .tmp 3, .tmp 4]
noncomputable def impl_wrongSquare.F (d : (List (List Int) × Int × List Int × List (Int × Int × Int × List Int)) × Unit) : Option ((Int × Int × Bool × Unit) × (Unit)) := anyK (runFn impl_wrongSquare.cfg impl_wrongSquare.fin impl_wrongSquare.code (initSt impl_wrongSquare.sig.ps d 86))
noncomputable def impl_wrongSquare.l2 (k : Nat) (x5 : List (List Int)) (i6 : Int) (i7 : Int) (x8 : List (List Int)) (i9 : Int) (x10 : List Int) (x11 : List (Int × Int × Int × List Int)) : Option ((Int × Int × Bool × Unit) × (Unit)) :=
  Go.Vm.runT impl_wrongSquare.cfg impl_wrongSquare.fin k [.inLoop (sub [1, 0, 1, 0, 0] impl_wrongSquare.code), .inBlock 0, .code (sub [1, 1] impl_wrongSquare.code)]
    ⟨[.dead, .ref 4 (.root 0), .dead, .dead, .dead, .dead, .dead, .dead, .dead, .dead, .dead, .dead, .dead, .dead, .dead, .val false [⟨(.sl (.sl (.int .i64))), .sh, x5⟩], .val false [⟨(.int .i64), .sh, i6⟩], .val false [⟨(.int .i64), .sh, i7⟩]] ++ deads 68, [(4, ⟨true, [⟨(.sl (.sl (.int .i64))), .sh, x8⟩, ⟨(.int .i64), .sh, i9⟩, ⟨(.sl (.int .i64)), .sh, x10⟩, ⟨(.sl TMatrix), .sh, x11⟩]⟩)]⟩
noncomputable def impl_wrongSquare.l8 (k : Nat) (x13 : List Int) (i14 : Int) (x15 : List (List Int)) (i16 : Int) (i17 : Int) (i18 : Int) (i19 : Int) (x20 : List (List Int)) (i21 : Int) (x22 : List Int) (x23 : List (Int × Int × Int × List Int)) (x24 : List Int) : Option ((Int × Int × Bool × Unit) × (Unit)) :=
  Go.Vm.runT impl_wrongSquare.cfg impl_wrongSquare.fin k [.inLoop (sub [1, 0, 1, 0, 0, 1, 1, 0, 0, 1, 1, 1, 1, 1, 0, 0] impl_wrongSquare.code), .inBlock 2, .inBlock 1, .code (sub [1, 0, 1, 0, 0, 1, 1, 1] impl_wrongSquare.code), .inLoop (sub [1, 0, 1, 0, 0] impl_wrongSquare.code), .inBlock 0, .code (sub [1, 1] impl_wrongSquare.code)]
    ⟨[.dead, .ref 4 (.root 0), .dead, .dead, .dead, .dead, .val false [⟨(.sl (.int .i64)), .sh, x13⟩], .val false [⟨(.int .i64), .sh, i14⟩], .view 32 (.root 0) 1 false, .dead, .dead, .dead, .dead, .dead, .dead, .val false [⟨(.sl (.sl (.int .i64))), .sh, x15⟩], .val false [⟨(.int .i64), .sh, i16⟩], .val false [⟨(.int .i64), .sh, i17⟩], .dead, .dead, .dead, .dead, .dead, .dead, .dead, .dead, .dead, .dead, .dead, .dead, .dead, .val false [⟨(.int .i64), .sh, i18⟩], .val false [⟨(.int .i64), .sh, i19⟩]] ++ deads 53, [(4, ⟨true, [⟨(.sl (.sl (.int .i64))), .sh, x20⟩, ⟨(.int .i64), .sh, i21⟩, ⟨(.sl (.int .i64)), .sh, x22⟩, ⟨(.sl TMatrix), .sh, x23⟩]⟩), (32, ⟨false, [⟨(.sl (.int .i64)), .deep, x24⟩]⟩)]⟩
noncomputable def impl_wrongSquare.l11 (k : Nat) (x25 : List Int) (i26 : Int) (i27 : Int) (i28 : Int) (x29 : List (List Int)) (i30 : Int) (i31 : Int) (i32 : Int) (i33 : Int) (x34 : List (List Int)) (i35 : Int) (x36 : List Int) (x37 : List (Int × Int × Int × List Int)) (x38 : List Int) : Option ((Int × Int × Bool × Unit) × (Unit)) :=
  Go.Vm.runT impl_wrongSquare.cfg impl_wrongSquare.fin k [.inLoop (sub [1, 0, 1, 0, 0, 1, 1, 0, 0, 1, 1, 1, 1, 1, 0, 0, 1, 1, 0, 0, 1, 1, 0, 0] impl_wrongSquare.code), .inBlock 4, .inBlock 3, .code (sub [1, 0, 1, 0, 0, 1, 1, 0, 0, 1, 1, 1, 1, 1, 0, 0, 1, 1, 1] impl_wrongSquare.code), .inLoop (sub [1, 0, 1, 0, 0, 1, 1, 0, 0, 1, 1, 1, 1, 1, 0, 0] impl_wrongSquare.code), .inBlock 2, .inBlock 1, .code (sub [1, 0, 1, 0, 0, 1, 1, 1] impl_wrongSquare.code), .inLoop (sub [1, 0, 1, 0, 0] impl_wrongSquare.code), .inBlock 0, .code (sub [1, 1] impl_wrongSquare.code)]
    ⟨[.dead, .ref 4 (.root 0), .dead, .dead, .dead, .dead, .val false [⟨(.sl (.int .i64)), .sh, x25⟩], .val false [⟨(.int .i64), .sh, i26⟩], .view 32 (.root 0) 1 false, .val false [⟨(.int .i64), .sh, i27⟩], .val false [⟨(.int .i64), .sh, i28⟩], .dead, .dead, .dead, .dead, .val false [⟨(.sl (.sl (.int .i64))), .sh, x29⟩], .val false [⟨(.int .i64), .sh, i30⟩], .val false [⟨(.int .i64), .sh, i31⟩], .dead, .dead, .dead, .dead, .dead, .dead, .dead, .dead, .dead, .dead, .dead, .dead, .dead, .val false [⟨(.int .i64), .sh, i32⟩], .val false [⟨(.int .i64), .sh, i33⟩]] ++ deads 53, [(4, ⟨true, [⟨(.sl (.sl (.int .i64))), .sh, x34⟩, ⟨(.int .i64), .sh, i35⟩, ⟨(.sl (.int .i64)), .sh, x36⟩, ⟨(.sl TMatrix), .sh, x37⟩]⟩), (32, ⟨false, [⟨(.sl (.int .i64)), .deep, x38⟩]⟩)]⟩
theorem impl_wrongSquare.l2_eq (k : Nat) (x5 : List (List Int)) (i6 : Int) (i7 : Int) (x8 : List (List Int)) (i9 : Int) (x10 : List Int) (x11 : List (Int × Int × Int × List Int)) : impl_wrongSquare.l2 (k + 1) x5 i6 i7 x8 i9 x10 x11 =
  if (decide (i7 < i6)) = true then
    if 0 ≤ i7 ∧ i7 < (x5.length : Int) then
      if (decide (((x5.getD i7.toNat ([] : List Int)).length : Int) < (3 : Int))) = true then
        impl_wrongSquare.l2 k x5 i6 (IntKind.i64.wrap (i7 + (1 : Int))) x8 i9 x10 x11
      else
        (impl_faceIndices.F (x8, i7, ())).bind fun r12 =>
          impl_wrongSquare.l8 k (x5.getD i7.toNat ([] : List Int)) i7 x5 i6 i7 ((x5.getD i7.toNat ([] : List Int)).length : Int) (0 : Int) x8 i9 x10 x11 r12.1.1
    else
      none
  else
    some (((0 : Int), ((0 : Int), (false, ()))), ()) := by kernel_rfl
theorem impl_wrongSquare.l8_eq (k : Nat) (x13 : List Int) (i14 : Int) (x15 : List (List Int)) (i16 : Int) (i17 : Int) (i18 : Int) (i19 : Int) (x20 : List (List Int)) (i21 : Int) (x22 : List Int) (x23 : List (Int × Int × Int × List Int)) (x24 : List Int) : impl_wrongSquare.l8 (k + 1) x13 i14 x15 i16 i17 i18 i19 x20 i21 x22 x23 x24 =
  if (decide (i19 < i18)) = true then
    impl_wrongSquare.l11 k x13 i14 i19 (IntKind.i64.wrap (i19 + (1 : Int))) x15 i16 i17 i18 i19 x20 i21 x22 x23 x24
  else
    impl_wrongSquare.l2 k x15 i16 (IntKind.i64.wrap (i17 + (1 : Int))) x20 i21 x22 x23 := by kernel_rfl
theorem impl_wrongSquare.l11_eq (k : Nat) (x25 : List Int) (i26 : Int) (i27 : Int) (i28 : Int) (x29 : List (List Int)) (i30 : Int) (i31 : Int) (i32 : Int) (i33 : Int) (x34 : List (List Int)) (i35 : Int) (x36 : List Int) (x37 : List (Int × Int × Int × List Int)) (x38 : List Int) : impl_wrongSquare.l11 (k + 1) x25 i26 i27 i28 x29 i30 i31 i32 i33 x34 i35 x36 x37 x38 =
  if (decide (i28 < (x25.length : Int))) = true then
    (impl_direct.F ((x34, (i35, (x36, x37))), i26, i27, ())).bind fun r39 =>
      if 0 ≤ i27 ∧ i27 < (x38.length : Int) then
        (impl_direct.F ((x34, (i35, (x36, x37))), (x38.getD i27.toNat 0 : Int), IntKind.i64.wrap (i28 - (1 : Int)), ())).bind fun r40 =>
          (impl_product.F (r39.1.1, r40.1.1, ())).bind fun r41 =>
            (impl_direct.F ((x34, (i35, (x36, x37))), i26, i28, ())).bind fun r42 =>
              if 0 ≤ i28 ∧ i28 < (x38.length : Int) then
                (impl_direct.F ((x34, (i35, (x36, x37))), (x38.getD i28.toNat 0 : Int), i27, ())).bind fun r43 =>
                  (impl_product.F (r42.1.1, r43.1.1, ())).bind fun r44 =>
                    (impl_SameMatrix.F (r41.1.1, r44.1.1, ())).bind fun r45 =>
                      if (!(r45.1.1 : Bool)) = true then
                        if 0 ≤ i27 ∧ i27 < (x38.length : Int) then
                          (impl_faceIndices.F (x34, (x38.getD i27.toNat 0 : Int), ())).bind fun r46 =>
                            if 0 ≤ (IntKind.i64.wrap (i28 - (1 : Int))) ∧ (IntKind.i64.wrap (i28 - (1 : Int))) < (r46.1.1.length : Int) then
                              some ((i26, (r46.1.1.getD (IntKind.i64.wrap (i28 - (1 : Int))).toNat 0, (true, ()))), ())
                            else
                              none
                        else
                          none
                      else
                        impl_wrongSquare.l11 k x25 i26 i27 (IntKind.i64.wrap (i28 + (1 : Int))) x29 i30 i31 i32 i33 x34 i35 x36 x37 x38
              else
                none
      else
        none
  else
    impl_wrongSquare.l8 k x25 i26 x29 i30 i31 i32 (IntKind.i64.wrap (i33 + (1 : Int))) x34 i35 x36 x37 x38 := by kernel_rfl
noncomputable def impl_wrongSquare.T (k : Nat) (toArray_1 : List (List Int)) (toArray_2 : Int) (toArray_3 : List Int) (toArray_4 : List (Int × Int × Int × List Int)) : Option ((Int × Int × Bool × Unit) × (Unit)) :=
  impl_wrongSquare.l2 k toArray_1 (toArray_1.length : Int) (0 : Int) toArray_1 toArray_2 toArray_3 toArray_4
theorem impl_wrongSquare.run (k : Nat) (toArray_1 : List (List Int)) (toArray_2 : Int) (toArray_3 : List Int) (toArray_4 : List (Int × Int × Int × List Int)) : runFn impl_wrongSquare.cfg impl_wrongSquare.fin impl_wrongSquare.code (initSt impl_wrongSquare.sig.ps ((toArray_1, (toArray_2, (toArray_3, toArray_4))), ()) 86) k = impl_wrongSquare.T k toArray_1 toArray_2 toArray_3 toArray_4 := by kernel_rfl
theorem impl_wrongSquare.of (toArray_1 : List (List Int)) (toArray_2 : Int) (toArray_3 : List Int) (toArray_4 : List (Int × Int × Int × List Int)) {r : (Int × Int × Bool × Unit) × (Unit)} (h : Ev (fun k => impl_wrongSquare.T k toArray_1 toArray_2 toArray_3 toArray_4) r) : impl_wrongSquare.F ((toArray_1, (toArray_2, (toArray_3, toArray_4))), ()) = some r := Ev.run (fun k => impl_wrongSquare.run k toArray_1 toArray_2 toArray_3 toArray_4) h
theorem impl_wrongSquare.ok : CtxOK Go.Proofs.Tryz.prog impl_wrongSquare.ctx := ⟨List.forall_mem_nil _, mixed_ok, tab_ok tab_good, List.forall_mem_cons.2 ⟨impl_product.S, List.forall_mem_cons.2 ⟨impl_SameMatrix.S, List.forall_mem_cons.2 ⟨impl_faceIndices.S, List.forall_mem_cons.2 ⟨impl_direct.S, List.forall_mem_nil _⟩⟩⟩⟩, List.forall_mem_nil _, List.forall_mem_nil _⟩
theorem impl_wrongSquare.S : Sound Go.Proofs.Tryz.prog ⟨130, impl_wrongSquare.sig, impl_wrongSquare.F⟩ := sound_any (fn := Go.Proofs.Tryz.f130) (code := impl_wrongSquare.code) (g := impl_wrongSquare.cfg) (res := [.tmp 2, .tmp 3, .tmp 4]) Go.Proofs.Tryz.func130 (by kernel_rfl) (by kernel_rfl) impl_wrongSquare.ok (by kernel_rfl) (by kernel_rfl) (Nat.le_of_ble_eq_true (by kernel_rfl)) (by kernel_rfl)
/-! ### impl_IsSheaf -/
noncomputable def impl_IsSheaf.sig : Sig := ⟨[.val true TSheaf], [(.val false, .bool, .deep)]⟩
noncomputable def impl_IsSheaf.ctx : Ctx := ⟨tabOf tabl, [⟨129, impl_ValidSheaf.sig, impl_ValidSheaf.F⟩, ⟨130, impl_wrongSquare.sig, impl_wrongSquare.F⟩], [], [], [], []⟩
noncomputable def impl_IsSheaf.cfg : Cfg := ⟨impl_IsSheaf.ctx, [], [], fun _ => ([], []), fun _ => []⟩
noncomputable def impl_IsSheaf.code : Code := (Go.Proofs.Tryz.f63).body.getD .skip
noncomputable def impl_IsSheaf.fin := finK impl_IsSheaf.ctx impl_IsSheaf.sig [.tmp 2]
noncomputable def impl_IsSheaf.F (d : (List (List Int) × Int × List Int × List (Int × Int × Int × List Int)) × Unit) : Option ((Bool × Unit) × (Unit)) := anyK (runFn impl_IsSheaf.cfg impl_IsSheaf.fin impl_IsSheaf.code (initSt impl_IsSheaf.sig.ps d 17))
noncomputable def impl_IsSheaf.T (s_1 : List (List Int)) (s_2 : Int) (s_3 : List Int) (s_4 : List (Int × Int × Int × List Int)) : Option ((Bool × Unit) × (Unit)) :=
  (impl_ValidSheaf.F ((s_1, (s_2, (s_3, s_4))), ())).bind fun r5 =>
    if (!(r5.1.1 : Bool)) = true then
      some ((false, ()), ())
    else
      (impl_wrongSquare.F ((s_1, (s_2, (s_3, s_4))), ())).bind fun r6 =>
        some ((!(r6.1.2.2.1 : Bool), ()), ())
theorem impl_IsSheaf.run (k : Nat) (s_1 : List (List Int)) (s_2 : Int) (s_3 : List Int) (s_4 : List (Int × Int × Int × List Int)) : runFn impl_IsSheaf.cfg impl_IsSheaf.fin impl_IsSheaf.code (initSt impl_IsSheaf.sig.ps ((s_1, (s_2, (s_3, s_4))), ()) 17) k = impl_IsSheaf.T s_1 s_2 s_3 s_4 := by kernel_rfl
theorem impl_IsSheaf.eq (s_1 : List (List Int)) (s_2 : Int) (s_3 : List Int) (s_4 : List (Int × Int × Int × List Int)) : impl_IsSheaf.F ((s_1, (s_2, (s_3, s_4))), ()) = impl_IsSheaf.T s_1 s_2 s_3 s_4 := (congrArg anyK (funext fun k => impl_IsSheaf.run k s_1 s_2 s_3 s_4)).trans (anyK_const _)
theorem impl_IsSheaf.ok : CtxOK Go.Proofs.Tryz.prog impl_IsSheaf.ctx := ⟨List.forall_mem_nil _, mixed_ok, tab_ok tab_good, List.forall_mem_cons.2 ⟨impl_ValidSheaf.S, List.forall_mem_cons.2 ⟨impl_wrongSquare.S, List.forall_mem_nil _⟩⟩, List.forall_mem_nil _, List.forall_mem_nil _⟩
theorem impl_IsSheaf.S : Sound Go.Proofs.Tryz.prog ⟨63, impl_IsSheaf.sig, impl_IsSheaf.F⟩ := sound_any (fn := Go.Proofs.Tryz.f63) (code := impl_IsSheaf.code) (g := impl_IsSheaf.cfg) (res := [.tmp 2]) Go.Proofs.Tryz.func63 (by kernel_rfl) (by kernel_rfl) impl_IsSheaf.ok (by kernel_rfl) (by kernel_rfl) (Nat.le_of_ble_eq_true (by kernel_rfl)) (by kernel_rfl)
/-! ### impl_isDimension -/
noncomputable def impl_isDimension.sig : Sig := ⟨[.val false (.int .i64)], [(.val false, .bool, .deep)]⟩
noncomputable def impl_isDimension.ctx : Ctx := ⟨tabOf tabl, [⟨160, impl_within.sig, impl_within.F⟩], [], [], [], []⟩
noncomputable def impl_isDimension.cfg : Cfg := ⟨impl_isDimension.ctx, [], [], fun _ => ([], []), fun _ => []⟩
noncomputable def impl_isDimension.code : Code := (Go.Proofs.Tryz.f85).body.getD .skip
noncomputable def impl_isDimension.fin := finK impl_isDimension.ctx impl_isDimension.sig [.tmp 2]
noncomputable def impl_isDimension.F (d : Int × Unit) : Option ((Bool × Unit) × (Unit)) := anyK (runFn impl_isDimension.cfg impl_isDimension.fin impl_isDimension.code (initSt impl_isDimension.sig.ps d 5))
noncomputable def impl_isDimension.T (k_1 : Int) : Option ((Bool × Unit) × (Unit)) :=
  (impl_within.F (k_1, (0 : Int), (3 : Int), ())).bind fun r2 =>
    some (((r2.1.1 : Bool), ()), ())
theorem impl_isDimension.run (k : Nat) (k_1 : Int) : runFn impl_isDimension.cfg impl_isDimension.fin impl_isDimension.code (initSt impl_isDimension.sig.ps (k_1, ()) 5) k = impl_isDimension.T k_1 := by kernel_rfl
theorem impl_isDimension.eq (k_1 : Int) : impl_isDimension.F (k_1, ()) = impl_isDimension.T k_1 := (congrArg anyK (funext fun k => impl_isDimension.run k k_1)).trans (anyK_const _)
theorem impl_isDimension.ok : CtxOK Go.Proofs.Tryz.prog impl_isDimension.ctx := ⟨List.forall_mem_nil _, mixed_ok, tab_ok tab_good, List.forall_mem_cons.2 ⟨impl_within.S, List.forall_mem_nil _⟩, List.forall_mem_nil _, List.forall_mem_nil _⟩
theorem impl_isDimension.S : Sound Go.Proofs.Tryz.prog ⟨85, impl_isDimension.sig, impl_isDimension.F⟩ := sound_any (fn := Go.Proofs.Tryz.f85) (code := impl_isDimension.code) (g := impl_isDimension.cfg) (res := [.tmp 2]) Go.Proofs.Tryz.func85 (by kernel_rfl) (by kernel_rfl) impl_isDimension.ok (by kernel_rfl) (by kernel_rfl) (Nat.le_of_ble_eq_true (by kernel_rfl)) (by kernel_rfl)
/-! ### impl_isVector -/
noncomputable def impl_isVector.sig : Sig := ⟨[.val false (.sl (.int .i64)), .val false (.int .i64), .val false (.int .i64)], [(.val false, .bool, .deep)]⟩
noncomputable def impl_isVector.ctx : Ctx := ⟨tabOf tabl, [⟨161, impl_size_int64.sig, impl_size_int64.F⟩, ⟨162, impl_areElements.sig, impl_areElements.F⟩], [], [], [], []⟩
noncomputable def impl_isVector.cfg : Cfg := ⟨impl_isVector.ctx, [], [], fun _ => ([], []), fun _ => []⟩
noncomputable def impl_isVector.code : Code := (Go.Proofs.Tryz.f86).body.getD .skip
noncomputable def impl_isVector.fin := finK impl_isVector.ctx impl_isVector.sig [.tmp 6]
noncomputable def impl_isVector.F (d : List Int × Int × Int × Unit) : Option ((Bool × Unit) × (Unit)) := anyK (runFn impl_isVector.cfg impl_isVector.fin impl_isVector.code (initSt impl_isVector.sig.ps d 16))
noncomputable def impl_isVector.T (x_1 : List Int) (length_2 : Int) (p_3 : Int) : Option ((Bool × Unit) × (Unit)) :=
  (impl_size_int64.F (x_1, ())).bind fun r4 =>
    if ((r4.1.1 : Int) == length_2) = true then
      (impl_areElements.F (x_1, p_3, ())).bind fun r5 =>
        some (((r5.1.1 : Bool), ()), ())
    else
      some ((false, ()), ())
theorem impl_isVector.run (k : Nat) (x_1 : List Int) (length_2 : Int) (p_3 : Int) : runFn impl_isVector.cfg impl_isVector.fin impl_isVector.code (initSt impl_isVector.sig.ps (x_1, length_2, p_3, ()) 16) k = impl_isVector.T x_1 length_2 p_3 := by kernel_rfl
theorem impl_isVector.eq (x_1 : List Int) (length_2 : Int) (p_3 : Int) : impl_isVector.F (x_1, length_2, p_3, ()) = impl_isVector.T x_1 length_2 p_3 := (congrArg anyK (funext fun k => impl_isVector.run k x_1 length_2 p_3)).trans (anyK_const _)
theorem impl_isVector.ok : CtxOK Go.Proofs.Tryz.prog impl_isVector.ctx := ⟨List.forall_mem_nil _, mixed_ok, tab_ok tab_good, List.forall_mem_cons.2 ⟨impl_size_int64.S, List.forall_mem_cons.2 ⟨impl_areElements.S, List.forall_mem_nil _⟩⟩, List.forall_mem_nil _, List.forall_mem_nil _⟩
theorem impl_isVector.S : Sound Go.Proofs.Tryz.prog ⟨86, impl_isVector.sig, impl_isVector.F⟩ := sound_any (fn := Go.Proofs.Tryz.f86) (code := impl_isVector.code) (g := impl_isVector.cfg) (res := [.tmp 6]) Go.Proofs.Tryz.func86 (by kernel_rfl) (by kernel_rfl) impl_isVector.ok (by kernel_rfl) (by kernel_rfl) (Nat.le_of_ble_eq_true (by kernel_rfl)) (by kernel_rfl)
/-! ### impl_isPart_1 -/
noncomputable def impl_isPart_1.sig : Sig := ⟨[.val false (.sl (.int .i64)), .rptr (.sl (.sl (.int .i64)))], [(.val false, .bool, .deep)]⟩
noncomputable def impl_isPart_1.ctx : Ctx := ⟨tabOf tabl, [⟨159, impl_indexOf.sig, impl_indexOf.F⟩], [], [], [], []⟩
noncomputable def impl_isPart_1.cfg : Cfg := ⟨impl_isPart_1.ctx, [], [], fun _ => ([], []), fun _ => []⟩
noncomputable def impl_isPart_1.code : Code := (Go.Proofs.Tryz.f164).body.getD .skip
noncomputable def impl_isPart_1.fin := finK impl_isPart_1.ctx impl_isPart_1.sig [.tmp 3]
noncomputable def impl_isPart_1.F (d : List Int × List (List Int) × Unit) : Option ((Bool × Unit) × (Unit)) := anyK (runFn impl_isPart_1.cfg impl_isPart_1.fin impl_isPart_1.code (initSt impl_isPart_1.sig.ps d 8))
noncomputable def impl_isPart_1.T (s_1 : List Int) (a_2 : List (List Int)) : Option ((Bool × Unit) × (Unit)) :=
  (impl_indexOf.F (a_2, s_1, ())).bind fun r3 =>
    some ((decide ((r3.1.1 : Int) < (0 : Int)), ()), ())
theorem impl_isPart_1.run (k : Nat) (s_1 : List Int) (a_2 : List (List Int)) : runFn impl_isPart_1.cfg impl_isPart_1.fin impl_isPart_1.code (initSt impl_isPart_1.sig.ps (s_1, a_2, ()) 8) k = impl_isPart_1.T s_1 a_2 := by kernel_rfl
theorem impl_isPart_1.eq (s_1 : List Int) (a_2 : List (List Int)) : impl_isPart_1.F (s_1, a_2, ()) = impl_isPart_1.T s_1 a_2 := (congrArg anyK (funext fun k => impl_isPart_1.run k s_1 a_2)).trans (anyK_const _)
theorem impl_isPart_1.ok : CtxOK Go.Proofs.Tryz.prog impl_isPart_1.ctx := ⟨List.forall_mem_nil _, mixed_ok, tab_ok tab_good, List.forall_mem_cons.2 ⟨impl_indexOf.S, List.forall_mem_nil _⟩, List.forall_mem_nil _, List.forall_mem_nil _⟩
theorem impl_isPart_1.S : Sound Go.Proofs.Tryz.prog ⟨164, impl_isPart_1.sig, impl_isPart_1.F⟩ := sound_any (fn := Go.Proofs.Tryz.f164) (code := impl_isPart_1.code) (g := impl_isPart_1.cfg) (res := [.tmp 3]) Go.Proofs.Tryz.func164 (by kernel_rfl) (by kernel_rfl) impl_isPart_1.ok (by kernel_rfl) (by kernel_rfl) (Nat.le_of_ble_eq_true (by kernel_rfl)) (by kernel_rfl)
noncomputable def impl_isPart_1.cloG (y : List (List Int) × Unit) (d : List Int × Unit) : Option (Bool × Unit) := (impl_isPart_1.F (joinIns [.rptr (.sl (.sl (.int .i64)))] [(false, (.sl (.int .i64)))] d y)).map (·.1)
noncomputable def impl_isPart_1.clo : Clo := ⟨164, ⟨[(false, (.sl (.int .i64)))], [(.val false, .bool, .deep)]⟩, [.rptr (.sl (.sl (.int .i64)))], impl_isPart_1.cloG⟩
theorem impl_isPart_1.cloS : SoundClo Go.Proofs.Tryz.prog impl_isPart_1.clo := sound_clo (s := ⟨[(false, (.sl (.int .i64)))], [(.val false, .bool, .deep)]⟩) (caps := [.rptr (.sl (.sl (.int .i64)))]) rfl impl_isPart_1.S
/-! ### impl_isPart -/
noncomputable def impl_isPart.sig : Sig := ⟨[.val true (.sl (.sl (.int .i64))), .val true (.sl (.sl (.int .i64)))], [(.val false, .bool, .deep)]⟩
noncomputable def impl_isPart.ctx : Ctx := ⟨tabOf tabl, [⟨156, slices_ContainsFunc_LLint64_Lint64.sig, slices_ContainsFunc_LLint64_Lint64.F⟩], [impl_isPart_1.clo], [], [], []⟩
noncomputable def impl_isPart.cfg : Cfg := ⟨impl_isPart.ctx, [], [], fun _ => ([], []), fun _ => []⟩
noncomputable def impl_isPart.code : Code := (Go.Proofs.Tryz.f88).body.getD .skip
noncomputable def impl_isPart.fin := finK impl_isPart.ctx impl_isPart.sig [.tmp 4]
noncomputable def impl_isPart.F (d : List (List Int) × List (List Int) × Unit) : Option ((Bool × Unit) × (Unit)) := anyK (runFn impl_isPart.cfg impl_isPart.fin impl_isPart.code (initSt impl_isPart.sig.ps d 10))
noncomputable def impl_isPart.T (part_1 : List (List Int)) (c_2 : List (List Int)) : Option ((Bool × Unit) × (Unit)) :=
  (slices_ContainsFunc_LLint64_Lint64.F (part_1, impl_isPart_1.cloG (c_2, ()), ())).bind fun r3 =>
    some ((!(r3.1.1 : Bool), ()), ())
theorem impl_isPart.run (k : Nat) (part_1 : List (List Int)) (c_2 : List (List Int)) : runFn impl_isPart.cfg impl_isPart.fin impl_isPart.code (initSt impl_isPart.sig.ps (part_1, c_2, ()) 10) k = impl_isPart.T part_1 c_2 := by kernel_rfl
theorem impl_isPart.eq (part_1 : List (List Int)) (c_2 : List (List Int)) : impl_isPart.F (part_1, c_2, ()) = impl_isPart.T part_1 c_2 := (congrArg anyK (funext fun k => impl_isPart.run k part_1 c_2)).trans (anyK_const _)
theorem impl_isPart.ok : CtxOK Go.Proofs.Tryz.prog impl_isPart.ctx := ⟨List.forall_mem_nil _, mixed_ok, tab_ok tab_good, List.forall_mem_cons.2 ⟨slices_ContainsFunc_LLint64_Lint64.S, List.forall_mem_nil _⟩, List.forall_mem_cons.2 ⟨impl_isPart_1.cloS, List.forall_mem_nil _⟩, List.forall_mem_nil _⟩
theorem impl_isPart.S : Sound Go.Proofs.Tryz.prog ⟨88, impl_isPart.sig, impl_isPart.F⟩ := sound_any (fn := Go.Proofs.Tryz.f88) (code := impl_isPart.code) (g := impl_isPart.cfg) (res := [.tmp 4]) Go.Proofs.Tryz.func88 (by kernel_rfl) (by kernel_rfl) impl_isPart.ok (by kernel_rfl) (by kernel_rfl) (Nat.le_of_ble_eq_true (by kernel_rfl)) (by kernel_rfl)
/-! ### impl_firstColumn -/
noncomputable def impl_firstColumn.sig : Sig := ⟨[.val true TSheaf, .val false (.int .i64)], [(.val false, (.int .i64), .deep)]⟩
noncomputable def impl_firstColumn.ctx : Ctx := ⟨tabOf tabl, [⟨161, impl_size_int64.sig, impl_size_int64.F⟩, ⟨163, impl_simplicesOf.sig, impl_simplicesOf.F⟩], [], [], [], []⟩
noncomputable def impl_firstColumn.cfg : Cfg := ⟨impl_firstColumn.ctx, [], [], fun id => match id with | 3 => ([1, 2, 5, 18, 19, 20], [8, 72]) | _ => ([], []), fun _ => []⟩
noncomputable def impl_firstColumn.code : Code := (Go.Proofs.Tryz.f191).body.getD .skip
noncomputable def impl_firstColumn.fin := finK impl_firstColumn.ctx impl_firstColumn.sig [.tmp 4]
noncomputable def impl_firstColumn.F (d : (List (List Int) × Int × List Int × List (Int × Int × Int × List Int)) × Int × Unit) : Option ((Int × Unit) × (Unit)) := anyK (runFn impl_firstColumn.cfg impl_firstColumn.fin impl_firstColumn.code (initSt impl_firstColumn.sig.ps d 36))
noncomputable def impl_firstColumn.l3 (k : Nat) (i8 : Int) (i9 : Int) (i10 : Int) (i11 : Int) (x12 : List (List Int)) (i13 : Int) (x14 : List Int) (x15 : List (Int × Int × Int × List Int)) (x16 : List Int) : Option ((Int × Unit) × (Unit)) :=
  Go.Vm.runT impl_firstColumn.cfg impl_firstColumn.fin k [.inLoop (sub [1, 1, 0, 1, 0, 0] impl_firstColumn.code), .inBlock 0, .code (sub [1, 1, 1] impl_firstColumn.code)]
    ⟨[.dead, .val false [⟨(.int .i64), .sh, i8⟩], .ref 8 (.root 0), .dead, .dead, .val false [⟨(.int .i64), .sh, i9⟩], .dead, .dead, .dead, .dead, .dead, .dead, .dead, .dead, .dead, .dead, .dead, .dead, .view 72 (.root 0) 1 false, .val false [⟨(.int .i64), .sh, i10⟩], .val false [⟨(.int .i64), .sh, i11⟩]] ++ deads 15, [(8, ⟨true, [⟨(.sl (.sl (.int .i64))), .sh, x12⟩, ⟨(.int .i64), .sh, i13⟩, ⟨(.sl (.int .i64)), .sh, x14⟩, ⟨(.sl TMatrix), .sh, x15⟩]⟩), (72, ⟨false, [⟨(.sl (.int .i64)), .deep, x16⟩]⟩)]⟩
theorem impl_firstColumn.l3_eq (k : Nat) (i8 : Int) (i9 : Int) (i10 : Int) (i11 : Int) (x12 : List (List Int)) (i13 : Int) (x14 : List Int) (x15 : List (Int × Int × Int × List Int)) (x16 : List Int) : impl_firstColumn.l3 (k + 1) i8 i9 i10 i11 x12 i13 x14 x15 x16 =
  if (decide (i11 < i10)) = true then
    if 0 ≤ i11 ∧ i11 < (x16.length : Int) then
      if ((x16.getD i11.toNat 0 : Int) == i8) = true then
        some ((i9, ()), ())
      else
        if 0 ≤ (x16.getD i11.toNat 0 : Int) ∧ (x16.getD i11.toNat 0 : Int) < (x14.length : Int) then
          impl_firstColumn.l3 k i8 (IntKind.i64.wrap (i9 + (x14.getD (x16.getD i11.toNat 0 : Int).toNat 0))) i10 (IntKind.i64.wrap (i11 + (1 : Int))) x12 i13 x14 x15 x16
        else
          none
    else
      none
  else
    some ((i9, ()), ()) := by kernel_rfl
noncomputable def impl_firstColumn.T (k : Nat) (s_1 : List (List Int)) (s_2 : Int) (s_3 : List Int) (s_4 : List (Int × Int × Int × List Int)) (simplex_5 : Int) : Option ((Int × Unit) × (Unit)) :=
  if 0 ≤ simplex_5 ∧ simplex_5 < (s_1.length : Int) then
    (impl_size_int64.F (s_1.getD simplex_5.toNat ([] : List Int), ())).bind fun r6 =>
      (impl_simplicesOf.F (s_1, IntKind.i64.wrap ((r6.1.1 : Int) - (1 : Int)), ())).bind fun r7 =>
        impl_firstColumn.l3 k simplex_5 (0 : Int) (r7.1.1.length : Int) (0 : Int) s_1 s_2 s_3 s_4 r7.1.1
  else
    none
theorem impl_firstColumn.run (k : Nat) (s_1 : List (List Int)) (s_2 : Int) (s_3 : List Int) (s_4 : List (Int × Int × Int × List Int)) (simplex_5 : Int) : runFn impl_firstColumn.cfg impl_firstColumn.fin impl_firstColumn.code (initSt impl_firstColumn.sig.ps ((s_1, (s_2, (s_3, s_4))), simplex_5, ()) 36) k = impl_firstColumn.T k s_1 s_2 s_3 s_4 simplex_5 := by kernel_rfl
theorem impl_firstColumn.of (s_1 : List (List Int)) (s_2 : Int) (s_3 : List Int) (s_4 : List (Int × Int × Int × List Int)) (simplex_5 : Int) {r : (Int × Unit) × (Unit)} (h : Ev (fun k => impl_firstColumn.T k s_1 s_2 s_3 s_4 simplex_5) r) : impl_firstColumn.F ((s_1, (s_2, (s_3, s_4))), simplex_5, ()) = some r := Ev.run (fun k => impl_firstColumn.run k s_1 s_2 s_3 s_4 simplex_5) h
theorem impl_firstColumn.ok : CtxOK Go.Proofs.Tryz.prog impl_firstColumn.ctx := ⟨List.forall_mem_nil _, mixed_ok, tab_ok tab_good, List.forall_mem_cons.2 ⟨impl_size_int64.S, List.forall_mem_cons.2 ⟨impl_simplicesOf.S, List.forall_mem_nil _⟩⟩, List.forall_mem_nil _, List.forall_mem_nil _⟩
theorem impl_firstColumn.S : Sound Go.Proofs.Tryz.prog ⟨191, impl_firstColumn.sig, impl_firstColumn.F⟩ := sound_any (fn := Go.Proofs.Tryz.f191) (code := impl_firstColumn.code) (g := impl_firstColumn.cfg) (res := [.tmp 4]) Go.Proofs.Tryz.func191 (by kernel_rfl) (by kernel_rfl) impl_firstColumn.ok (by kernel_rfl) (by kernel_rfl) (Nat.le_of_ble_eq_true (by kernel_rfl)) (by kernel_rfl)
/-! ### impl_part -/
noncomputable def impl_part.sig : Sig := ⟨[.val true TSheaf, .val false (.sl (.int .i64)), .val false (.int .i64)], [(.val false, (.sl (.int .i64)), .deep)]⟩
noncomputable def impl_part.ctx : Ctx := ⟨tabOf tabl, [⟨132, slices_Clone_Lint64_int64.sig, slices_Clone_Lint64_int64.F⟩, ⟨191, impl_firstColumn.sig, impl_firstColumn.F⟩], [], [], [], []⟩
noncomputable def impl_part.cfg : Cfg := ⟨impl_part.ctx, [], [], fun _ => ([], []), fun _ => []⟩
noncomputable def impl_part.code : Code := (Go.Proofs.Tryz.f165).body.getD .skip
noncomputable def impl_part.fin := finK impl_part.ctx impl_part.sig [.tmp 6]
noncomputable def impl_part.F (d : (List (List Int) × Int × List Int × List (Int × Int × Int × List Int)) × List Int × Int × Unit) : Option ((List Int × Unit) × (Unit)) := anyK (runFn impl_part.cfg impl_part.fin impl_part.code (initSt impl_part.sig.ps d 22))
noncomputable def impl_part.T (s_1 : List (List Int)) (s_2 : Int) (s_3 : List Int) (s_4 : List (Int × Int × Int × List Int)) (x_5 : List Int) (simplex_6 : Int) : Option ((List Int × Unit) × (Unit)) :=
  (impl_firstColumn.F ((s_1, (s_2, (s_3, s_4))), simplex_6, ())).bind fun r7 =>
    if 0 ≤ simplex_6 ∧ simplex_6 < (s_3.length : Int) then
      if 0 ≤ (r7.1.1 : Int) ∧ (r7.1.1 : Int) ≤ (IntKind.i64.wrap ((r7.1.1 : Int) + (s_3.getD simplex_6.toNat 0 : Int))) ∧ (IntKind.i64.wrap ((r7.1.1 : Int) + (s_3.getD simplex_6.toNat 0 : Int))) ≤ (x_5.length : Int) then
        (slices_Clone_Lint64_int64.F (cutL x_5 (r7.1.1 : Int) (IntKind.i64.wrap ((r7.1.1 : Int) + (s_3.getD simplex_6.toNat 0 : Int))), ())).bind fun r8 =>
          some ((r8.1.1, ()), ())
      else
        none
    else
      none
theorem impl_part.run (k : Nat) (s_1 : List (List Int)) (s_2 : Int) (s_3 : List Int) (s_4 : List (Int × Int × Int × List Int)) (x_5 : List Int) (simplex_6 : Int) : runFn impl_part.cfg impl_part.fin impl_part.code (initSt impl_part.sig.ps ((s_1, (s_2, (s_3, s_4))), x_5, simplex_6, ()) 22) k = impl_part.T s_1 s_2 s_3 s_4 x_5 simplex_6 := by kernel_rfl
theorem impl_part.eq (s_1 : List (List Int)) (s_2 : Int) (s_3 : List Int) (s_4 : List (Int × Int × Int × List Int)) (x_5 : List Int) (simplex_6 : Int) : impl_part.F ((s_1, (s_2, (s_3, s_4))), x_5, simplex_6, ()) = impl_part.T s_1 s_2 s_3 s_4 x_5 simplex_6 := (congrArg anyK (funext fun k => impl_part.run k s_1 s_2 s_3 s_4 x_5 simplex_6)).trans (anyK_const _)
theorem impl_part.ok : CtxOK Go.Proofs.Tryz.prog impl_part.ctx := ⟨List.forall_mem_nil _, mixed_ok, tab_ok tab_good, List.forall_mem_cons.2 ⟨slices_Clone_Lint64_int64.S, List.forall_mem_cons.2 ⟨impl_firstColumn.S, List.forall_mem_nil _⟩⟩, List.forall_mem_nil _, List.forall_mem_nil _⟩
theorem impl_part.S : Sound Go.Proofs.Tryz.prog ⟨165, impl_part.sig, impl_part.F⟩ := sound_any (fn := Go.Proofs.Tryz.f165) (code := impl_part.code) (g := impl_part.cfg) (res := [.tmp 6]) Go.Proofs.Tryz.func165 (by kernel_rfl) (by kernel_rfl) impl_part.ok (by kernel_rfl) (by kernel_rfl) (Nat.le_of_ble_eq_true (by kernel_rfl)) (by kernel_rfl)
/-! ### impl_cochainOn -/
noncomputable def impl_cochainOn.sig : Sig := ⟨[.val true TSheaf, .val true (.sl (.sl (.int .i64))), .val false (.int .i64), .val false (.sl (.int .i64))], [(.val false, (.sl (.int .i64)), .deep)]⟩
noncomputable def impl_cochainOn.ctx : Ctx := ⟨tabOf tabl, [⟨159, impl_indexOf.sig, impl_indexOf.F⟩, ⟨163, impl_simplicesOf.sig, impl_simplicesOf.F⟩, ⟨165, impl_part.sig, impl_part.F⟩], [], [], [], []⟩
noncomputable def impl_cochainOn.cfg : Cfg := ⟨impl_cochainOn.ctx, [], [], fun id => match id with | 3 => ([3, 4, 5, 9, 14, 15, 16], [16, 20, 36, 56]) | _ => ([], []), fun _ => []⟩
noncomputable def impl_cochainOn.code : Code := (Go.Proofs.Tryz.f89).body.getD .skip
noncomputable def impl_cochainOn.fin := finK impl_cochainOn.ctx impl_cochainOn.sig [.tmp 8]
noncomputable def impl_cochainOn.F (d : (List (List Int) × Int × List Int × List (Int × Int × Int × List Int)) × List (List Int) × Int × List Int × Unit) : Option ((List Int × Unit) × (Unit)) := anyK (runFn impl_cochainOn.cfg impl_cochainOn.fin impl_cochainOn.code (initSt impl_cochainOn.sig.ps d 35))
noncomputable def impl_cochainOn.l3 (k : Nat) (x9 : List Int) (i10 : Int) (i11 : Int) (x12 : List (List Int)) (i13 : Int) (x14 : List Int) (x15 : List (Int × Int × Int × List Int)) (x16 : List (List Int)) (x17 : List Int) (x18 : List Int) : Option ((List Int × Unit) × (Unit)) :=
  Go.Vm.runT impl_cochainOn.cfg impl_cochainOn.fin k [.inLoop (sub [1, 1, 0, 1, 0, 0] impl_cochainOn.code), .inBlock 0, .code (sub [1, 1, 1] impl_cochainOn.code)]
    ⟨[.dead, .dead, .dead, .val false [⟨(.sl (.int .i64)), .sh, x9⟩], .ref 16 (.root 0), .ref 20 (.root 0), .dead, .dead, .dead, .view 36 (.root 0) 1 false, .dead, .dead, .dead, .dead, .view 56 (.root 0) 1 false, .val false [⟨(.int .i64), .sh, i10⟩], .val false [⟨(.int .i64), .sh, i11⟩]] ++ deads 18, [(16, ⟨true, [⟨(.sl (.sl (.int .i64))), .sh, x12⟩, ⟨(.int .i64), .sh, i13⟩, ⟨(.sl (.int .i64)), .sh, x14⟩, ⟨(.sl TMatrix), .sh, x15⟩]⟩), (20, ⟨true, [⟨(.sl (.sl (.int .i64))), .sh, x16⟩]⟩), (36, ⟨false, [⟨(.sl (.int .i64)), .deep, x17⟩]⟩), (56, ⟨false, [⟨(.sl (.int .i64)), .deep, x18⟩]⟩)]⟩
theorem impl_cochainOn.l3_eq (k : Nat) (x9 : List Int) (i10 : Int) (i11 : Int) (x12 : List (List Int)) (i13 : Int) (x14 : List Int) (x15 : List (Int × Int × Int × List Int)) (x16 : List (List Int)) (x17 : List Int) (x18 : List Int) : impl_cochainOn.l3 (k + 1) x9 i10 i11 x12 i13 x14 x15 x16 x17 x18 =
  if (decide (i11 < i10)) = true then
    if 0 ≤ i11 ∧ i11 < (x18.length : Int) then
      if 0 ≤ (x18.getD i11.toNat 0 : Int) ∧ (x18.getD i11.toNat 0 : Int) < (x16.length : Int) then
        (impl_indexOf.F (x12, x16.getD (x18.getD i11.toNat 0 : Int).toNat ([] : List Int), ())).bind fun r19 =>
          (impl_part.F ((x12, (i13, (x14, x15))), x9, (r19.1.1 : Int), ())).bind fun r20 =>
            if x17.length + r20.1.1.length ≤ bigA then
              impl_cochainOn.l3 k x9 i10 (IntKind.i64.wrap (i11 + (1 : Int))) x12 i13 x14 x15 x16 (x17 ++ r20.1.1) x18
            else
              none
      else
        none
    else
      none
  else
    some ((x17, ()), ()) := by kernel_rfl
noncomputable def impl_cochainOn.T (k : Nat) (s_1 : List (List Int)) (s_2 : Int) (s_3 : List Int) (s_4 : List (Int × Int × Int × List Int)) (p_5 : List (List Int)) (k_6 : Int) (x_7 : List Int) : Option ((List Int × Unit) × (Unit)) :=
  (impl_simplicesOf.F (p_5, k_6, ())).bind fun r8 =>
    impl_cochainOn.l3 k x_7 (r8.1.1.length : Int) (0 : Int) s_1 s_2 s_3 s_4 p_5 ([]) r8.1.1
theorem impl_cochainOn.run (k : Nat) (s_1 : List (List Int)) (s_2 : Int) (s_3 : List Int) (s_4 : List (Int × Int × Int × List Int)) (p_5 : List (List Int)) (k_6 : Int) (x_7 : List Int) : runFn impl_cochainOn.cfg impl_cochainOn.fin impl_cochainOn.code (initSt impl_cochainOn.sig.ps ((s_1, (s_2, (s_3, s_4))), p_5, k_6, x_7, ()) 35) k = impl_cochainOn.T k s_1 s_2 s_3 s_4 p_5 k_6 x_7 := by kernel_rfl
theorem impl_cochainOn.of (s_1 : List (List Int)) (s_2 : Int) (s_3 : List Int) (s_4 : List (Int × Int × Int × List Int)) (p_5 : List (List Int)) (k_6 : Int) (x_7 : List Int) {r : (List Int × Unit) × (Unit)} (h : Ev (fun k => impl_cochainOn.T k s_1 s_2 s_3 s_4 p_5 k_6 x_7) r) : impl_cochainOn.F ((s_1, (s_2, (s_3, s_4))), p_5, k_6, x_7, ()) = some r := Ev.run (fun k => impl_cochainOn.run k s_1 s_2 s_3 s_4 p_5 k_6 x_7) h
theorem impl_cochainOn.ok : CtxOK Go.Proofs.Tryz.prog impl_cochainOn.ctx := ⟨List.forall_mem_nil _, mixed_ok, tab_ok tab_good, List.forall_mem_cons.2 ⟨impl_indexOf.S, List.forall_mem_cons.2 ⟨impl_simplicesOf.S, List.forall_mem_cons.2 ⟨impl_part.S, List.forall_mem_nil _⟩⟩⟩, List.forall_mem_nil _, List.forall_mem_nil _⟩
theorem impl_cochainOn.S : Sound Go.Proofs.Tryz.prog ⟨89, impl_cochainOn.sig, impl_cochainOn.F⟩ := sound_any (fn := Go.Proofs.Tryz.f89) (code := impl_cochainOn.code) (g := impl_cochainOn.cfg) (res := [.tmp 8]) Go.Proofs.Tryz.func89 (by kernel_rfl) (by kernel_rfl) impl_cochainOn.ok (by kernel_rfl) (by kernel_rfl) (Nat.le_of_ble_eq_true (by kernel_rfl)) (by kernel_rfl)
/-! ### impl_RestrictCochain -/
noncomputable def impl_RestrictCochain.sig : Sig := ⟨[.val true TSheaf, .val true (.sl (.sl (.int .i64))), .val false (.int .i64), .val false (.sl (.int .i64))], [(.val false, (.sl (.int .i64)), .deep), (.val false, (.int .i64), .deep)]⟩
noncomputable def impl_RestrictCochain.ctx : Ctx := ⟨tabOf tabl, [⟨63, impl_IsSheaf.sig, impl_IsSheaf.F⟩, ⟨84, impl_ValidComplex.sig, impl_ValidComplex.F⟩, ⟨85, impl_isDimension.sig, impl_isDimension.F⟩, ⟨86, impl_isVector.sig, impl_isVector.F⟩, ⟨87, impl_stalkSum.sig, impl_stalkSum.F⟩, ⟨88, impl_isPart.sig, impl_isPart.F⟩, ⟨89, impl_cochainOn.sig, impl_cochainOn.F⟩], [], [], [], []⟩
noncomputable def impl_RestrictCochain.cfg : Cfg := ⟨impl_RestrictCochain.ctx, [], [], fun _ => ([], []), fun _ => []⟩
noncomputable def impl_RestrictCochain.code : Code := (Go.Proofs.Tryz.f36).body.getD .skip
noncomputable def impl_RestrictCochain.fin := finK impl_RestrictCochain.ctx impl_RestrictCochain.sig [.tmp 8, .tmp 9]
noncomputable def impl_RestrictCochain.F (d : (List (List Int) × Int × List Int × List (Int × Int × Int × List Int)) × List (List Int) × Int × List Int × Unit) : Option ((List Int × Int × Unit) × (Unit)) := anyK (runFn impl_RestrictCochain.cfg impl_RestrictCochain.fin impl_RestrictCochain.code (initSt impl_RestrictCochain.sig.ps d 43))
noncomputable def impl_RestrictCochain.T (s_1 : List (List Int)) (s_2 : Int) (s_3 : List Int) (s_4 : List (Int × Int × Int × List Int)) (part_5 : List (List Int)) (k_6 : Int) (x_7 : List Int) : Option ((List Int × Int × Unit) × (Unit)) :=
  (impl_IsSheaf.F ((s_1, (s_2, (s_3, s_4))), ())).bind fun r8 =>
    if (!(r8.1.1 : Bool)) = true then
      some (([], ((1 : Int), ())), ())
    else
      (impl_ValidComplex.F (part_5, ())).bind fun r9 =>
        if (!(r9.1.1 : Bool)) = true then
          some (([], ((1 : Int), ())), ())
        else
          (impl_isDimension.F (k_6, ())).bind fun r10 =>
            if (!(r10.1.1 : Bool)) = true then
              some (([], ((2 : Int), ())), ())
            else
              (impl_stalkSum.F ((s_1, (s_2, (s_3, s_4))), k_6, ())).bind fun r11 =>
                (impl_isVector.F (x_7, (r11.1.1 : Int), s_2, ())).bind fun r12 =>
                  if (!(r12.1.1 : Bool)) = true then
                    some (([], ((7 : Int), ())), ())
                  else
                    (impl_isPart.F (part_5, s_1, ())).bind fun r13 =>
                      if (!(r13.1.1 : Bool)) = true then
                        some (([], ((6 : Int), ())), ())
                      else
                        (impl_cochainOn.F ((s_1, (s_2, (s_3, s_4))), part_5, k_6, x_7, ())).bind fun r14 =>
                          some ((r14.1.1, ((0 : Int), ())), ())
theorem impl_RestrictCochain.run (k : Nat) (s_1 : List (List Int)) (s_2 : Int) (s_3 : List Int) (s_4 : List (Int × Int × Int × List Int)) (part_5 : List (List Int)) (k_6 : Int) (x_7 : List Int) : runFn impl_RestrictCochain.cfg impl_RestrictCochain.fin impl_RestrictCochain.code (initSt impl_RestrictCochain.sig.ps ((s_1, (s_2, (s_3, s_4))), part_5, k_6, x_7, ()) 43) k = impl_RestrictCochain.T s_1 s_2 s_3 s_4 part_5 k_6 x_7 := by kernel_rfl
theorem impl_RestrictCochain.eq (s_1 : List (List Int)) (s_2 : Int) (s_3 : List Int) (s_4 : List (Int × Int × Int × List Int)) (part_5 : List (List Int)) (k_6 : Int) (x_7 : List Int) : impl_RestrictCochain.F ((s_1, (s_2, (s_3, s_4))), part_5, k_6, x_7, ()) = impl_RestrictCochain.T s_1 s_2 s_3 s_4 part_5 k_6 x_7 := (congrArg anyK (funext fun k => impl_RestrictCochain.run k s_1 s_2 s_3 s_4 part_5 k_6 x_7)).trans (anyK_const _)
theorem impl_RestrictCochain.ok : CtxOK Go.Proofs.Tryz.prog impl_RestrictCochain.ctx := ⟨List.forall_mem_nil _, mixed_ok, tab_ok tab_good, List.forall_mem_cons.2 ⟨impl_IsSheaf.S, List.forall_mem_cons.2 ⟨impl_ValidComplex.S, List.forall_mem_cons.2 ⟨impl_isDimension.S, List.forall_mem_cons.2 ⟨impl_isVector.S, List.forall_mem_cons.2 ⟨impl_stalkSum.S, List.forall_mem_cons.2 ⟨impl_isPart.S, List.forall_mem_cons.2 ⟨impl_cochainOn.S, List.forall_mem_nil _⟩⟩⟩⟩⟩⟩⟩, List.forall_mem_nil _, List.forall_mem_nil _⟩
theorem impl_RestrictCochain.S : Sound Go.Proofs.Tryz.prog ⟨36, impl_RestrictCochain.sig, impl_RestrictCochain.F⟩ := sound_any (fn := Go.Proofs.Tryz.f36) (code := impl_RestrictCochain.code) (g := impl_RestrictCochain.cfg) (res := [.tmp 8, .tmp 9]) Go.Proofs.Tryz.func36 (by kernel_rfl) (by kernel_rfl) impl_RestrictCochain.ok (by kernel_rfl) (by kernel_rfl) (Nat.le_of_ble_eq_true (by kernel_rfl)) (by kernel_rfl)
/-! ### laws_heldInt64S -/
noncomputable def laws_heldInt64S.sig : Sig := ⟨[.val false (.sl (.int .i64)), .val false (.int .i64)], [(.val false, (.int .i64), .deep)]⟩
noncomputable def laws_heldInt64S.ctx : Ctx := ⟨tabOf tabl, [], [], [], [], []⟩
noncomputable def laws_heldInt64S.cfg : Cfg := ⟨laws_heldInt64S.ctx, [], [], fun id => match id with | 2 => ([0, 1, 5], []) | _ => ([], []), fun _ => []⟩
noncomputable def laws_heldInt64S.code : Code := (Go.Proofs.Tryz.f41).body.getD .skip
noncomputable def laws_heldInt64S.fin := finK laws_heldInt64S.ctx laws_heldInt64S.sig [.tmp 4]
noncomputable def laws_heldInt64S.F (d : List Int × Int × Unit) : Option ((Int × Unit) × (Unit)) := anyK (runFn laws_heldInt64S.cfg laws_heldInt64S.fin laws_heldInt64S.code (initSt laws_heldInt64S.sig.ps d 21))
noncomputable def laws_heldInt64S.l2 (k : Nat) (x3 : List Int) (i4 : Int) (i5 : Int) : Option ((Int × Unit) × (Unit)) :=
  Go.Vm.runT laws_heldInt64S.cfg laws_heldInt64S.fin k [.inLoop (sub [1, 0, 1, 0, 0] laws_heldInt64S.code), .inBlock 0, .code (sub [1, 1] laws_heldInt64S.code)]
    ⟨[.val false [⟨(.sl (.int .i64)), .sh, x3⟩], .val false [⟨(.int .i64), .sh, i4⟩], .dead, .dead, .dead, .val false [⟨(.int .i64), .sh, i5⟩]] ++ deads 15, []⟩
theorem laws_heldInt64S.l2_eq (k : Nat) (x3 : List Int) (i4 : Int) (i5 : Int) : laws_heldInt64S.l2 (k + 1) x3 i4 i5 =
  if (decide (i5 < (x3.length : Int))) = true then
    if 0 ≤ i5 ∧ i5 < (x3.length : Int) then
      if ((x3.getD i5.toNat 0 : Int) != i4) = true then
        some (((-1 : Int), ()), ())
      else
        laws_heldInt64S.l2 k x3 (IntKind.i64.wrap (i4 + (1 : Int))) (IntKind.i64.wrap (i5 + (1 : Int)))
    else
      none
  else
    some ((i4, ()), ()) := by kernel_rfl
noncomputable def laws_heldInt64S.T (k : Nat) (a_1 : List Int) (k_2 : Int) : Option ((Int × Unit) × (Unit)) :=
  laws_heldInt64S.l2 k a_1 k_2 (0 : Int)
theorem laws_heldInt64S.run (k : Nat) (a_1 : List Int) (k_2 : Int) : runFn laws_heldInt64S.cfg laws_heldInt64S.fin laws_heldInt64S.code (initSt laws_heldInt64S.sig.ps (a_1, k_2, ()) 21) k = laws_heldInt64S.T k a_1 k_2 := by kernel_rfl
theorem laws_heldInt64S.of (a_1 : List Int) (k_2 : Int) {r : (Int × Unit) × (Unit)} (h : Ev (fun k => laws_heldInt64S.T k a_1 k_2) r) : laws_heldInt64S.F (a_1, k_2, ()) = some r := Ev.run (fun k => laws_heldInt64S.run k a_1 k_2) h
theorem laws_heldInt64S.ok : CtxOK Go.Proofs.Tryz.prog laws_heldInt64S.ctx := ⟨List.forall_mem_nil _, mixed_ok, tab_ok tab_good, List.forall_mem_nil _, List.forall_mem_nil _, List.forall_mem_nil _⟩
theorem laws_heldInt64S.S : Sound Go.Proofs.Tryz.prog ⟨41, laws_heldInt64S.sig, laws_heldInt64S.F⟩ := sound_any (fn := Go.Proofs.Tryz.f41) (code := laws_heldInt64S.code) (g := laws_heldInt64S.cfg) (res := [.tmp 4]) Go.Proofs.Tryz.func41 (by kernel_rfl) (by kernel_rfl) laws_heldInt64S.ok (by kernel_rfl) (by kernel_rfl) (Nat.le_of_ble_eq_true (by kernel_rfl)) (by kernel_rfl)
/-! ### laws_FnExactRestrictCochain -/
noncomputable def laws_FnExactRestrictCochain.sig : Sig := ⟨[.val true TSheaf, .val true (.sl (.sl (.int .i64))), .val false (.int .i64), .val false (.sl (.int .i64))], [(.val false, .bool, .deep)]⟩
noncomputable def laws_FnExactRestrictCochain.ctx : Ctx := ⟨tabOf tabl, [⟨19, laws_szSheaf.sig, laws_szSheaf.F⟩, ⟨22, laws_toSheaf.sig, laws_toSheaf.F⟩, ⟨25, laws_eqSheaf.sig, laws_eqSheaf.F⟩, ⟨29, laws_markSheaf.sig, laws_markSheaf.F⟩, ⟨32, laws_szComplex.sig, laws_szComplex.F⟩, ⟨33, spec_RestrictCochain.sig, spec_RestrictCochain.F⟩, ⟨34, laws_toComplex.sig, laws_toComplex.F⟩, ⟨35, laws_toInt64S.sig, laws_toInt64S.F⟩, ⟨36, impl_RestrictCochain.sig, impl_RestrictCochain.F⟩, ⟨37, laws_eqInt64S.sig, laws_eqInt64S.F⟩, ⟨38, laws_eqComplex.sig, laws_eqComplex.F⟩, ⟨39, laws_markComplex.sig, laws_markComplex.F⟩, ⟨40, laws_markInt64S.sig, laws_markInt64S.F⟩, ⟨41, laws_heldInt64S.sig, laws_heldInt64S.F⟩], [], [], [], [10, 20]⟩
noncomputable def laws_FnExactRestrictCochain.cfg : Cfg := ⟨laws_FnExactRestrictCochain.ctx, [], [], fun _ => ([], []), fun _ => []⟩
noncomputable def laws_FnExactRestrictCochain.code : Code := (Go.Proofs.Tryz.f6).body.getD .skip
noncomputable def laws_FnExactRestrictCochain.fin := finK laws_FnExactRestrictCochain.ctx laws_FnExactRestrictCochain.sig [.tmp 8]
noncomputable def laws_FnExactRestrictCochain.F (d : (List (List Int) × Int × List Int × List (Int × Int × Int × List Int)) × List (List Int) × Int × List Int × Unit) : Option ((Bool × Unit) × (Unit)) := anyK (runFn laws_FnExactRestrictCochain.cfg laws_FnExactRestrictCochain.fin laws_FnExactRestrictCochain.code (initSt laws_FnExactRestrictCochain.sig.ps d 145))
noncomputable def laws_FnExactRestrictCochain.T (toArray_1 : List (List Int)) (toArray_2 : Int) (toArray_3 : List Int) (toArray_4 : List (Int × Int × Int × List Int)) (a_5 : List (List Int)) (a_6 : Int) (a_7 : List Int) : Option ((Bool × Unit) × (Unit)) :=
  if (decide ((a_7.length : Int) > (1048576 : Int))) = true then
    some ((true, ()), ())
  else
    (laws_szSheaf.F ((toArray_1, (toArray_2, (toArray_3, toArray_4))), (1048576 : Int), ())).bind fun r8 =>
      if (decide ((r8.1.1 : Int) < (0 : Int))) = true then
        some ((true, ()), ())
      else
        (laws_szComplex.F (a_5, (r8.1.1 : Int), ())).bind fun r9 =>
          if (decide ((r9.1.1 : Int) < (0 : Int))) = true then
            some ((true, ()), ())
          else
            (laws_toSheaf.F ((toArray_1, (toArray_2, (toArray_3, toArray_4))), ())).bind fun r10 =>
              (laws_toComplex.F (a_5, ())).bind fun r11 =>
                (laws_toInt64S.F (a_7, ())).bind fun r12 =>
                  (spec_RestrictCochain.F (r10.1.1, r11.1.1, a_6, r12.1.1, ())).bind fun r13 =>
                    (laws_toSheaf.F ((toArray_1, (toArray_2, (toArray_3, toArray_4))), ())).bind fun r14 =>
                      (laws_toComplex.F (a_5, ())).bind fun r15 =>
                        (laws_toInt64S.F (a_7, ())).bind fun r16 =>
                          (impl_RestrictCochain.F (r14.1.1, r15.1.1, a_6, r16.1.1, ())).bind fun r17 =>
                            (laws_eqInt64S.F (r17.1.1, r13.1.1, ())).bind fun r18 =>
                              if (!(r18.1.1 : Bool)) = true then
                                some ((false, ()), ())
                              else
                                if ((r17.1.2.1 : Int) != (r13.1.2.1 : Int)) = true then
                                  some ((false, ()), ())
                                else
                                  (laws_toSheaf.F ((toArray_1, (toArray_2, (toArray_3, toArray_4))), ())).bind fun r19 =>
                                    (laws_eqSheaf.F (r14.1.1, r19.1.1, ())).bind fun r20 =>
                                      if (!(r20.1.1 : Bool)) = true then
                                        some ((false, ()), ())
                                      else
                                        (laws_toComplex.F (a_5, ())).bind fun r21 =>
                                          (laws_eqComplex.F (r15.1.1, r21.1.1, ())).bind fun r22 =>
                                            if (!(r22.1.1 : Bool)) = true then
                                              some ((false, ()), ())
                                            else
                                              (laws_toInt64S.F (a_7, ())).bind fun r23 =>
                                                (laws_eqInt64S.F (r16.1.1, r23.1.1, ())).bind fun r24 =>
                                                  if (!(r24.1.1 : Bool)) = true then
                                                    some ((false, ()), ())
                                                  else
                                                    (laws_markSheaf.F (r14.1.1, (1 : Int), ())).bind fun r25 =>
                                                      (laws_markComplex.F (r15.1.1, (r25.1.1 : Int), ())).bind fun r26 =>
                                                        (laws_markInt64S.F (r16.1.1, (r26.1.1 : Int), ())).bind fun r27 =>
                                                          if (decide ((r27.1.1 : Int) < (0 : Int))) = true then
                                                            some ((false, ()), ())
                                                          else
                                                            (laws_eqInt64S.F (r17.1.1, r13.1.1, ())).bind fun r28 =>
                                                              if (!(r28.1.1 : Bool)) = true then
                                                                some ((false, ()), ())
                                                              else
                                                                if ((r17.1.2.1 : Int) != (r13.1.2.1 : Int)) = true then
                                                                  some ((false, ()), ())
                                                                else
                                                                  (laws_markInt64S.F (r17.1.1, (1 : Int), ())).bind fun r29 =>
                                                                    (laws_heldInt64S.F (r29.2.1, (1 : Int), ())).bind fun r30 =>
                                                                      if (decide ((r30.1.1 : Int) < (0 : Int))) = true then
                                                                        some ((false, ()), ())
                                                                      else
                                                                        if ((r30.1.1 : Int) != (r29.1.1 : Int)) = true then
                                                                          some ((false, ()), ())
                                                                        else
                                                                          (laws_toSheaf.F ((toArray_1, (toArray_2, (toArray_3, toArray_4))), ())).bind fun r31 =>
                                                                            (laws_toComplex.F (a_5, ())).bind fun r32 =>
                                                                              (laws_toInt64S.F (a_7, ())).bind fun r33 =>
                                                                                (impl_RestrictCochain.F (r31.1.1, r32.1.1, a_6, r33.1.1, ())).bind fun r34 =>
                                                                                  (laws_eqInt64S.F (r34.1.1, r13.1.1, ())).bind fun r35 =>
                                                                                    if (!(r35.1.1 : Bool)) = true then
                                                                                      some ((false, ()), ())
                                                                                    else
                                                                                      if ((r34.1.2.1 : Int) != (r13.1.2.1 : Int)) = true then
                                                                                        some ((false, ()), ())
                                                                                      else
                                                                                        (laws_heldInt64S.F (r29.2.1, (1 : Int), ())).bind fun r36 =>
                                                                                          if (decide ((r36.1.1 : Int) < (0 : Int))) = true then
                                                                                            some ((false, ()), ())
                                                                                          else
                                                                                            if ((r36.1.1 : Int) != (r29.1.1 : Int)) = true then
                                                                                              some ((false, ()), ())
                                                                                            else
                                                                                              some ((true, ()), ())
theorem laws_FnExactRestrictCochain.run (k : Nat) (toArray_1 : List (List Int)) (toArray_2 : Int) (toArray_3 : List Int) (toArray_4 : List (Int × Int × Int × List Int)) (a_5 : List (List Int)) (a_6 : Int) (a_7 : List Int) : runFn laws_FnExactRestrictCochain.cfg laws_FnExactRestrictCochain.fin laws_FnExactRestrictCochain.code (initSt laws_FnExactRestrictCochain.sig.ps ((toArray_1, (toArray_2, (toArray_3, toArray_4))), a_5, a_6, a_7, ()) 145) k = laws_FnExactRestrictCochain.T toArray_1 toArray_2 toArray_3 toArray_4 a_5 a_6 a_7 := by kernel_rfl
theorem laws_FnExactRestrictCochain.eq (toArray_1 : List (List Int)) (toArray_2 : Int) (toArray_3 : List Int) (toArray_4 : List (Int × Int × Int × List Int)) (a_5 : List (List Int)) (a_6 : Int) (a_7 : List Int) : laws_FnExactRestrictCochain.F ((toArray_1, (toArray_2, (toArray_3, toArray_4))), a_5, a_6, a_7, ()) = laws_FnExactRestrictCochain.T toArray_1 toArray_2 toArray_3 toArray_4 a_5 a_6 a_7 := (congrArg anyK (funext fun k => laws_FnExactRestrictCochain.run k toArray_1 toArray_2 toArray_3 toArray_4 a_5 a_6 a_7)).trans (anyK_const _)
theorem laws_FnExactRestrictCochain.ok : CtxOK Go.Proofs.Tryz.prog laws_FnExactRestrictCochain.ctx := ⟨List.forall_mem_nil _, mixed_ok, tab_ok tab_good, List.forall_mem_cons.2 ⟨laws_szSheaf.S, List.forall_mem_cons.2 ⟨laws_toSheaf.S, List.forall_mem_cons.2 ⟨laws_eqSheaf.S, List.forall_mem_cons.2 ⟨laws_markSheaf.S, List.forall_mem_cons.2 ⟨laws_szComplex.S, List.forall_mem_cons.2 ⟨spec_RestrictCochain.S, List.forall_mem_cons.2 ⟨laws_toComplex.S, List.forall_mem_cons.2 ⟨laws_toInt64S.S, List.forall_mem_cons.2 ⟨impl_RestrictCochain.S, List.forall_mem_cons.2 ⟨laws_eqInt64S.S, List.forall_mem_cons.2 ⟨laws_eqComplex.S, List.forall_mem_cons.2 ⟨laws_markComplex.S, List.forall_mem_cons.2 ⟨laws_markInt64S.S, List.forall_mem_cons.2 ⟨laws_heldInt64S.S, List.forall_mem_nil _⟩⟩⟩⟩⟩⟩⟩⟩⟩⟩⟩⟩⟩⟩, List.forall_mem_nil _, List.forall_mem_nil _⟩
theorem laws_FnExactRestrictCochain.S : Sound Go.Proofs.Tryz.prog ⟨6, laws_FnExactRestrictCochain.sig, laws_FnExactRestrictCochain.F⟩ := sound_any (fn := Go.Proofs.Tryz.f6) (code := laws_FnExactRestrictCochain.code) (g := laws_FnExactRestrictCochain.cfg) (res := [.tmp 8]) Go.Proofs.Tryz.func6 (by kernel_rfl) (by kernel_rfl) laws_FnExactRestrictCochain.ok (by kernel_rfl) (by kernel_rfl) (Nat.le_of_ble_eq_true (by kernel_rfl)) (by kernel_rfl)
end Go.Proofs.YtbjnpdngackjoaaGreat
