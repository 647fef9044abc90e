/- The functions, as the machine runs them. -/
import Derived.Test.YtbjnpdngackjoaaGreatCosheafBoundaryG1
import Derived.Test.YtbjnpdngackjoaaGreatProg
import Derived.KernelRfl
import Derived.WalkKit
import Derived.Lib.Walk
import Derived.Lib.AppendZeros
namespace Go.Proofs.YtbjnpdngackjoaaGreat
open Go Go.Vm
set_option linter.unusedVariables false
set_option linter.unusedSimpArgs false
/-! ### slices_ContainsFunc_Lint64_int64 -/
noncomputable def slices_ContainsFunc_Lint64_int64.sig : Sig := ⟨[.val false (.sl (.int .i64)), .fnx ⟨[(false, (.int .i64))], [(.val false, .bool, .deep)]⟩], [(.val false, .bool, .deep)]⟩
noncomputable def slices_ContainsFunc_Lint64_int64.ctx : Ctx := ⟨tabOf tabl, [⟨226, slices_IndexFunc_Lint64_int64.sig, slices_IndexFunc_Lint64_int64.F⟩], [], [], [], []⟩
noncomputable def slices_ContainsFunc_Lint64_int64.cfg : Cfg := ⟨slices_ContainsFunc_Lint64_int64.ctx, [], [], fun _ => ([], []), fun _ => []⟩
noncomputable def slices_ContainsFunc_Lint64_int64.code : Code := (Go.Proofs.Tryz.f212).body.getD .skip
noncomputable def slices_ContainsFunc_Lint64_int64.fin := finK slices_ContainsFunc_Lint64_int64.ctx slices_ContainsFunc_Lint64_int64.sig [.tmp 4]
noncomputable def slices_ContainsFunc_Lint64_int64.F (d : List Int × ((Int × Unit) → Option (Bool × Unit)) × Unit) : Option ((Bool × Unit) × (Unit)) := anyK (runFn slices_ContainsFunc_Lint64_int64.cfg slices_ContainsFunc_Lint64_int64.fin slices_ContainsFunc_Lint64_int64.code (initSt slices_ContainsFunc_Lint64_int64.sig.ps d 9))
noncomputable def slices_ContainsFunc_Lint64_int64.T (s_1 : List Int) (f_2 : (Int × Unit) → Option (Bool × Unit)) : Option ((Bool × Unit) × (Unit)) :=
  (slices_IndexFunc_Lint64_int64.F (s_1, f_2, ())).bind fun r3 =>
    some ((decide ((r3.1.1 : Int) ≥ (0 : Int)), ()), ())
theorem slices_ContainsFunc_Lint64_int64.run (k : Nat) (s_1 : List Int) (f_2 : (Int × Unit) → Option (Bool × Unit)) : runFn slices_ContainsFunc_Lint64_int64.cfg slices_ContainsFunc_Lint64_int64.fin slices_ContainsFunc_Lint64_int64.code (initSt slices_ContainsFunc_Lint64_int64.sig.ps (s_1, f_2, ()) 9) k = slices_ContainsFunc_Lint64_int64.T s_1 f_2 := by kernel_rfl
theorem slices_ContainsFunc_Lint64_int64.eq (s_1 : List Int) (f_2 : (Int × Unit) → Option (Bool × Unit)) : slices_ContainsFunc_Lint64_int64.F (s_1, f_2, ()) = slices_ContainsFunc_Lint64_int64.T s_1 f_2 := (congrArg anyK (funext fun k => slices_ContainsFunc_Lint64_int64.run k s_1 f_2)).trans (anyK_const _)
theorem slices_ContainsFunc_Lint64_int64.ok : CtxOK Go.Proofs.Tryz.prog slices_ContainsFunc_Lint64_int64.ctx := ⟨List.forall_mem_nil _, mixed_ok, tab_ok tab_good, List.forall_mem_cons.2 ⟨slices_IndexFunc_Lint64_int64.S, List.forall_mem_nil _⟩, List.forall_mem_nil _, List.forall_mem_nil _⟩
theorem slices_ContainsFunc_Lint64_int64.S : Sound Go.Proofs.Tryz.prog ⟨212, slices_ContainsFunc_Lint64_int64.sig, slices_ContainsFunc_Lint64_int64.F⟩ := sound_any (fn := Go.Proofs.Tryz.f212) (code := slices_ContainsFunc_Lint64_int64.code) (g := slices_ContainsFunc_Lint64_int64.cfg) (res := [.tmp 4]) Go.Proofs.Tryz.func212 (by kernel_rfl) (by kernel_rfl) slices_ContainsFunc_Lint64_int64.ok (by kernel_rfl) (by kernel_rfl) (Nat.le_of_ble_eq_true (by kernel_rfl)) (by kernel_rfl)
/-! ### impl_within -/
noncomputable def impl_within.sig : Sig := ⟨[.val false (.int .i64), .val false (.int .i64), .val false (.int .i64)], [(.val false, .bool, .deep)]⟩
noncomputable def impl_within.ctx : Ctx := ⟨tabOf tabl, [], [], [], [], []⟩
noncomputable def impl_within.cfg : Cfg := ⟨impl_within.ctx, [], [], fun _ => ([], []), fun _ => []⟩
noncomputable def impl_within.code : Code := (Go.Proofs.Tryz.f160).body.getD .skip
noncomputable def impl_within.fin := finK impl_within.ctx impl_within.sig [.tmp 6]
noncomputable def impl_within.F (d : Int × Int × Int × Unit) : Option ((Bool × Unit) × (Unit)) := anyK (runFn impl_within.cfg impl_within.fin impl_within.code (initSt impl_within.sig.ps d 15))
noncomputable def impl_within.T (n_1 : Int) (low_2 : Int) (high_3 : Int) : Option ((Bool × Unit) × (Unit)) :=
  if (decide (n_1 ≥ low_2)) = true then
    some ((decide (n_1 ≤ high_3), ()), ())
  else
    some ((false, ()), ())
theorem impl_within.run (k : Nat) (n_1 : Int) (low_2 : Int) (high_3 : Int) : runFn impl_within.cfg impl_within.fin impl_within.code (initSt impl_within.sig.ps (n_1, low_2, high_3, ()) 15) k = impl_within.T n_1 low_2 high_3 := by kernel_rfl
theorem impl_within.eq (n_1 : Int) (low_2 : Int) (high_3 : Int) : impl_within.F (n_1, low_2, high_3, ()) = impl_within.T n_1 low_2 high_3 := (congrArg anyK (funext fun k => impl_within.run k n_1 low_2 high_3)).trans (anyK_const _)
theorem impl_within.ok : CtxOK Go.Proofs.Tryz.prog impl_within.ctx := ⟨List.forall_mem_nil _, mixed_ok, tab_ok tab_good, List.forall_mem_nil _, List.forall_mem_nil _, List.forall_mem_nil _⟩
theorem impl_within.S : Sound Go.Proofs.Tryz.prog ⟨160, impl_within.sig, impl_within.F⟩ := sound_any (fn := Go.Proofs.Tryz.f160) (code := impl_within.code) (g := impl_within.cfg) (res := [.tmp 6]) Go.Proofs.Tryz.func160 (by kernel_rfl) (by kernel_rfl) impl_within.ok (by kernel_rfl) (by kernel_rfl) (Nat.le_of_ble_eq_true (by kernel_rfl)) (by kernel_rfl)
/-! ### impl_isVertex -/
noncomputable def impl_isVertex.sig : Sig := ⟨[.val false (.int .i64)], [(.val false, .bool, .deep)]⟩
noncomputable def impl_isVertex.ctx : Ctx := ⟨tabOf tabl, [⟨160, impl_within.sig, impl_within.F⟩], [], [], [], []⟩
noncomputable def impl_isVertex.cfg : Cfg := ⟨impl_isVertex.ctx, [], [], fun _ => ([], []), fun _ => []⟩
noncomputable def impl_isVertex.code : Code := (Go.Proofs.Tryz.f214).body.getD .skip
noncomputable def impl_isVertex.fin := finK impl_isVertex.ctx impl_isVertex.sig [.tmp 2]
noncomputable def impl_isVertex.F (d : Int × Unit) : Option ((Bool × Unit) × (Unit)) := anyK (runFn impl_isVertex.cfg impl_isVertex.fin impl_isVertex.code (initSt impl_isVertex.sig.ps d 5))
noncomputable def impl_isVertex.T (v_1 : Int) : Option ((Bool × Unit) × (Unit)) :=
  (impl_within.F (v_1, (0 : Int), (9 : Int), ())).bind fun r2 =>
    some (((r2.1.1 : Bool), ()), ())
theorem impl_isVertex.run (k : Nat) (v_1 : Int) : runFn impl_isVertex.cfg impl_isVertex.fin impl_isVertex.code (initSt impl_isVertex.sig.ps (v_1, ()) 5) k = impl_isVertex.T v_1 := by kernel_rfl
theorem impl_isVertex.eq (v_1 : Int) : impl_isVertex.F (v_1, ()) = impl_isVertex.T v_1 := (congrArg anyK (funext fun k => impl_isVertex.run k v_1)).trans (anyK_const _)
theorem impl_isVertex.ok : CtxOK Go.Proofs.Tryz.prog impl_isVertex.ctx := ⟨List.forall_mem_nil _, mixed_ok, tab_ok tab_good, List.forall_mem_cons.2 ⟨impl_within.S, List.forall_mem_nil _⟩, List.forall_mem_nil _, List.forall_mem_nil _⟩
theorem impl_isVertex.S : Sound Go.Proofs.Tryz.prog ⟨214, impl_isVertex.sig, impl_isVertex.F⟩ := sound_any (fn := Go.Proofs.Tryz.f214) (code := impl_isVertex.code) (g := impl_isVertex.cfg) (res := [.tmp 2]) Go.Proofs.Tryz.func214 (by kernel_rfl) (by kernel_rfl) impl_isVertex.ok (by kernel_rfl) (by kernel_rfl) (Nat.le_of_ble_eq_true (by kernel_rfl)) (by kernel_rfl)
/-! ### impl_ValidSimplex_1 -/
noncomputable def impl_ValidSimplex_1.sig : Sig := ⟨[.val false (.int .i64)], [(.val false, .bool, .deep)]⟩
noncomputable def impl_ValidSimplex_1.ctx : Ctx := ⟨tabOf tabl, [⟨214, impl_isVertex.sig, impl_isVertex.F⟩], [], [], [], []⟩
noncomputable def impl_ValidSimplex_1.cfg : Cfg := ⟨impl_ValidSimplex_1.ctx, [], [], fun _ => ([], []), fun _ => []⟩
noncomputable def impl_ValidSimplex_1.code : Code := (Go.Proofs.Tryz.f213).body.getD .skip
noncomputable def impl_ValidSimplex_1.fin := finK impl_ValidSimplex_1.ctx impl_ValidSimplex_1.sig [.tmp 2]
noncomputable def impl_ValidSimplex_1.F (d : Int × Unit) : Option ((Bool × Unit) × (Unit)) := anyK (runFn impl_ValidSimplex_1.cfg impl_ValidSimplex_1.fin impl_ValidSimplex_1.code (initSt impl_ValidSimplex_1.sig.ps d 6))
noncomputable def impl_ValidSimplex_1.T (v_1 : Int) : Option ((Bool × Unit) × (Unit)) :=
  (impl_isVertex.F (v_1, ())).bind fun r2 =>
    some ((!(r2.1.1 : Bool), ()), ())
theorem impl_ValidSimplex_1.run (k : Nat) (v_1 : Int) : runFn impl_ValidSimplex_1.cfg impl_ValidSimplex_1.fin impl_ValidSimplex_1.code (initSt impl_ValidSimplex_1.sig.ps (v_1, ()) 6) k = impl_ValidSimplex_1.T v_1 := by kernel_rfl
theorem impl_ValidSimplex_1.eq (v_1 : Int) : impl_ValidSimplex_1.F (v_1, ()) = impl_ValidSimplex_1.T v_1 := (congrArg anyK (funext fun k => impl_ValidSimplex_1.run k v_1)).trans (anyK_const _)
theorem impl_ValidSimplex_1.ok : CtxOK Go.Proofs.Tryz.prog impl_ValidSimplex_1.ctx := ⟨List.forall_mem_nil _, mixed_ok, tab_ok tab_good, List.forall_mem_cons.2 ⟨impl_isVertex.S, List.forall_mem_nil _⟩, List.forall_mem_nil _, List.forall_mem_nil _⟩
theorem impl_ValidSimplex_1.S : Sound Go.Proofs.Tryz.prog ⟨213, impl_ValidSimplex_1.sig, impl_ValidSimplex_1.F⟩ := sound_any (fn := Go.Proofs.Tryz.f213) (code := impl_ValidSimplex_1.code) (g := impl_ValidSimplex_1.cfg) (res := [.tmp 2]) Go.Proofs.Tryz.func213 (by kernel_rfl) (by kernel_rfl) impl_ValidSimplex_1.ok (by kernel_rfl) (by kernel_rfl) (Nat.le_of_ble_eq_true (by kernel_rfl)) (by kernel_rfl)
noncomputable def impl_ValidSimplex_1.cloG (y : Unit) (d : Int × Unit) : Option (Bool × Unit) := (impl_ValidSimplex_1.F (joinIns [] [(false, (.int .i64))] d y)).map (·.1)
noncomputable def impl_ValidSimplex_1.clo : Clo := ⟨213, ⟨[(false, (.int .i64))], [(.val false, .bool, .deep)]⟩, [], impl_ValidSimplex_1.cloG⟩
theorem impl_ValidSimplex_1.cloS : SoundClo Go.Proofs.Tryz.prog impl_ValidSimplex_1.clo := sound_clo (s := ⟨[(false, (.int .i64))], [(.val false, .bool, .deep)]⟩) (caps := []) rfl impl_ValidSimplex_1.S
/-! ### impl_ValidSimplex -/
noncomputable def impl_ValidSimplex.sig : Sig := ⟨[.val false (.sl (.int .i64))], [(.val false, .bool, .deep)]⟩
noncomputable def impl_ValidSimplex.ctx : Ctx := ⟨tabOf tabl, [⟨211, impl_isRising.sig, impl_isRising.F⟩, ⟨212, slices_ContainsFunc_Lint64_int64.sig, slices_ContainsFunc_Lint64_int64.F⟩], [impl_ValidSimplex_1.clo], [], [], []⟩
noncomputable def impl_ValidSimplex.cfg : Cfg := ⟨impl_ValidSimplex.ctx, [], [], fun _ => ([], []), fun _ => []⟩
noncomputable def impl_ValidSimplex.code : Code := (Go.Proofs.Tryz.f154).body.getD .skip
noncomputable def impl_ValidSimplex.fin := finK impl_ValidSimplex.ctx impl_ValidSimplex.sig [.tmp 2]
noncomputable def impl_ValidSimplex.F (d : List Int × Unit) : Option ((Bool × Unit) × (Unit)) := anyK (runFn impl_ValidSimplex.cfg impl_ValidSimplex.fin impl_ValidSimplex.code (initSt impl_ValidSimplex.sig.ps d 20))
noncomputable def impl_ValidSimplex.T (s_1 : List Int) : Option ((Bool × Unit) × (Unit)) :=
  if (decide ((s_1.length : Int) ≥ (1 : Int))) = true then
    if (decide ((s_1.length : Int) ≤ (4 : Int))) = true then
      (impl_isRising.F (s_1, ())).bind fun r2 =>
        if (r2.1.1 : Bool) = true then
          (slices_ContainsFunc_Lint64_int64.F (s_1, impl_ValidSimplex_1.cloG (()), ())).bind fun r3 =>
            some ((!(r3.1.1 : Bool), ()), ())
        else
          some ((false, ()), ())
    else
      some ((false, ()), ())
  else
    some ((false, ()), ())
theorem impl_ValidSimplex.run (k : Nat) (s_1 : List Int) : runFn impl_ValidSimplex.cfg impl_ValidSimplex.fin impl_ValidSimplex.code (initSt impl_ValidSimplex.sig.ps (s_1, ()) 20) k = impl_ValidSimplex.T s_1 := by kernel_rfl
theorem impl_ValidSimplex.eq (s_1 : List Int) : impl_ValidSimplex.F (s_1, ()) = impl_ValidSimplex.T s_1 := (congrArg anyK (funext fun k => impl_ValidSimplex.run k s_1)).trans (anyK_const _)
theorem impl_ValidSimplex.ok : CtxOK Go.Proofs.Tryz.prog impl_ValidSimplex.ctx := ⟨List.forall_mem_nil _, mixed_ok, tab_ok tab_good, List.forall_mem_cons.2 ⟨impl_isRising.S, List.forall_mem_cons.2 ⟨slices_ContainsFunc_Lint64_int64.S, List.forall_mem_nil _⟩⟩, List.forall_mem_cons.2 ⟨impl_ValidSimplex_1.cloS, List.forall_mem_nil _⟩, List.forall_mem_nil _⟩
theorem impl_ValidSimplex.S : Sound Go.Proofs.Tryz.prog ⟨154, impl_ValidSimplex.sig, impl_ValidSimplex.F⟩ := sound_any (fn := Go.Proofs.Tryz.f154) (code := impl_ValidSimplex.code) (g := impl_ValidSimplex.cfg) (res := [.tmp 2]) Go.Proofs.Tryz.func154 (by kernel_rfl) (by kernel_rfl) impl_ValidSimplex.ok (by kernel_rfl) (by kernel_rfl) (Nat.le_of_ble_eq_true (by kernel_rfl)) (by kernel_rfl)
/-! ### cmp_Or_int -/
noncomputable def cmp_Or_int.sig : Sig := ⟨[.val false (.sl (.int .i64))], [(.val false, (.int .i64), .deep)]⟩
noncomputable def cmp_Or_int.ctx : Ctx := ⟨tabOf tabl, [], [], [], [], []⟩
noncomputable def cmp_Or_int.cfg : Cfg := ⟨cmp_Or_int.ctx, [], [], fun id => match id with | 3 => ([3, 6, 7, 8], []) | _ => ([], []), fun _ => []⟩
noncomputable def cmp_Or_int.code : Code := (Go.Proofs.Tryz.f215).body.getD .skip
noncomputable def cmp_Or_int.fin := finK cmp_Or_int.ctx cmp_Or_int.sig [.tmp 2]
noncomputable def cmp_Or_int.F (d : List Int × Unit) : Option ((Int × Unit) × (Unit)) := anyK (runFn cmp_Or_int.cfg cmp_Or_int.fin cmp_Or_int.code (initSt cmp_Or_int.sig.ps d 18))
noncomputable def cmp_Or_int.l3 (k : Nat) (i2 : Int) (x3 : List Int) (i4 : Int) (i5 : Int) : Option ((Int × Unit) × (Unit)) :=
  Go.Vm.runT cmp_Or_int.cfg cmp_Or_int.fin k [.inLoop (sub [1, 1, 0, 1, 0, 0] cmp_Or_int.code), .inBlock 0, .code (sub [1, 1, 1] cmp_Or_int.code)]
    ⟨[.dead, .dead, .dead, .val false [⟨(.int .i64), .sh, i2⟩], .dead, .dead, .val false [⟨(.sl (.int .i64)), .sh, x3⟩], .val false [⟨(.int .i64), .sh, i4⟩], .val false [⟨(.int .i64), .sh, i5⟩]] ++ deads 9, []⟩
theorem cmp_Or_int.l3_eq (k : Nat) (i2 : Int) (x3 : List Int) (i4 : Int) (i5 : Int) : cmp_Or_int.l3 (k + 1) i2 x3 i4 i5 =
  if (decide (i5 < i4)) = true then
    if 0 ≤ i5 ∧ i5 < (x3.length : Int) then
      if ((x3.getD i5.toNat 0 : Int) != i2) = true then
        some (((x3.getD i5.toNat 0 : Int), ()), ())
      else
        cmp_Or_int.l3 k i2 x3 i4 (IntKind.i64.wrap (i5 + (1 : Int)))
    else
      none
  else
    some ((i2, ()), ()) := by kernel_rfl
noncomputable def cmp_Or_int.T (k : Nat) (vals_1 : List Int) : Option ((Int × Unit) × (Unit)) :=
  cmp_Or_int.l3 k (0 : Int) vals_1 (vals_1.length : Int) (0 : Int)
theorem cmp_Or_int.run (k : Nat) (vals_1 : List Int) : runFn cmp_Or_int.cfg cmp_Or_int.fin cmp_Or_int.code (initSt cmp_Or_int.sig.ps (vals_1, ()) 18) k = cmp_Or_int.T k vals_1 := by kernel_rfl
theorem cmp_Or_int.of (vals_1 : List Int) {r : (Int × Unit) × (Unit)} (h : Ev (fun k => cmp_Or_int.T k vals_1) r) : cmp_Or_int.F (vals_1, ()) = some r := Ev.run (fun k => cmp_Or_int.run k vals_1) h
theorem cmp_Or_int.ok : CtxOK Go.Proofs.Tryz.prog cmp_Or_int.ctx := ⟨List.forall_mem_nil _, mixed_ok, tab_ok tab_good, List.forall_mem_nil _, List.forall_mem_nil _, List.forall_mem_nil _⟩
theorem cmp_Or_int.S : Sound Go.Proofs.Tryz.prog ⟨215, cmp_Or_int.sig, cmp_Or_int.F⟩ := sound_any (fn := Go.Proofs.Tryz.f215) (code := cmp_Or_int.code) (g := cmp_Or_int.cfg) (res := [.tmp 2]) Go.Proofs.Tryz.func215 (by kernel_rfl) (by kernel_rfl) cmp_Or_int.ok (by kernel_rfl) (by kernel_rfl) (Nat.le_of_ble_eq_true (by kernel_rfl)) (by kernel_rfl)
/-! ### cmp_isNaN_int -/
noncomputable def cmp_isNaN_int.sig : Sig := ⟨[.val false (.int .i64)], [(.val false, .bool, .deep)]⟩
noncomputable def cmp_isNaN_int.ctx : Ctx := ⟨tabOf tabl, [], [], [], [], []⟩
noncomputable def cmp_isNaN_int.cfg : Cfg := ⟨cmp_isNaN_int.ctx, [], [], fun _ => ([], []), fun _ => []⟩
noncomputable def cmp_isNaN_int.code : Code := (Go.Proofs.Tryz.f238).body.getD .skip
noncomputable def cmp_isNaN_int.fin := finK cmp_isNaN_int.ctx cmp_isNaN_int.sig [.tmp 2]
noncomputable def cmp_isNaN_int.F (d : Int × Unit) : Option ((Bool × Unit) × (Unit)) := anyK (runFn cmp_isNaN_int.cfg cmp_isNaN_int.fin cmp_isNaN_int.code (initSt cmp_isNaN_int.sig.ps d 6))
noncomputable def cmp_isNaN_int.T (x_1 : Int) : Option ((Bool × Unit) × (Unit)) :=
  some ((x_1 != x_1, ()), ())
theorem cmp_isNaN_int.run (k : Nat) (x_1 : Int) : runFn cmp_isNaN_int.cfg cmp_isNaN_int.fin cmp_isNaN_int.code (initSt cmp_isNaN_int.sig.ps (x_1, ()) 6) k = cmp_isNaN_int.T x_1 := by kernel_rfl
theorem cmp_isNaN_int.eq (x_1 : Int) : cmp_isNaN_int.F (x_1, ()) = cmp_isNaN_int.T x_1 := (congrArg anyK (funext fun k => cmp_isNaN_int.run k x_1)).trans (anyK_const _)
theorem cmp_isNaN_int.ok : CtxOK Go.Proofs.Tryz.prog cmp_isNaN_int.ctx := ⟨List.forall_mem_nil _, mixed_ok, tab_ok tab_good, List.forall_mem_nil _, List.forall_mem_nil _, List.forall_mem_nil _⟩
theorem cmp_isNaN_int.S : Sound Go.Proofs.Tryz.prog ⟨238, cmp_isNaN_int.sig, cmp_isNaN_int.F⟩ := sound_any (fn := Go.Proofs.Tryz.f238) (code := cmp_isNaN_int.code) (g := cmp_isNaN_int.cfg) (res := [.tmp 2]) Go.Proofs.Tryz.func238 (by kernel_rfl) (by kernel_rfl) cmp_isNaN_int.ok (by kernel_rfl) (by kernel_rfl) (Nat.le_of_ble_eq_true (by kernel_rfl)) (by kernel_rfl)
/-! ### cmp_Compare_int -/
noncomputable def cmp_Compare_int.sig : Sig := ⟨[.val false (.int .i64), .val false (.int .i64)], [(.val false, (.int .i64), .deep)]⟩
noncomputable def cmp_Compare_int.ctx : Ctx := ⟨tabOf tabl, [⟨238, cmp_isNaN_int.sig, cmp_isNaN_int.F⟩], [], [], [], []⟩
noncomputable def cmp_Compare_int.cfg : Cfg := ⟨cmp_Compare_int.ctx, [], [], fun _ => ([], []), fun _ => []⟩
noncomputable def cmp_Compare_int.code : Code := (Go.Proofs.Tryz.f216).body.getD .skip
noncomputable def cmp_Compare_int.fin := finK cmp_Compare_int.ctx cmp_Compare_int.sig [.tmp 4]
noncomputable def cmp_Compare_int.F (d : Int × Int × Unit) : Option ((Int × Unit) × (Unit)) := anyK (runFn cmp_Compare_int.cfg cmp_Compare_int.fin cmp_Compare_int.code (initSt cmp_Compare_int.sig.ps d 20))
noncomputable def cmp_Compare_int.T (x_1 : Int) (y_2 : Int) : Option ((Int × Unit) × (Unit)) :=
  (cmp_isNaN_int.F (x_1, ())).bind fun r3 =>
    (cmp_isNaN_int.F (y_2, ())).bind fun r4 =>
      if (r3.1.1 : Bool) = true then
        if (r4.1.1 : Bool) = true then
          some (((0 : Int), ()), ())
        else
          some (((-1 : Int), ()), ())
      else
        if (r4.1.1 : Bool) = true then
          some (((1 : Int), ()), ())
        else
          if (decide (x_1 < y_2)) = true then
            some (((-1 : Int), ()), ())
          else
            if (decide (x_1 > y_2)) = true then
              some (((1 : Int), ()), ())
            else
              some (((0 : Int), ()), ())
theorem cmp_Compare_int.run (k : Nat) (x_1 : Int) (y_2 : Int) : runFn cmp_Compare_int.cfg cmp_Compare_int.fin cmp_Compare_int.code (initSt cmp_Compare_int.sig.ps (x_1, y_2, ()) 20) k = cmp_Compare_int.T x_1 y_2 := by kernel_rfl
theorem cmp_Compare_int.eq (x_1 : Int) (y_2 : Int) : cmp_Compare_int.F (x_1, y_2, ()) = cmp_Compare_int.T x_1 y_2 := (congrArg anyK (funext fun k => cmp_Compare_int.run k x_1 y_2)).trans (anyK_const _)
theorem cmp_Compare_int.ok : CtxOK Go.Proofs.Tryz.prog cmp_Compare_int.ctx := ⟨List.forall_mem_nil _, mixed_ok, tab_ok tab_good, List.forall_mem_cons.2 ⟨cmp_isNaN_int.S, List.forall_mem_nil _⟩, List.forall_mem_nil _, List.forall_mem_nil _⟩
theorem cmp_Compare_int.S : Sound Go.Proofs.Tryz.prog ⟨216, cmp_Compare_int.sig, cmp_Compare_int.F⟩ := sound_any (fn := Go.Proofs.Tryz.f216) (code := cmp_Compare_int.code) (g := cmp_Compare_int.cfg) (res := [.tmp 4]) Go.Proofs.Tryz.func216 (by kernel_rfl) (by kernel_rfl) cmp_Compare_int.ok (by kernel_rfl) (by kernel_rfl) (Nat.le_of_ble_eq_true (by kernel_rfl)) (by kernel_rfl)
/-! ### cmp_isNaN_int64 -/
noncomputable def cmp_isNaN_int64.sig : Sig := ⟨[.val false (.int .i64)], [(.val false, .bool, .deep)]⟩
noncomputable def cmp_isNaN_int64.ctx : Ctx := ⟨tabOf tabl, [], [], [], [], []⟩
noncomputable def cmp_isNaN_int64.cfg : Cfg := ⟨cmp_isNaN_int64.ctx, [], [], fun _ => ([], []), fun _ => []⟩
noncomputable def cmp_isNaN_int64.code : Code := (Go.Proofs.Tryz.f242).body.getD .skip
noncomputable def cmp_isNaN_int64.fin := finK cmp_isNaN_int64.ctx cmp_isNaN_int64.sig [.tmp 2]
noncomputable def cmp_isNaN_int64.F (d : Int × Unit) : Option ((Bool × Unit) × (Unit)) := anyK (runFn cmp_isNaN_int64.cfg cmp_isNaN_int64.fin cmp_isNaN_int64.code (initSt cmp_isNaN_int64.sig.ps d 6))
noncomputable def cmp_isNaN_int64.T (x_1 : Int) : Option ((Bool × Unit) × (Unit)) :=
  some ((x_1 != x_1, ()), ())
theorem cmp_isNaN_int64.run (k : Nat) (x_1 : Int) : runFn cmp_isNaN_int64.cfg cmp_isNaN_int64.fin cmp_isNaN_int64.code (initSt cmp_isNaN_int64.sig.ps (x_1, ()) 6) k = cmp_isNaN_int64.T x_1 := by kernel_rfl
theorem cmp_isNaN_int64.eq (x_1 : Int) : cmp_isNaN_int64.F (x_1, ()) = cmp_isNaN_int64.T x_1 := (congrArg anyK (funext fun k => cmp_isNaN_int64.run k x_1)).trans (anyK_const _)
theorem cmp_isNaN_int64.ok : CtxOK Go.Proofs.Tryz.prog cmp_isNaN_int64.ctx := ⟨List.forall_mem_nil _, mixed_ok, tab_ok tab_good, List.forall_mem_nil _, List.forall_mem_nil _, List.forall_mem_nil _⟩
theorem cmp_isNaN_int64.S : Sound Go.Proofs.Tryz.prog ⟨242, cmp_isNaN_int64.sig, cmp_isNaN_int64.F⟩ := sound_any (fn := Go.Proofs.Tryz.f242) (code := cmp_isNaN_int64.code) (g := cmp_isNaN_int64.cfg) (res := [.tmp 2]) Go.Proofs.Tryz.func242 (by kernel_rfl) (by kernel_rfl) cmp_isNaN_int64.ok (by kernel_rfl) (by kernel_rfl) (Nat.le_of_ble_eq_true (by kernel_rfl)) (by kernel_rfl)
/-! ### cmp_Compare_int64 -/
noncomputable def cmp_Compare_int64.sig : Sig := ⟨[.val false (.int .i64), .val false (.int .i64)], [(.val false, (.int .i64), .deep)]⟩
noncomputable def cmp_Compare_int64.ctx : Ctx := ⟨tabOf tabl, [⟨242, cmp_isNaN_int64.sig, cmp_isNaN_int64.F⟩], [], [], [], []⟩
noncomputable def cmp_Compare_int64.cfg : Cfg := ⟨cmp_Compare_int64.ctx, [], [], fun _ => ([], []), fun _ => []⟩
noncomputable def cmp_Compare_int64.code : Code := (Go.Proofs.Tryz.f239).body.getD .skip
noncomputable def cmp_Compare_int64.fin := finK cmp_Compare_int64.ctx cmp_Compare_int64.sig [.tmp 4]
noncomputable def cmp_Compare_int64.F (d : Int × Int × Unit) : Option ((Int × Unit) × (Unit)) := anyK (runFn cmp_Compare_int64.cfg cmp_Compare_int64.fin cmp_Compare_int64.code (initSt cmp_Compare_int64.sig.ps d 20))
noncomputable def cmp_Compare_int64.T (x_1 : Int) (y_2 : Int) : Option ((Int × Unit) × (Unit)) :=
  (cmp_isNaN_int64.F (x_1, ())).bind fun r3 =>
    (cmp_isNaN_int64.F (y_2, ())).bind fun r4 =>
      if (r3.1.1 : Bool) = true then
        if (r4.1.1 : Bool) = true then
          some (((0 : Int), ()), ())
        else
          some (((-1 : Int), ()), ())
      else
        if (r4.1.1 : Bool) = true then
          some (((1 : Int), ()), ())
        else
          if (decide (x_1 < y_2)) = true then
            some (((-1 : Int), ()), ())
          else
            if (decide (x_1 > y_2)) = true then
              some (((1 : Int), ()), ())
            else
              some (((0 : Int), ()), ())
theorem cmp_Compare_int64.run (k : Nat) (x_1 : Int) (y_2 : Int) : runFn cmp_Compare_int64.cfg cmp_Compare_int64.fin cmp_Compare_int64.code (initSt cmp_Compare_int64.sig.ps (x_1, y_2, ()) 20) k = cmp_Compare_int64.T x_1 y_2 := by kernel_rfl
theorem cmp_Compare_int64.eq (x_1 : Int) (y_2 : Int) : cmp_Compare_int64.F (x_1, y_2, ()) = cmp_Compare_int64.T x_1 y_2 := (congrArg anyK (funext fun k => cmp_Compare_int64.run k x_1 y_2)).trans (anyK_const _)
theorem cmp_Compare_int64.ok : CtxOK Go.Proofs.Tryz.prog cmp_Compare_int64.ctx := ⟨List.forall_mem_nil _, mixed_ok, tab_ok tab_good, List.forall_mem_cons.2 ⟨cmp_isNaN_int64.S, List.forall_mem_nil _⟩, List.forall_mem_nil _, List.forall_mem_nil _⟩
theorem cmp_Compare_int64.S : Sound Go.Proofs.Tryz.prog ⟨239, cmp_Compare_int64.sig, cmp_Compare_int64.F⟩ := sound_any (fn := Go.Proofs.Tryz.f239) (code := cmp_Compare_int64.code) (g := cmp_Compare_int64.cfg) (res := [.tmp 4]) Go.Proofs.Tryz.func239 (by kernel_rfl) (by kernel_rfl) cmp_Compare_int64.ok (by kernel_rfl) (by kernel_rfl) (Nat.le_of_ble_eq_true (by kernel_rfl)) (by kernel_rfl)
/-! ### slices_Compare_Lint64_int64 -/
noncomputable def slices_Compare_Lint64_int64.sig : Sig := ⟨[.val false (.sl (.int .i64)), .val false (.sl (.int .i64))], [(.val false, (.int .i64), .deep)]⟩
noncomputable def slices_Compare_Lint64_int64.ctx : Ctx := ⟨tabOf tabl, [⟨239, cmp_Compare_int64.sig, cmp_Compare_int64.F⟩], [], [], [], []⟩
noncomputable def slices_Compare_Lint64_int64.cfg : Cfg := ⟨slices_Compare_Lint64_int64.ctx, [], [], fun id => match id with | 2 => ([0, 1, 9, 10, 11], []) | _ => ([], []), fun _ => []⟩
noncomputable def slices_Compare_Lint64_int64.code : Code := (Go.Proofs.Tryz.f217).body.getD .skip
noncomputable def slices_Compare_Lint64_int64.fin := finK slices_Compare_Lint64_int64.ctx slices_Compare_Lint64_int64.sig [.tmp 4]
noncomputable def slices_Compare_Lint64_int64.F (d : List Int × List Int × Unit) : Option ((Int × Unit) × (Unit)) := anyK (runFn slices_Compare_Lint64_int64.cfg slices_Compare_Lint64_int64.fin slices_Compare_Lint64_int64.code (initSt slices_Compare_Lint64_int64.sig.ps d 36))
noncomputable def slices_Compare_Lint64_int64.l2 (k : Nat) (x3 : List Int) (x4 : List Int) (x5 : List Int) (i6 : Int) (i7 : Int) : Option ((Int × Unit) × (Unit)) :=
  Go.Vm.runT slices_Compare_Lint64_int64.cfg slices_Compare_Lint64_int64.fin k [.inLoop (sub [1, 0, 1, 0, 0] slices_Compare_Lint64_int64.code), .inBlock 0, .code (sub [1, 1] slices_Compare_Lint64_int64.code)]
    ⟨[.val false [⟨(.sl (.int .i64)), .sh, x3⟩], .val false [⟨(.sl (.int .i64)), .sh, x4⟩], .dead, .dead, .dead, .dead, .dead, .dead, .dead, .val false [⟨(.sl (.int .i64)), .sh, x5⟩], .val false [⟨(.int .i64), .sh, i6⟩], .val false [⟨(.int .i64), .sh, i7⟩]] ++ deads 24, []⟩
theorem slices_Compare_Lint64_int64.l2_eq (k : Nat) (x3 : List Int) (x4 : List Int) (x5 : List Int) (i6 : Int) (i7 : Int) : slices_Compare_Lint64_int64.l2 (k + 1) x3 x4 x5 i6 i7 =
  if (decide (i7 < i6)) = true then
    if 0 ≤ i7 ∧ i7 < (x5.length : Int) then
      if (decide (i7 ≥ (x4.length : Int))) = true then
        some (((1 : Int), ()), ())
      else
        if 0 ≤ i7 ∧ i7 < (x4.length : Int) then
          (cmp_Compare_int64.F ((x5.getD i7.toNat 0 : Int), (x4.getD i7.toNat 0 : Int), ())).bind fun r8 =>
            if ((r8.1.1 : Int) != (0 : Int)) = true then
              some (((r8.1.1 : Int), ()), ())
            else
              slices_Compare_Lint64_int64.l2 k x3 x4 x5 i6 (IntKind.i64.wrap (i7 + (1 : Int)))
        else
          none
    else
      none
  else
    if (decide ((x3.length : Int) < (x4.length : Int))) = true then
      some (((-1 : Int), ()), ())
    else
      some (((0 : Int), ()), ()) := by kernel_rfl
noncomputable def slices_Compare_Lint64_int64.T (k : Nat) (s1_1 : List Int) (s2_2 : List Int) : Option ((Int × Unit) × (Unit)) :=
  slices_Compare_Lint64_int64.l2 k s1_1 s2_2 s1_1 (s1_1.length : Int) (0 : Int)
theorem slices_Compare_Lint64_int64.run (k : Nat) (s1_1 : List Int) (s2_2 : List Int) : runFn slices_Compare_Lint64_int64.cfg slices_Compare_Lint64_int64.fin slices_Compare_Lint64_int64.code (initSt slices_Compare_Lint64_int64.sig.ps (s1_1, s2_2, ()) 36) k = slices_Compare_Lint64_int64.T k s1_1 s2_2 := by kernel_rfl
theorem slices_Compare_Lint64_int64.of (s1_1 : List Int) (s2_2 : List Int) {r : (Int × Unit) × (Unit)} (h : Ev (fun k => slices_Compare_Lint64_int64.T k s1_1 s2_2) r) : slices_Compare_Lint64_int64.F (s1_1, s2_2, ()) = some r := Ev.run (fun k => slices_Compare_Lint64_int64.run k s1_1 s2_2) h
theorem slices_Compare_Lint64_int64.ok : CtxOK Go.Proofs.Tryz.prog slices_Compare_Lint64_int64.ctx := ⟨List.forall_mem_nil _, mixed_ok, tab_ok tab_good, List.forall_mem_cons.2 ⟨cmp_Compare_int64.S, List.forall_mem_nil _⟩, List.forall_mem_nil _, List.forall_mem_nil _⟩
theorem slices_Compare_Lint64_int64.S : Sound Go.Proofs.Tryz.prog ⟨217, slices_Compare_Lint64_int64.sig, slices_Compare_Lint64_int64.F⟩ := sound_any (fn := Go.Proofs.Tryz.f217) (code := slices_Compare_Lint64_int64.code) (g := slices_Compare_Lint64_int64.cfg) (res := [.tmp 4]) Go.Proofs.Tryz.func217 (by kernel_rfl) (by kernel_rfl) slices_Compare_Lint64_int64.ok (by kernel_rfl) (by kernel_rfl) (Nat.le_of_ble_eq_true (by kernel_rfl)) (by kernel_rfl)
/-! ### impl_compareSimplices -/
noncomputable def impl_compareSimplices.sig : Sig := ⟨[.val false (.sl (.int .i64)), .val false (.sl (.int .i64))], [(.val false, (.int .i64), .deep)]⟩
noncomputable def impl_compareSimplices.ctx : Ctx := ⟨tabOf tabl, [⟨215, cmp_Or_int.sig, cmp_Or_int.F⟩, ⟨216, cmp_Compare_int.sig, cmp_Compare_int.F⟩, ⟨217, slices_Compare_Lint64_int64.sig, slices_Compare_Lint64_int64.F⟩], [], [], [], []⟩
noncomputable def impl_compareSimplices.cfg : Cfg := ⟨impl_compareSimplices.ctx, [], [], fun _ => ([], []), fun _ => []⟩
noncomputable def impl_compareSimplices.code : Code := (Go.Proofs.Tryz.f155).body.getD .skip
noncomputable def impl_compareSimplices.fin := finK impl_compareSimplices.ctx impl_compareSimplices.sig [.tmp 4]
noncomputable def impl_compareSimplices.F (d : List Int × List Int × Unit) : Option ((Int × Unit) × (Unit)) := anyK (runFn impl_compareSimplices.cfg impl_compareSimplices.fin impl_compareSimplices.code (initSt impl_compareSimplices.sig.ps d 15))
noncomputable def impl_compareSimplices.T (a_1 : List Int) (b_2 : List Int) : Option ((Int × Unit) × (Unit)) :=
  (cmp_Compare_int.F ((a_1.length : Int), (b_2.length : Int), ())).bind fun r3 =>
    (slices_Compare_Lint64_int64.F (a_1, b_2, ())).bind fun r4 =>
      (cmp_Or_int.F ([(r3.1.1 : Int), (r4.1.1 : Int)], ())).bind fun r5 =>
        some (((r5.1.1 : Int), ()), ())
theorem impl_compareSimplices.run (k : Nat) (a_1 : List Int) (b_2 : List Int) : runFn impl_compareSimplices.cfg impl_compareSimplices.fin impl_compareSimplices.code (initSt impl_compareSimplices.sig.ps (a_1, b_2, ()) 15) k = impl_compareSimplices.T a_1 b_2 := by kernel_rfl
theorem impl_compareSimplices.eq (a_1 : List Int) (b_2 : List Int) : impl_compareSimplices.F (a_1, b_2, ()) = impl_compareSimplices.T a_1 b_2 := (congrArg anyK (funext fun k => impl_compareSimplices.run k a_1 b_2)).trans (anyK_const _)
theorem impl_compareSimplices.ok : CtxOK Go.Proofs.Tryz.prog impl_compareSimplices.ctx := ⟨List.forall_mem_nil _, mixed_ok, tab_ok tab_good, List.forall_mem_cons.2 ⟨cmp_Or_int.S, List.forall_mem_cons.2 ⟨cmp_Compare_int.S, List.forall_mem_cons.2 ⟨slices_Compare_Lint64_int64.S, List.forall_mem_nil _⟩⟩⟩, List.forall_mem_nil _, List.forall_mem_nil _⟩
theorem impl_compareSimplices.S : Sound Go.Proofs.Tryz.prog ⟨155, impl_compareSimplices.sig, impl_compareSimplices.F⟩ := sound_any (fn := Go.Proofs.Tryz.f155) (code := impl_compareSimplices.code) (g := impl_compareSimplices.cfg) (res := [.tmp 4]) Go.Proofs.Tryz.func155 (by kernel_rfl) (by kernel_rfl) impl_compareSimplices.ok (by kernel_rfl) (by kernel_rfl) (Nat.le_of_ble_eq_true (by kernel_rfl)) (by kernel_rfl)
noncomputable def impl_compareSimplices.cloG (y : Unit) (d : List Int × List Int × Unit) : Option (Int × Unit) := (impl_compareSimplices.F (joinIns [] [(false, (.sl (.int .i64))), (false, (.sl (.int .i64)))] d y)).map (·.1)
noncomputable def impl_compareSimplices.clo : Clo := ⟨155, ⟨[(false, (.sl (.int .i64))), (false, (.sl (.int .i64)))], [(.val false, (.int .i64), .deep)]⟩, [], impl_compareSimplices.cloG⟩
theorem impl_compareSimplices.cloS : SoundClo Go.Proofs.Tryz.prog impl_compareSimplices.clo := sound_clo (s := ⟨[(false, (.sl (.int .i64))), (false, (.sl (.int .i64)))], [(.val false, (.int .i64), .deep)]⟩) (caps := []) rfl impl_compareSimplices.S
/-! ### slices_IndexFunc_LLint64_Lint64 -/
noncomputable def slices_IndexFunc_LLint64_Lint64.sig : Sig := ⟨[.val false (.sl (.sl (.int .i64))), .fnx ⟨[(false, (.sl (.int .i64)))], [(.val false, .bool, .deep)]⟩], [(.val false, (.int .i64), .deep)]⟩
noncomputable def slices_IndexFunc_LLint64_Lint64.ctx : Ctx := ⟨tabOf tabl, [], [], [], [], []⟩
noncomputable def slices_IndexFunc_LLint64_Lint64.cfg : Cfg := ⟨slices_IndexFunc_LLint64_Lint64.ctx, [], [], fun id => match id with | 2 => ([0, 1, 7, 8], []) | _ => ([], []), fun _ => []⟩
noncomputable def slices_IndexFunc_LLint64_Lint64.code : Code := (Go.Proofs.Tryz.f218).body.getD .skip
noncomputable def slices_IndexFunc_LLint64_Lint64.fin := finK slices_IndexFunc_LLint64_Lint64.ctx slices_IndexFunc_LLint64_Lint64.sig [.tmp 4]
noncomputable def slices_IndexFunc_LLint64_Lint64.F (d : List (List Int) × ((List Int × Unit) → Option (Bool × Unit)) × Unit) : Option ((Int × Unit) × (Unit)) := anyK (runFn slices_IndexFunc_LLint64_Lint64.cfg slices_IndexFunc_LLint64_Lint64.fin slices_IndexFunc_LLint64_Lint64.code (initSt slices_IndexFunc_LLint64_Lint64.sig.ps d 19))
noncomputable def slices_IndexFunc_LLint64_Lint64.l2 (k : Nat) (x3 : List (List Int)) (f4 : (List Int × Unit) → Option (Bool × Unit)) (i5 : Int) (i6 : Int) : Option ((Int × Unit) × (Unit)) :=
  Go.Vm.runT slices_IndexFunc_LLint64_Lint64.cfg slices_IndexFunc_LLint64_Lint64.fin k [.inLoop (sub [1, 0, 1, 0, 0] slices_IndexFunc_LLint64_Lint64.code), .inBlock 0, .code (sub [1, 1] slices_IndexFunc_LLint64_Lint64.code)]
    ⟨[.val false [⟨(.sl (.sl (.int .i64))), .sh, x3⟩], .fnx ⟨[(false, (.sl (.int .i64)))], [(.val false, .bool, .deep)]⟩ f4, .dead, .dead, .dead, .dead, .dead, .val false [⟨(.int .i64), .sh, i5⟩], .val false [⟨(.int .i64), .sh, i6⟩]] ++ deads 10, []⟩
theorem slices_IndexFunc_LLint64_Lint64.l2_eq (k : Nat) (x3 : List (List Int)) (f4 : (List Int × Unit) → Option (Bool × Unit)) (i5 : Int) (i6 : Int) : slices_IndexFunc_LLint64_Lint64.l2 (k + 1) x3 f4 i5 i6 =
  if (decide (i6 < i5)) = true then
    if 0 ≤ i6 ∧ i6 < (x3.length : Int) then
      (f4 (x3.getD i6.toNat ([] : List Int), ())).bind fun r7 =>
        if (r7.1 : Bool) = true then
          some ((i6, ()), ())
        else
          slices_IndexFunc_LLint64_Lint64.l2 k x3 f4 i5 (IntKind.i64.wrap (i6 + (1 : Int)))
    else
      none
  else
    some (((-1 : Int), ()), ()) := by kernel_rfl
noncomputable def slices_IndexFunc_LLint64_Lint64.T (k : Nat) (s_1 : List (List Int)) (f_2 : (List Int × Unit) → Option (Bool × Unit)) : Option ((Int × Unit) × (Unit)) :=
  slices_IndexFunc_LLint64_Lint64.l2 k s_1 f_2 (s_1.length : Int) (0 : Int)
theorem slices_IndexFunc_LLint64_Lint64.run (k : Nat) (s_1 : List (List Int)) (f_2 : (List Int × Unit) → Option (Bool × Unit)) : runFn slices_IndexFunc_LLint64_Lint64.cfg slices_IndexFunc_LLint64_Lint64.fin slices_IndexFunc_LLint64_Lint64.code (initSt slices_IndexFunc_LLint64_Lint64.sig.ps (s_1, f_2, ()) 19) k = slices_IndexFunc_LLint64_Lint64.T k s_1 f_2 := by kernel_rfl
theorem slices_IndexFunc_LLint64_Lint64.of (s_1 : List (List Int)) (f_2 : (List Int × Unit) → Option (Bool × Unit)) {r : (Int × Unit) × (Unit)} (h : Ev (fun k => slices_IndexFunc_LLint64_Lint64.T k s_1 f_2) r) : slices_IndexFunc_LLint64_Lint64.F (s_1, f_2, ()) = some r := Ev.run (fun k => slices_IndexFunc_LLint64_Lint64.run k s_1 f_2) h
theorem slices_IndexFunc_LLint64_Lint64.ok : CtxOK Go.Proofs.Tryz.prog slices_IndexFunc_LLint64_Lint64.ctx := ⟨List.forall_mem_nil _, mixed_ok, tab_ok tab_good, List.forall_mem_nil _, List.forall_mem_nil _, List.forall_mem_nil _⟩
theorem slices_IndexFunc_LLint64_Lint64.S : Sound Go.Proofs.Tryz.prog ⟨218, slices_IndexFunc_LLint64_Lint64.sig, slices_IndexFunc_LLint64_Lint64.F⟩ := sound_any (fn := Go.Proofs.Tryz.f218) (code := slices_IndexFunc_LLint64_Lint64.code) (g := slices_IndexFunc_LLint64_Lint64.cfg) (res := [.tmp 4]) Go.Proofs.Tryz.func218 (by kernel_rfl) (by kernel_rfl) slices_IndexFunc_LLint64_Lint64.ok (by kernel_rfl) (by kernel_rfl) (Nat.le_of_ble_eq_true (by kernel_rfl)) (by kernel_rfl)
/-! ### slices_ContainsFunc_LLint64_Lint64 -/
noncomputable def slices_ContainsFunc_LLint64_Lint64.sig : Sig := ⟨[.val false (.sl (.sl (.int .i64))), .fnx ⟨[(false, (.sl (.int .i64)))], [(.val false, .bool, .deep)]⟩], [(.val false, .bool, .deep)]⟩
noncomputable def slices_ContainsFunc_LLint64_Lint64.ctx : Ctx := ⟨tabOf tabl, [⟨218, slices_IndexFunc_LLint64_Lint64.sig, slices_IndexFunc_LLint64_Lint64.F⟩], [], [], [], []⟩
noncomputable def slices_ContainsFunc_LLint64_Lint64.cfg : Cfg := ⟨slices_ContainsFunc_LLint64_Lint64.ctx, [], [], fun _ => ([], []), fun _ => []⟩
noncomputable def slices_ContainsFunc_LLint64_Lint64.code : Code := (Go.Proofs.Tryz.f156).body.getD .skip
noncomputable def slices_ContainsFunc_LLint64_Lint64.fin := finK slices_ContainsFunc_LLint64_Lint64.ctx slices_ContainsFunc_LLint64_Lint64.sig [.tmp 4]
noncomputable def slices_ContainsFunc_LLint64_Lint64.F (d : List (List Int) × ((List Int × Unit) → Option (Bool × Unit)) × Unit) : Option ((Bool × Unit) × (Unit)) := anyK (runFn slices_ContainsFunc_LLint64_Lint64.cfg slices_ContainsFunc_LLint64_Lint64.fin slices_ContainsFunc_LLint64_Lint64.code (initSt slices_ContainsFunc_LLint64_Lint64.sig.ps d 9))
noncomputable def slices_ContainsFunc_LLint64_Lint64.T (s_1 : List (List Int)) (f_2 : (List Int × Unit) → Option (Bool × Unit)) : Option ((Bool × Unit) × (Unit)) :=
  (slices_IndexFunc_LLint64_Lint64.F (s_1, f_2, ())).bind fun r3 =>
    some ((decide ((r3.1.1 : Int) ≥ (0 : Int)), ()), ())
theorem slices_ContainsFunc_LLint64_Lint64.run (k : Nat) (s_1 : List (List Int)) (f_2 : (List Int × Unit) → Option (Bool × Unit)) : runFn slices_ContainsFunc_LLint64_Lint64.cfg slices_ContainsFunc_LLint64_Lint64.fin slices_ContainsFunc_LLint64_Lint64.code (initSt slices_ContainsFunc_LLint64_Lint64.sig.ps (s_1, f_2, ()) 9) k = slices_ContainsFunc_LLint64_Lint64.T s_1 f_2 := by kernel_rfl
theorem slices_ContainsFunc_LLint64_Lint64.eq (s_1 : List (List Int)) (f_2 : (List Int × Unit) → Option (Bool × Unit)) : slices_ContainsFunc_LLint64_Lint64.F (s_1, f_2, ()) = slices_ContainsFunc_LLint64_Lint64.T s_1 f_2 := (congrArg anyK (funext fun k => slices_ContainsFunc_LLint64_Lint64.run k s_1 f_2)).trans (anyK_const _)
theorem slices_ContainsFunc_LLint64_Lint64.ok : CtxOK Go.Proofs.Tryz.prog slices_ContainsFunc_LLint64_Lint64.ctx := ⟨List.forall_mem_nil _, mixed_ok, tab_ok tab_good, List.forall_mem_cons.2 ⟨slices_IndexFunc_LLint64_Lint64.S, List.forall_mem_nil _⟩, List.forall_mem_nil _, List.forall_mem_nil _⟩
theorem slices_ContainsFunc_LLint64_Lint64.S : Sound Go.Proofs.Tryz.prog ⟨156, slices_ContainsFunc_LLint64_Lint64.sig, slices_ContainsFunc_LLint64_Lint64.F⟩ := sound_any (fn := Go.Proofs.Tryz.f156) (code := slices_ContainsFunc_LLint64_Lint64.code) (g := slices_ContainsFunc_LLint64_Lint64.cfg) (res := [.tmp 4]) Go.Proofs.Tryz.func156 (by kernel_rfl) (by kernel_rfl) slices_ContainsFunc_LLint64_Lint64.ok (by kernel_rfl) (by kernel_rfl) (Nat.le_of_ble_eq_true (by kernel_rfl)) (by kernel_rfl)
/-! ### slices_Concat_Lint64_int64 -/
noncomputable def slices_Concat_Lint64_int64.sig : Sig := ⟨[.val false (.sl (.sl (.int .i64)))], [(.val false, (.sl (.int .i64)), .deep)]⟩
noncomputable def slices_Concat_Lint64_int64.ctx : Ctx := ⟨tabOf tabl, [], [], [], [(232, (.int .i64))], []⟩
noncomputable def slices_Concat_Lint64_int64.cfg : Cfg := ⟨slices_Concat_Lint64_int64.ctx, [], [], fun id => match id with | 3 => ([0, 3, 9, 10, 11], []) | 11 => ([6, 25, 26, 27], [24]) | _ => ([], []), fun _ => []⟩
noncomputable def slices_Concat_Lint64_int64.code : Code := (Go.Proofs.Tryz.f187).body.getD .skip
noncomputable def slices_Concat_Lint64_int64.fin := finK slices_Concat_Lint64_int64.ctx slices_Concat_Lint64_int64.sig [.tmp 2]
noncomputable def slices_Concat_Lint64_int64.F (d : List (List Int) × Unit) : Option ((List Int × Unit) × (Unit)) := anyK (runFn slices_Concat_Lint64_int64.cfg slices_Concat_Lint64_int64.fin slices_Concat_Lint64_int64.code (initSt slices_Concat_Lint64_int64.sig.ps d 36))
noncomputable def slices_Concat_Lint64_int64.l3 (k : Nat) (x2 : List (List Int)) (i3 : Int) (x4 : List (List Int)) (i5 : Int) (i6 : Int) : Option ((List Int × Unit) × (Unit)) :=
  Go.Vm.runT slices_Concat_Lint64_int64.cfg slices_Concat_Lint64_int64.fin k [.inLoop (sub [1, 1, 0, 1, 0, 0] slices_Concat_Lint64_int64.code), .inBlock 0, .code (sub [1, 1, 1] slices_Concat_Lint64_int64.code)]
    ⟨[.val false [⟨(.sl (.sl (.int .i64))), .sh, x2⟩], .dead, .dead, .val false [⟨(.int .i64), .sh, i3⟩], .dead, .dead, .dead, .dead, .dead, .val false [⟨(.sl (.sl (.int .i64))), .sh, x4⟩], .val false [⟨(.int .i64), .sh, i5⟩], .val false [⟨(.int .i64), .sh, i6⟩]] ++ deads 24, []⟩
noncomputable def slices_Concat_Lint64_int64.l11 (k : Nat) (x7 : List (List Int)) (i8 : Int) (i9 : Int) (x10 : List Int) : Option ((List Int × Unit) × (Unit)) :=
  Go.Vm.runT slices_Concat_Lint64_int64.cfg slices_Concat_Lint64_int64.fin k [.inLoop (sub [1, 1, 1, 1, 0, 1, 0, 0] slices_Concat_Lint64_int64.code), .inBlock 2, .code (sub [1, 1, 1, 1, 1] slices_Concat_Lint64_int64.code)]
    ⟨[.dead, .dead, .dead, .dead, .dead, .dead, .view 24 (.root 0) 1 false, .dead, .dead, .dead, .dead, .dead, .dead, .dead, .dead, .dead, .dead, .dead, .dead, .dead, .dead, .dead, .dead, .dead, .dead, .val false [⟨(.sl (.sl (.int .i64))), .sh, x7⟩], .val false [⟨(.int .i64), .sh, i8⟩], .val false [⟨(.int .i64), .sh, i9⟩]] ++ deads 8, [(24, ⟨false, [⟨(.sl (.int .i64)), .deep, x10⟩]⟩)]⟩
theorem slices_Concat_Lint64_int64.l3_eq (k : Nat) (x2 : List (List Int)) (i3 : Int) (x4 : List (List Int)) (i5 : Int) (i6 : Int) : slices_Concat_Lint64_int64.l3 (k + 1) x2 i3 x4 i5 i6 =
  if (decide (i6 < i5)) = true then
    if 0 ≤ i6 ∧ i6 < (x4.length : Int) then
      if (decide ((IntKind.i64.wrap (i3 + ((x4.getD i6.toNat ([] : List Int)).length : Int))) < (0 : Int))) = true then
        none
      else
        slices_Concat_Lint64_int64.l3 k x2 (IntKind.i64.wrap (i3 + ((x4.getD i6.toNat ([] : List Int)).length : Int))) x4 i5 (IntKind.i64.wrap (i6 + (1 : Int)))
    else
      none
  else
    if 0 ≤ i3 ∧ i3 ≤ (bigN : Int) then
      slices_Concat_Lint64_int64.l11 k x2 (x2.length : Int) (0 : Int) ([] : List Int)
    else
      none := by kernel_rfl
theorem slices_Concat_Lint64_int64.l11_eq (k : Nat) (x7 : List (List Int)) (i8 : Int) (i9 : Int) (x10 : List Int) : slices_Concat_Lint64_int64.l11 (k + 1) x7 i8 i9 x10 =
  if (decide (i9 < i8)) = true then
    if 0 ≤ i9 ∧ i9 < (x7.length : Int) then
      if x10.length + (x7.getD i9.toNat ([] : List Int)).length ≤ bigA then
        slices_Concat_Lint64_int64.l11 k x7 i8 (IntKind.i64.wrap (i9 + (1 : Int))) (x10 ++ (x7.getD i9.toNat ([] : List Int)))
      else
        none
    else
      none
  else
    some ((x10, ()), ()) := by kernel_rfl
noncomputable def slices_Concat_Lint64_int64.T (k : Nat) (slices_1 : List (List Int)) : Option ((List Int × Unit) × (Unit)) :=
  slices_Concat_Lint64_int64.l3 k slices_1 (0 : Int) slices_1 (slices_1.length : Int) (0 : Int)
theorem slices_Concat_Lint64_int64.run (k : Nat) (slices_1 : List (List Int)) : runFn slices_Concat_Lint64_int64.cfg slices_Concat_Lint64_int64.fin slices_Concat_Lint64_int64.code (initSt slices_Concat_Lint64_int64.sig.ps (slices_1, ()) 36) k = slices_Concat_Lint64_int64.T k slices_1 := by kernel_rfl
theorem slices_Concat_Lint64_int64.of (slices_1 : List (List Int)) {r : (List Int × Unit) × (Unit)} (h : Ev (fun k => slices_Concat_Lint64_int64.T k slices_1) r) : slices_Concat_Lint64_int64.F (slices_1, ()) = some r := Ev.run (fun k => slices_Concat_Lint64_int64.run k slices_1) h
theorem slices_Concat_Lint64_int64.ok : CtxOK Go.Proofs.Tryz.prog slices_Concat_Lint64_int64.ctx := ⟨List.forall_mem_nil _, mixed_ok, tab_ok tab_good, List.forall_mem_nil _, List.forall_mem_nil _, List.forall_mem_cons.2 ⟨slices_Grow_Lint64_int64.growOK, List.forall_mem_nil _⟩⟩
theorem slices_Concat_Lint64_int64.S : Sound Go.Proofs.Tryz.prog ⟨187, slices_Concat_Lint64_int64.sig, slices_Concat_Lint64_int64.F⟩ := sound_any (fn := Go.Proofs.Tryz.f187) (code := slices_Concat_Lint64_int64.code) (g := slices_Concat_Lint64_int64.cfg) (res := [.tmp 2]) Go.Proofs.Tryz.func187 (by kernel_rfl) (by kernel_rfl) slices_Concat_Lint64_int64.ok (by kernel_rfl) (by kernel_rfl) (Nat.le_of_ble_eq_true (by kernel_rfl)) (by kernel_rfl)
noncomputable def slices_Concat_Lint64_int64.sigF : Sig := ⟨[.val false (.sl (.sl (.int .i64)))], [(.fr false, (.sl (.int .i64)), .deep)]⟩
theorem slices_Concat_Lint64_int64.SF : Sound Go.Proofs.Tryz.prog ⟨187, slices_Concat_Lint64_int64.sigF, slices_Concat_Lint64_int64.F⟩ := sound_fr slices_Concat_Lint64_int64.S
/-! ### impl_facesOf -/
noncomputable def impl_facesOf.sig : Sig := ⟨[.val false (.sl (.int .i64))], [(.val false, (.sl (.sl (.int .i64))), .shal)]⟩
noncomputable def impl_facesOf.ctx : Ctx := ⟨tabOf tabl, [⟨187, slices_Concat_Lint64_int64.sigF, slices_Concat_Lint64_int64.F⟩], [], [], [], []⟩
noncomputable def impl_facesOf.cfg : Cfg := ⟨impl_facesOf.ctx, [], [], fun id => match id with | 3 => ([0, 3, 6, 7], [12]) | _ => ([], []), fun id => match id with | 3 => [12] | _ => []⟩
noncomputable def impl_facesOf.code : Code := (Go.Proofs.Tryz.f157).body.getD .skip
noncomputable def impl_facesOf.fin := finK impl_facesOf.ctx impl_facesOf.sig [.tmp 2]
noncomputable def impl_facesOf.F (d : List Int × Unit) : Option ((List (List Int) × Unit) × (Unit)) := anyK (runFn impl_facesOf.cfg impl_facesOf.fin impl_facesOf.code (initSt impl_facesOf.sig.ps d 27))
noncomputable def impl_facesOf.l3 (k : Nat) (x2 : List Int) (i3 : Int) (i4 : Int) (x5 : List (List Int)) : Option ((List (List Int) × Unit) × (Unit)) :=
  Go.Vm.runT impl_facesOf.cfg impl_facesOf.fin k [.inLoop (sub [1, 1, 0, 1, 0, 0] impl_facesOf.code), .inBlock 0, .code (sub [1, 1, 1] impl_facesOf.code)]
    ⟨[.val false [⟨(.sl (.int .i64)), .sh, x2⟩], .dead, .dead, .view 12 (.root 0) 1 false, .dead, .dead, .val false [⟨(.int .i64), .sh, i3⟩], .val false [⟨(.int .i64), .sh, i4⟩]] ++ deads 19, [(12, ⟨false, [⟨(.sl (.sl (.int .i64))), .shal, x5⟩]⟩)]⟩
theorem impl_facesOf.l3_eq (k : Nat) (x2 : List Int) (i3 : Int) (i4 : Int) (x5 : List (List Int)) : impl_facesOf.l3 (k + 1) x2 i3 i4 x5 =
  if (decide (i4 < i3)) = true then
    if (decide ((x2.length : Int) > (1 : Int))) = true then
      if 0 ≤ (0 : Int) ∧ (0 : Int) ≤ i4 ∧ i4 ≤ (x2.length : Int) then
        if 0 ≤ (IntKind.i64.wrap (i4 + (1 : Int))) ∧ (IntKind.i64.wrap (i4 + (1 : Int))) ≤ (x2.length : Int) ∧ (x2.length : Int) ≤ (x2.length : Int) then
          (slices_Concat_Lint64_int64.F ([cutL x2 (0 : Int) i4, cutL x2 (IntKind.i64.wrap (i4 + (1 : Int))) (x2.length : Int)], ())).bind fun r6 =>
            if x5.length + ([r6.1.1] : List (List Int)).length ≤ bigA then
              impl_facesOf.l3 k x2 i3 (IntKind.i64.wrap (i4 + (1 : Int))) (x5 ++ ([r6.1.1]))
            else
              none
        else
          none
      else
        none
    else
      impl_facesOf.l3 k x2 i3 (IntKind.i64.wrap (i4 + (1 : Int))) x5
  else
    some ((x5, ()), ()) := by kernel_rfl
noncomputable def impl_facesOf.T (k : Nat) (s_1 : List Int) : Option ((List (List Int) × Unit) × (Unit)) :=
  impl_facesOf.l3 k s_1 (s_1.length : Int) (0 : Int) ([])
theorem impl_facesOf.run (k : Nat) (s_1 : List Int) : runFn impl_facesOf.cfg impl_facesOf.fin impl_facesOf.code (initSt impl_facesOf.sig.ps (s_1, ()) 27) k = impl_facesOf.T k s_1 := by kernel_rfl
theorem impl_facesOf.of (s_1 : List Int) {r : (List (List Int) × Unit) × (Unit)} (h : Ev (fun k => impl_facesOf.T k s_1) r) : impl_facesOf.F (s_1, ()) = some r := Ev.run (fun k => impl_facesOf.run k s_1) h
theorem impl_facesOf.ok : CtxOK Go.Proofs.Tryz.prog impl_facesOf.ctx := ⟨List.forall_mem_nil _, mixed_ok, tab_ok tab_good, List.forall_mem_cons.2 ⟨slices_Concat_Lint64_int64.SF, List.forall_mem_nil _⟩, List.forall_mem_nil _, List.forall_mem_nil _⟩
theorem impl_facesOf.S : Sound Go.Proofs.Tryz.prog ⟨157, impl_facesOf.sig, impl_facesOf.F⟩ := sound_any (fn := Go.Proofs.Tryz.f157) (code := impl_facesOf.code) (g := impl_facesOf.cfg) (res := [.tmp 2]) Go.Proofs.Tryz.func157 (by kernel_rfl) (by kernel_rfl) impl_facesOf.ok (by kernel_rfl) (by kernel_rfl) (Nat.le_of_ble_eq_true (by kernel_rfl)) (by kernel_rfl)
/-! ### slices_BinarySearchFunc_LLint64_Lint64_Lint64 -/
noncomputable def slices_BinarySearchFunc_LLint64_Lint64_Lint64.sig : Sig := ⟨[.val false (.sl (.sl (.int .i64))), .val false (.sl (.int .i64)), .fnx ⟨[(false, (.sl (.int .i64))), (false, (.sl (.int .i64)))], [(.val false, (.int .i64), .deep)]⟩], [(.val false, (.int .i64), .deep), (.val false, .bool, .deep)]⟩
noncomputable def slices_BinarySearchFunc_LLint64_Lint64_Lint64.ctx : Ctx := ⟨tabOf tabl, [], [], [], [], []⟩
noncomputable def slices_BinarySearchFunc_LLint64_Lint64_Lint64.cfg : Cfg := ⟨slices_BinarySearchFunc_LLint64_Lint64_Lint64.ctx, [], [], fun id => match id with | 3 => ([0, 1, 2, 8, 9, 10], []) | _ => ([], []), fun _ => []⟩
noncomputable def slices_BinarySearchFunc_LLint64_Lint64_Lint64.code : Code := (Go.Proofs.Tryz.f219).body.getD .skip
noncomputable def slices_BinarySearchFunc_LLint64_Lint64_Lint64.fin := finK slices_BinarySearchFunc_LLint64_Lint64_Lint64.ctx slices_BinarySearchFunc_LLint64_Lint64_Lint64.sig [.tmp 6, .tmp 7]
noncomputable def slices_BinarySearchFunc_LLint64_Lint64_Lint64.F (d : List (List Int) × List Int × ((List Int × List Int × Unit) → Option (Int × Unit)) × Unit) : Option ((Int × Bool × Unit) × (Unit)) := anyK (runFn slices_BinarySearchFunc_LLint64_Lint64_Lint64.cfg slices_BinarySearchFunc_LLint64_Lint64_Lint64.fin slices_BinarySearchFunc_LLint64_Lint64_Lint64.code (initSt slices_BinarySearchFunc_LLint64_Lint64_Lint64.sig.ps d 49))
noncomputable def slices_BinarySearchFunc_LLint64_Lint64_Lint64.l3 (k : Nat) (x4 : List (List Int)) (x5 : List Int) (f6 : (List Int × List Int × Unit) → Option (Int × Unit)) (i7 : Int) (i8 : Int) (i9 : Int) : Option ((Int × Bool × Unit) × (Unit)) :=
  Go.Vm.runT slices_BinarySearchFunc_LLint64_Lint64_Lint64.cfg slices_BinarySearchFunc_LLint64_Lint64_Lint64.fin k [.inLoop (sub [1, 1, 1, 0, 0, 0] slices_BinarySearchFunc_LLint64_Lint64_Lint64.code), .inBlock 0, .code (sub [1, 1, 1, 1] slices_BinarySearchFunc_LLint64_Lint64_Lint64.code)]
    ⟨[.val false [⟨(.sl (.sl (.int .i64))), .sh, x4⟩], .val false [⟨(.sl (.int .i64)), .sh, x5⟩], .fnx ⟨[(false, (.sl (.int .i64))), (false, (.sl (.int .i64)))], [(.val false, (.int .i64), .deep)]⟩ f6, .dead, .dead, .dead, .dead, .dead, .val false [⟨(.int .i64), .sh, i7⟩], .val false [⟨(.int .i64), .sh, i8⟩], .val false [⟨(.int .i64), .sh, i9⟩]] ++ deads 38, []⟩
theorem slices_BinarySearchFunc_LLint64_Lint64_Lint64.l3_eq (k : Nat) (x4 : List (List Int)) (x5 : List Int) (f6 : (List Int × List Int × Unit) → Option (Int × Unit)) (i7 : Int) (i8 : Int) (i9 : Int) : slices_BinarySearchFunc_LLint64_Lint64_Lint64.l3 (k + 1) x4 x5 f6 i7 i8 i9 =
  if (decide (i8 < i9)) = true then
    if (1 : Int) < 0 then
      none
    else
      if 0 ≤ (IntKind.i64.wrap ((IntKind.u64.wrap (IntKind.i64.wrap (i8 + i9))).fdiv (2 ^ (min (1 : Int).toNat IntKind.u64.bits)))) ∧ (IntKind.i64.wrap ((IntKind.u64.wrap (IntKind.i64.wrap (i8 + i9))).fdiv (2 ^ (min (1 : Int).toNat IntKind.u64.bits)))) < (x4.length : Int) then
        (f6 (x4.getD (IntKind.i64.wrap ((IntKind.u64.wrap (IntKind.i64.wrap (i8 + i9))).fdiv (2 ^ (min (1 : Int).toNat IntKind.u64.bits)))).toNat ([] : List Int), x5, ())).bind fun r10 =>
          if (decide ((r10.1 : Int) < (0 : Int))) = true then
            slices_BinarySearchFunc_LLint64_Lint64_Lint64.l3 k x4 x5 f6 i7 (IntKind.i64.wrap ((IntKind.i64.wrap ((IntKind.u64.wrap (IntKind.i64.wrap (i8 + i9))).fdiv (2 ^ (min (1 : Int).toNat IntKind.u64.bits)))) + (1 : Int))) i9
          else
            slices_BinarySearchFunc_LLint64_Lint64_Lint64.l3 k x4 x5 f6 i7 i8 (IntKind.i64.wrap ((IntKind.u64.wrap (IntKind.i64.wrap (i8 + i9))).fdiv (2 ^ (min (1 : Int).toNat IntKind.u64.bits))))
      else
        none
  else
    if (decide (i8 < i7)) = true then
      if 0 ≤ i8 ∧ i8 < (x4.length : Int) then
        (f6 (x4.getD i8.toNat ([] : List Int), x5, ())).bind fun r11 =>
          some ((i8, ((r11.1 : Int) == (0 : Int), ())), ())
      else
        none
    else
      some ((i8, (false, ())), ()) := by kernel_rfl
noncomputable def slices_BinarySearchFunc_LLint64_Lint64_Lint64.T (k : Nat) (x_1 : List (List Int)) (target_2 : List Int) (f_3 : (List Int × List Int × Unit) → Option (Int × Unit)) : Option ((Int × Bool × Unit) × (Unit)) :=
  slices_BinarySearchFunc_LLint64_Lint64_Lint64.l3 k x_1 target_2 f_3 (x_1.length : Int) (0 : Int) (x_1.length : Int)
theorem slices_BinarySearchFunc_LLint64_Lint64_Lint64.run (k : Nat) (x_1 : List (List Int)) (target_2 : List Int) (f_3 : (List Int × List Int × Unit) → Option (Int × Unit)) : runFn slices_BinarySearchFunc_LLint64_Lint64_Lint64.cfg slices_BinarySearchFunc_LLint64_Lint64_Lint64.fin slices_BinarySearchFunc_LLint64_Lint64_Lint64.code (initSt slices_BinarySearchFunc_LLint64_Lint64_Lint64.sig.ps (x_1, target_2, f_3, ()) 49) k = slices_BinarySearchFunc_LLint64_Lint64_Lint64.T k x_1 target_2 f_3 := by kernel_rfl
theorem slices_BinarySearchFunc_LLint64_Lint64_Lint64.of (x_1 : List (List Int)) (target_2 : List Int) (f_3 : (List Int × List Int × Unit) → Option (Int × Unit)) {r : (Int × Bool × Unit) × (Unit)} (h : Ev (fun k => slices_BinarySearchFunc_LLint64_Lint64_Lint64.T k x_1 target_2 f_3) r) : slices_BinarySearchFunc_LLint64_Lint64_Lint64.F (x_1, target_2, f_3, ()) = some r := Ev.run (fun k => slices_BinarySearchFunc_LLint64_Lint64_Lint64.run k x_1 target_2 f_3) h
theorem slices_BinarySearchFunc_LLint64_Lint64_Lint64.ok : CtxOK Go.Proofs.Tryz.prog slices_BinarySearchFunc_LLint64_Lint64_Lint64.ctx := ⟨List.forall_mem_nil _, mixed_ok, tab_ok tab_good, List.forall_mem_nil _, List.forall_mem_nil _, List.forall_mem_nil _⟩
theorem slices_BinarySearchFunc_LLint64_Lint64_Lint64.S : Sound Go.Proofs.Tryz.prog ⟨219, slices_BinarySearchFunc_LLint64_Lint64_Lint64.sig, slices_BinarySearchFunc_LLint64_Lint64_Lint64.F⟩ := sound_any (fn := Go.Proofs.Tryz.f219) (code := slices_BinarySearchFunc_LLint64_Lint64_Lint64.code) (g := slices_BinarySearchFunc_LLint64_Lint64_Lint64.cfg) (res := [.tmp 6, .tmp 7]) Go.Proofs.Tryz.func219 (by kernel_rfl) (by kernel_rfl) slices_BinarySearchFunc_LLint64_Lint64_Lint64.ok (by kernel_rfl) (by kernel_rfl) (Nat.le_of_ble_eq_true (by kernel_rfl)) (by kernel_rfl)
/-! ### impl_indexOf -/
noncomputable def impl_indexOf.sig : Sig := ⟨[.val true (.sl (.sl (.int .i64))), .val false (.sl (.int .i64))], [(.val false, (.int .i64), .deep)]⟩
noncomputable def impl_indexOf.ctx : Ctx := ⟨tabOf tabl, [⟨219, slices_BinarySearchFunc_LLint64_Lint64_Lint64.sig, slices_BinarySearchFunc_LLint64_Lint64_Lint64.F⟩], [impl_compareSimplices.clo], [], [], []⟩
noncomputable def impl_indexOf.cfg : Cfg := ⟨impl_indexOf.ctx, [], [], fun _ => ([], []), fun _ => []⟩
noncomputable def impl_indexOf.code : Code := (Go.Proofs.Tryz.f159).body.getD .skip
noncomputable def impl_indexOf.fin := finK impl_indexOf.ctx impl_indexOf.sig [.tmp 4]
noncomputable def impl_indexOf.F (d : List (List Int) × List Int × Unit) : Option ((Int × Unit) × (Unit)) := anyK (runFn impl_indexOf.cfg impl_indexOf.fin impl_indexOf.code (initSt impl_indexOf.sig.ps d 17))
noncomputable def impl_indexOf.T (c_1 : List (List Int)) (s_2 : List Int) : Option ((Int × Unit) × (Unit)) :=
  (slices_BinarySearchFunc_LLint64_Lint64_Lint64.F (c_1, s_2, impl_compareSimplices.cloG (()), ())).bind fun r3 =>
    if (!(r3.1.2.1 : Bool)) = true then
      some (((-1 : Int), ()), ())
    else
      some (((r3.1.1 : Int), ()), ())
theorem impl_indexOf.run (k : Nat) (c_1 : List (List Int)) (s_2 : List Int) : runFn impl_indexOf.cfg impl_indexOf.fin impl_indexOf.code (initSt impl_indexOf.sig.ps (c_1, s_2, ()) 17) k = impl_indexOf.T c_1 s_2 := by kernel_rfl
theorem impl_indexOf.eq (c_1 : List (List Int)) (s_2 : List Int) : impl_indexOf.F (c_1, s_2, ()) = impl_indexOf.T c_1 s_2 := (congrArg anyK (funext fun k => impl_indexOf.run k c_1 s_2)).trans (anyK_const _)
theorem impl_indexOf.ok : CtxOK Go.Proofs.Tryz.prog impl_indexOf.ctx := ⟨List.forall_mem_nil _, mixed_ok, tab_ok tab_good, List.forall_mem_cons.2 ⟨slices_BinarySearchFunc_LLint64_Lint64_Lint64.S, List.forall_mem_nil _⟩, List.forall_mem_cons.2 ⟨impl_compareSimplices.cloS, List.forall_mem_nil _⟩, List.forall_mem_nil _⟩
theorem impl_indexOf.S : Sound Go.Proofs.Tryz.prog ⟨159, impl_indexOf.sig, impl_indexOf.F⟩ := sound_any (fn := Go.Proofs.Tryz.f159) (code := impl_indexOf.code) (g := impl_indexOf.cfg) (res := [.tmp 4]) Go.Proofs.Tryz.func159 (by kernel_rfl) (by kernel_rfl) impl_indexOf.ok (by kernel_rfl) (by kernel_rfl) (Nat.le_of_ble_eq_true (by kernel_rfl)) (by kernel_rfl)
/-! ### impl_ValidComplex_1 -/
noncomputable def impl_ValidComplex_1.sig : Sig := ⟨[.val false (.sl (.int .i64)), .rptr (.sl (.sl (.int .i64))), .rptr (.int .i64)], [(.val false, .bool, .deep)]⟩
noncomputable def impl_ValidComplex_1.ctx : Ctx := ⟨tabOf tabl, [⟨159, impl_indexOf.sig, impl_indexOf.F⟩], [], [], [], []⟩
noncomputable def impl_ValidComplex_1.cfg : Cfg := ⟨impl_ValidComplex_1.ctx, [], [], fun _ => ([], []), fun _ => []⟩
noncomputable def impl_ValidComplex_1.code : Code := (Go.Proofs.Tryz.f158).body.getD .skip
noncomputable def impl_ValidComplex_1.fin := finK impl_ValidComplex_1.ctx impl_ValidComplex_1.sig [.tmp 4]
noncomputable def impl_ValidComplex_1.F (d : List Int × List (List Int) × Int × Unit) : Option ((Bool × Unit) × (Unit)) := anyK (runFn impl_ValidComplex_1.cfg impl_ValidComplex_1.fin impl_ValidComplex_1.code (initSt impl_ValidComplex_1.sig.ps d 13))
noncomputable def impl_ValidComplex_1.T (f_1 : List Int) (a_2 : List (List Int)) (a_3 : Int) : Option ((Bool × Unit) × (Unit)) :=
  if 0 ≤ (0 : Int) ∧ (0 : Int) ≤ a_3 ∧ a_3 ≤ (a_2.length : Int) then
    (impl_indexOf.F (cutL a_2 (0 : Int) a_3, f_1, ())).bind fun r4 =>
      some ((decide ((r4.1.1 : Int) < (0 : Int)), ()), ())
  else
    none
theorem impl_ValidComplex_1.run (k : Nat) (f_1 : List Int) (a_2 : List (List Int)) (a_3 : Int) : runFn impl_ValidComplex_1.cfg impl_ValidComplex_1.fin impl_ValidComplex_1.code (initSt impl_ValidComplex_1.sig.ps (f_1, a_2, a_3, ()) 13) k = impl_ValidComplex_1.T f_1 a_2 a_3 := by kernel_rfl
theorem impl_ValidComplex_1.eq (f_1 : List Int) (a_2 : List (List Int)) (a_3 : Int) : impl_ValidComplex_1.F (f_1, a_2, a_3, ()) = impl_ValidComplex_1.T f_1 a_2 a_3 := (congrArg anyK (funext fun k => impl_ValidComplex_1.run k f_1 a_2 a_3)).trans (anyK_const _)
theorem impl_ValidComplex_1.ok : CtxOK Go.Proofs.Tryz.prog impl_ValidComplex_1.ctx := ⟨List.forall_mem_nil _, mixed_ok, tab_ok tab_good, List.forall_mem_cons.2 ⟨impl_indexOf.S, List.forall_mem_nil _⟩, List.forall_mem_nil _, List.forall_mem_nil _⟩
theorem impl_ValidComplex_1.S : Sound Go.Proofs.Tryz.prog ⟨158, impl_ValidComplex_1.sig, impl_ValidComplex_1.F⟩ := sound_any (fn := Go.Proofs.Tryz.f158) (code := impl_ValidComplex_1.code) (g := impl_ValidComplex_1.cfg) (res := [.tmp 4]) Go.Proofs.Tryz.func158 (by kernel_rfl) (by kernel_rfl) impl_ValidComplex_1.ok (by kernel_rfl) (by kernel_rfl) (Nat.le_of_ble_eq_true (by kernel_rfl)) (by kernel_rfl)
noncomputable def impl_ValidComplex_1.cloG (y : List (List Int) × Int × Unit) (d : List Int × Unit) : Option (Bool × Unit) := (impl_ValidComplex_1.F (joinIns [.rptr (.sl (.sl (.int .i64))), .rptr (.int .i64)] [(false, (.sl (.int .i64)))] d y)).map (·.1)
noncomputable def impl_ValidComplex_1.clo : Clo := ⟨158, ⟨[(false, (.sl (.int .i64)))], [(.val false, .bool, .deep)]⟩, [.rptr (.sl (.sl (.int .i64))), .rptr (.int .i64)], impl_ValidComplex_1.cloG⟩
theorem impl_ValidComplex_1.cloS : SoundClo Go.Proofs.Tryz.prog impl_ValidComplex_1.clo := sound_clo (s := ⟨[(false, (.sl (.int .i64)))], [(.val false, .bool, .deep)]⟩) (caps := [.rptr (.sl (.sl (.int .i64))), .rptr (.int .i64)]) rfl impl_ValidComplex_1.S
/-! ### impl_ValidComplex -/
noncomputable def impl_ValidComplex.sig : Sig := ⟨[.val true (.sl (.sl (.int .i64)))], [(.val false, .bool, .deep)]⟩
noncomputable def impl_ValidComplex.ctx : Ctx := ⟨tabOf tabl, [⟨154, impl_ValidSimplex.sig, impl_ValidSimplex.F⟩, ⟨155, impl_compareSimplices.sig, impl_compareSimplices.F⟩, ⟨156, slices_ContainsFunc_LLint64_Lint64.sig, slices_ContainsFunc_LLint64_Lint64.F⟩, ⟨157, impl_facesOf.sig, impl_facesOf.F⟩], [impl_ValidComplex_1.clo], [], [], []⟩
noncomputable def impl_ValidComplex.cfg : Cfg := ⟨impl_ValidComplex.ctx, [], [], fun id => match id with | 2 => ([1, 6, 7, 8], [4]) | _ => ([], []), fun _ => []⟩
noncomputable def impl_ValidComplex.code : Code := (Go.Proofs.Tryz.f84).body.getD .skip
noncomputable def impl_ValidComplex.fin := finK impl_ValidComplex.ctx impl_ValidComplex.sig [.tmp 2]
noncomputable def impl_ValidComplex.F (d : List (List Int) × Unit) : Option ((Bool × Unit) × (Unit)) := anyK (runFn impl_ValidComplex.cfg impl_ValidComplex.fin impl_ValidComplex.code (initSt impl_ValidComplex.sig.ps d 40))
noncomputable def impl_ValidComplex.l2 (k : Nat) (x2 : List (List Int)) (i3 : Int) (i4 : Int) (x5 : List (List Int)) : Option ((Bool × Unit) × (Unit)) :=
  Go.Vm.runT impl_ValidComplex.cfg impl_ValidComplex.fin k [.inLoop (sub [1, 0, 1, 0, 0] impl_ValidComplex.code), .inBlock 0, .code (sub [1, 1] impl_ValidComplex.code)]
    ⟨[.dead, .ref 4 (.root 0), .dead, .dead, .dead, .dead, .val false [⟨(.sl (.sl (.int .i64))), .sh, x2⟩], .val false [⟨(.int .i64), .sh, i3⟩], .val false [⟨(.int .i64), .sh, i4⟩]] ++ deads 31, [(4, ⟨true, [⟨(.sl (.sl (.int .i64))), .sh, x5⟩]⟩)]⟩
theorem impl_ValidComplex.l2_eq (k : Nat) (x2 : List (List Int)) (i3 : Int) (i4 : Int) (x5 : List (List Int)) : impl_ValidComplex.l2 (k + 1) x2 i3 i4 x5 =
  if (decide (i4 < i3)) = true then
    if 0 ≤ i4 ∧ i4 < (x2.length : Int) then
      (impl_ValidSimplex.F (x2.getD i4.toNat ([] : List Int), ())).bind fun r6 =>
        if (!(r6.1.1 : Bool)) = true then
          some ((false, ()), ())
        else
          if (decide (i4 > (0 : Int))) = true then
            if 0 ≤ (IntKind.i64.wrap (i4 - (1 : Int))) ∧ (IntKind.i64.wrap (i4 - (1 : Int))) < (x5.length : Int) then
              (impl_compareSimplices.F (x5.getD (IntKind.i64.wrap (i4 - (1 : Int))).toNat ([] : List Int), x2.getD i4.toNat ([] : List Int), ())).bind fun r7 =>
                if (decide ((r7.1.1 : Int) ≥ (0 : Int))) = true then
                  some ((false, ()), ())
                else
                  (impl_facesOf.F (x2.getD i4.toNat ([] : List Int), ())).bind fun r8 =>
                    (slices_ContainsFunc_LLint64_Lint64.F (r8.1.1, impl_ValidComplex_1.cloG (x5, i4, ()), ())).bind fun r9 =>
                      if (r9.1.1 : Bool) = true then
                        some ((false, ()), ())
                      else
                        impl_ValidComplex.l2 k x2 i3 (IntKind.i64.wrap (i4 + (1 : Int))) x5
            else
              none
          else
            (impl_facesOf.F (x2.getD i4.toNat ([] : List Int), ())).bind fun r10 =>
              (slices_ContainsFunc_LLint64_Lint64.F (r10.1.1, impl_ValidComplex_1.cloG (x5, i4, ()), ())).bind fun r11 =>
                if (r11.1.1 : Bool) = true then
                  some ((false, ()), ())
                else
                  impl_ValidComplex.l2 k x2 i3 (IntKind.i64.wrap (i4 + (1 : Int))) x5
    else
      none
  else
    some ((decide ((x5.length : Int) ≤ (48 : Int)), ()), ()) := by kernel_rfl
noncomputable def impl_ValidComplex.T (k : Nat) (c_1 : List (List Int)) : Option ((Bool × Unit) × (Unit)) :=
  impl_ValidComplex.l2 k c_1 (c_1.length : Int) (0 : Int) c_1
theorem impl_ValidComplex.run (k : Nat) (c_1 : List (List Int)) : runFn impl_ValidComplex.cfg impl_ValidComplex.fin impl_ValidComplex.code (initSt impl_ValidComplex.sig.ps (c_1, ()) 40) k = impl_ValidComplex.T k c_1 := by kernel_rfl
theorem impl_ValidComplex.of (c_1 : List (List Int)) {r : (Bool × Unit) × (Unit)} (h : Ev (fun k => impl_ValidComplex.T k c_1) r) : impl_ValidComplex.F (c_1, ()) = some r := Ev.run (fun k => impl_ValidComplex.run k c_1) h
theorem impl_ValidComplex.ok : CtxOK Go.Proofs.Tryz.prog impl_ValidComplex.ctx := ⟨List.forall_mem_nil _, mixed_ok, tab_ok tab_good, List.forall_mem_cons.2 ⟨impl_ValidSimplex.S, List.forall_mem_cons.2 ⟨impl_compareSimplices.S, List.forall_mem_cons.2 ⟨slices_ContainsFunc_LLint64_Lint64.S, List.forall_mem_cons.2 ⟨impl_facesOf.S, List.forall_mem_nil _⟩⟩⟩⟩, List.forall_mem_cons.2 ⟨impl_ValidComplex_1.cloS, List.forall_mem_nil _⟩, List.forall_mem_nil _⟩
theorem impl_ValidComplex.S : Sound Go.Proofs.Tryz.prog ⟨84, impl_ValidComplex.sig, impl_ValidComplex.F⟩ := sound_any (fn := Go.Proofs.Tryz.f84) (code := impl_ValidComplex.code) (g := impl_ValidComplex.cfg) (res := [.tmp 2]) Go.Proofs.Tryz.func84 (by kernel_rfl) (by kernel_rfl) impl_ValidComplex.ok (by kernel_rfl) (by kernel_rfl) (Nat.le_of_ble_eq_true (by kernel_rfl)) (by kernel_rfl)
/-! ### impl_size_Lint64 -/
noncomputable def impl_size_Lint64.sig : Sig := ⟨[.val false (.sl (.sl (.int .i64)))], [(.val false, (.int .i64), .deep)]⟩
noncomputable def impl_size_Lint64.ctx : Ctx := ⟨tabOf tabl, [], [], [], [], []⟩
noncomputable def impl_size_Lint64.cfg : Cfg := ⟨impl_size_Lint64.ctx, [], [], fun _ => ([], []), fun _ => []⟩
noncomputable def impl_size_Lint64.code : Code := (Go.Proofs.Tryz.f183).body.getD .skip
noncomputable def impl_size_Lint64.fin := finK impl_size_Lint64.ctx impl_size_Lint64.sig [.tmp 2]
noncomputable def impl_size_Lint64.F (d : List (List Int) × Unit) : Option ((Int × Unit) × (Unit)) := anyK (runFn impl_size_Lint64.cfg impl_size_Lint64.fin impl_size_Lint64.code (initSt impl_size_Lint64.sig.ps d 5))
noncomputable def impl_size_Lint64.T (list_1 : List (List Int)) : Option ((Int × Unit) × (Unit)) :=
  some (((list_1.length : Int), ()), ())
theorem impl_size_Lint64.run (k : Nat) (list_1 : List (List Int)) : runFn impl_size_Lint64.cfg impl_size_Lint64.fin impl_size_Lint64.code (initSt impl_size_Lint64.sig.ps (list_1, ()) 5) k = impl_size_Lint64.T list_1 := by kernel_rfl
theorem impl_size_Lint64.eq (list_1 : List (List Int)) : impl_size_Lint64.F (list_1, ()) = impl_size_Lint64.T list_1 := (congrArg anyK (funext fun k => impl_size_Lint64.run k list_1)).trans (anyK_const _)
theorem impl_size_Lint64.ok : CtxOK Go.Proofs.Tryz.prog impl_size_Lint64.ctx := ⟨List.forall_mem_nil _, mixed_ok, tab_ok tab_good, List.forall_mem_nil _, List.forall_mem_nil _, List.forall_mem_nil _⟩
theorem impl_size_Lint64.S : Sound Go.Proofs.Tryz.prog ⟨183, impl_size_Lint64.sig, impl_size_Lint64.F⟩ := sound_any (fn := Go.Proofs.Tryz.f183) (code := impl_size_Lint64.code) (g := impl_size_Lint64.cfg) (res := [.tmp 2]) Go.Proofs.Tryz.func183 (by kernel_rfl) (by kernel_rfl) impl_size_Lint64.ok (by kernel_rfl) (by kernel_rfl) (Nat.le_of_ble_eq_true (by kernel_rfl)) (by kernel_rfl)
/-! ### impl_faceIndices -/
noncomputable def impl_faceIndices.sig : Sig := ⟨[.val true (.sl (.sl (.int .i64))), .val false (.int .i64)], [(.val false, (.sl (.int .i64)), .deep)]⟩
noncomputable def impl_faceIndices.ctx : Ctx := ⟨tabOf tabl, [⟨157, impl_facesOf.sig, impl_facesOf.F⟩, ⟨159, impl_indexOf.sig, impl_indexOf.F⟩], [], [], [], []⟩
noncomputable def impl_faceIndices.cfg : Cfg := ⟨impl_faceIndices.ctx, [], [], fun id => match id with | 3 => ([2, 5, 13, 14, 15], [8, 20, 52]) | _ => ([], []), fun _ => []⟩
noncomputable def impl_faceIndices.code : Code := (Go.Proofs.Tryz.f184).body.getD .skip
noncomputable def impl_faceIndices.fin := finK impl_faceIndices.ctx impl_faceIndices.sig [.tmp 4]
noncomputable def impl_faceIndices.F (d : List (List Int) × Int × Unit) : Option ((List Int × Unit) × (Unit)) := anyK (runFn impl_faceIndices.cfg impl_faceIndices.fin impl_faceIndices.code (initSt impl_faceIndices.sig.ps d 27))
noncomputable def impl_faceIndices.l3 (k : Nat) (i4 : Int) (i5 : Int) (x6 : List (List Int)) (x7 : List Int) (x8 : List (List Int)) : Option ((List Int × Unit) × (Unit)) :=
  Go.Vm.runT impl_faceIndices.cfg impl_faceIndices.fin k [.inLoop (sub [1, 1, 0, 1, 0, 0] impl_faceIndices.code), .inBlock 0, .code (sub [1, 1, 1] impl_faceIndices.code)]
    ⟨[.dead, .dead, .ref 8 (.root 0), .dead, .dead, .view 20 (.root 0) 1 false, .dead, .dead, .dead, .dead, .dead, .dead, .dead, .view 52 (.root 0) 1 false, .val false [⟨(.int .i64), .sh, i4⟩], .val false [⟨(.int .i64), .sh, i5⟩]] ++ deads 11, [(8, ⟨true, [⟨(.sl (.sl (.int .i64))), .sh, x6⟩]⟩), (20, ⟨false, [⟨(.sl (.int .i64)), .deep, x7⟩]⟩), (52, ⟨false, [⟨(.sl (.sl (.int .i64))), .shal, x8⟩]⟩)]⟩
theorem impl_faceIndices.l3_eq (k : Nat) (i4 : Int) (i5 : Int) (x6 : List (List Int)) (x7 : List Int) (x8 : List (List Int)) : impl_faceIndices.l3 (k + 1) i4 i5 x6 x7 x8 =
  if (decide (i5 < i4)) = true then
    if 0 ≤ i5 ∧ i5 < (x8.length : Int) then
      (impl_indexOf.F (x6, x8.getD i5.toNat ([] : List Int), ())).bind fun r9 =>
        if x7.length + ([(r9.1.1 : Int)] : List Int).length ≤ bigA then
          impl_faceIndices.l3 k i4 (IntKind.i64.wrap (i5 + (1 : Int))) x6 (x7 ++ ([(r9.1.1 : Int)])) x8
        else
          none
    else
      none
  else
    some ((x7, ()), ()) := by kernel_rfl
noncomputable def impl_faceIndices.T (k : Nat) (c_1 : List (List Int)) (k_2 : Int) : Option ((List Int × Unit) × (Unit)) :=
  if 0 ≤ k_2 ∧ k_2 < (c_1.length : Int) then
    (impl_facesOf.F (c_1.getD k_2.toNat ([] : List Int), ())).bind fun r3 =>
      impl_faceIndices.l3 k (r3.1.1.length : Int) (0 : Int) c_1 ([]) r3.1.1
  else
    none
theorem impl_faceIndices.run (k : Nat) (c_1 : List (List Int)) (k_2 : Int) : runFn impl_faceIndices.cfg impl_faceIndices.fin impl_faceIndices.code (initSt impl_faceIndices.sig.ps (c_1, k_2, ()) 27) k = impl_faceIndices.T k c_1 k_2 := by kernel_rfl
theorem impl_faceIndices.of (c_1 : List (List Int)) (k_2 : Int) {r : (List Int × Unit) × (Unit)} (h : Ev (fun k => impl_faceIndices.T k c_1 k_2) r) : impl_faceIndices.F (c_1, k_2, ()) = some r := Ev.run (fun k => impl_faceIndices.run k c_1 k_2) h
theorem impl_faceIndices.ok : CtxOK Go.Proofs.Tryz.prog impl_faceIndices.ctx := ⟨List.forall_mem_nil _, mixed_ok, tab_ok tab_good, List.forall_mem_cons.2 ⟨impl_facesOf.S, List.forall_mem_cons.2 ⟨impl_indexOf.S, List.forall_mem_nil _⟩⟩, List.forall_mem_nil _, List.forall_mem_nil _⟩
theorem impl_faceIndices.S : Sound Go.Proofs.Tryz.prog ⟨184, impl_faceIndices.sig, impl_faceIndices.F⟩ := sound_any (fn := Go.Proofs.Tryz.f184) (code := impl_faceIndices.code) (g := impl_faceIndices.cfg) (res := [.tmp 4]) Go.Proofs.Tryz.func184 (by kernel_rfl) (by kernel_rfl) impl_faceIndices.ok (by kernel_rfl) (by kernel_rfl) (Nat.le_of_ble_eq_true (by kernel_rfl)) (by kernel_rfl)
/-! ### impl_arrows -/
noncomputable def impl_arrows.sig : Sig := ⟨[.val true (.sl (.sl (.int .i64)))], [(.val false, (.sl TEdge), .deep)]⟩
noncomputable def impl_arrows.ctx : Ctx := ⟨tabOf tabl, [⟨183, impl_size_Lint64.sig, impl_size_Lint64.F⟩, ⟨184, impl_faceIndices.sig, impl_faceIndices.F⟩], [], [], [], []⟩
noncomputable def impl_arrows.cfg : Cfg := ⟨impl_arrows.ctx, [], [], fun id => match id with | 3 => ([1, 3, 9, 10], [4, 12]) | 6 => ([1, 3, 4, 9, 10, 15, 16, 17], [4, 12, 60]) | _ => ([], []), fun _ => []⟩
noncomputable def impl_arrows.code : Code := (Go.Proofs.Tryz.f109).body.getD .skip
noncomputable def impl_arrows.fin := finK impl_arrows.ctx impl_arrows.sig [.tmp 2]
noncomputable def impl_arrows.F (d : List (List Int) × Unit) : Option ((List (Int × Int × Int) × Unit) × (Unit)) := anyK (runFn impl_arrows.cfg impl_arrows.fin impl_arrows.code (initSt impl_arrows.sig.ps d 32))
noncomputable def impl_arrows.l3 (k : Nat) (i3 : Int) (i4 : Int) (x5 : List (List Int)) (x6 : List (Int × Int × Int)) : Option ((List (Int × Int × Int) × Unit) × (Unit)) :=
  Go.Vm.runT impl_arrows.cfg impl_arrows.fin k [.inLoop (sub [1, 1, 0, 1, 0, 0] impl_arrows.code), .inBlock 0, .code (sub [1, 1, 1] impl_arrows.code)]
    ⟨[.dead, .ref 4 (.root 0), .dead, .view 12 (.root 0) 1 false, .dead, .dead, .dead, .dead, .dead, .val false [⟨(.int .i64), .sh, i3⟩], .val false [⟨(.int .i64), .sh, i4⟩]] ++ deads 21, [(4, ⟨true, [⟨(.sl (.sl (.int .i64))), .sh, x5⟩]⟩), (12, ⟨false, [⟨(.sl TEdge), .deep, x6⟩]⟩)]⟩
noncomputable def impl_arrows.l6 (k : Nat) (i8 : Int) (i9 : Int) (i10 : Int) (i11 : Int) (i12 : Int) (x13 : List (List Int)) (x14 : List (Int × Int × Int)) (x15 : List Int) : Option ((List (Int × Int × Int) × Unit) × (Unit)) :=
  Go.Vm.runT impl_arrows.cfg impl_arrows.fin k [.inLoop (sub [1, 1, 0, 1, 0, 0, 1, 1, 0, 0, 1, 1, 0, 0] impl_arrows.code), .inBlock 2, .inBlock 1, .code (sub [1, 1, 0, 1, 0, 0, 1, 1, 1] impl_arrows.code), .inLoop (sub [1, 1, 0, 1, 0, 0] impl_arrows.code), .inBlock 0, .code (sub [1, 1, 1] impl_arrows.code)]
    ⟨[.dead, .ref 4 (.root 0), .dead, .view 12 (.root 0) 1 false, .val false [⟨(.int .i64), .sh, i8⟩], .dead, .dead, .dead, .dead, .val false [⟨(.int .i64), .sh, i9⟩], .val false [⟨(.int .i64), .sh, i10⟩], .dead, .dead, .dead, .dead, .view 60 (.root 0) 1 false, .val false [⟨(.int .i64), .sh, i11⟩], .val false [⟨(.int .i64), .sh, i12⟩]] ++ deads 14, [(4, ⟨true, [⟨(.sl (.sl (.int .i64))), .sh, x13⟩]⟩), (12, ⟨false, [⟨(.sl TEdge), .deep, x14⟩]⟩), (60, ⟨false, [⟨(.sl (.int .i64)), .deep, x15⟩]⟩)]⟩
theorem impl_arrows.l3_eq (k : Nat) (i3 : Int) (i4 : Int) (x5 : List (List Int)) (x6 : List (Int × Int × Int)) : impl_arrows.l3 (k + 1) i3 i4 x5 x6 =
  if (decide (i4 < i3)) = true then
    (impl_faceIndices.F (x5, i4, ())).bind fun r7 =>
      impl_arrows.l6 k i4 i3 i4 (r7.1.1.length : Int) (0 : Int) x5 x6 r7.1.1
  else
    some ((x6, ()), ()) := by kernel_rfl
theorem impl_arrows.l6_eq (k : Nat) (i8 : Int) (i9 : Int) (i10 : Int) (i11 : Int) (i12 : Int) (x13 : List (List Int)) (x14 : List (Int × Int × Int)) (x15 : List Int) : impl_arrows.l6 (k + 1) i8 i9 i10 i11 i12 x13 x14 x15 =
  if (decide (i12 < i11)) = true then
    if 0 ≤ i12 ∧ i12 < (x15.length : Int) then
      if x14.length + ([(i8, (i12, (x15.getD i12.toNat 0 : Int)))] : List (Int × Int × Int)).length ≤ bigA then
        impl_arrows.l6 k i8 i9 i10 i11 (IntKind.i64.wrap (i12 + (1 : Int))) x13 (x14 ++ ([(i8, (i12, (x15.getD i12.toNat 0 : Int)))])) x15
      else
        none
    else
      none
  else
    impl_arrows.l3 k i9 (IntKind.i64.wrap (i10 + (1 : Int))) x13 x14 := by kernel_rfl
noncomputable def impl_arrows.T (k : Nat) (c_1 : List (List Int)) : Option ((List (Int × Int × Int) × Unit) × (Unit)) :=
  (impl_size_Lint64.F (c_1, ())).bind fun r2 =>
    impl_arrows.l3 k (r2.1.1 : Int) (0 : Int) c_1 ([])
theorem impl_arrows.run (k : Nat) (c_1 : List (List Int)) : runFn impl_arrows.cfg impl_arrows.fin impl_arrows.code (initSt impl_arrows.sig.ps (c_1, ()) 32) k = impl_arrows.T k c_1 := by kernel_rfl
theorem impl_arrows.of (c_1 : List (List Int)) {r : (List (Int × Int × Int) × Unit) × (Unit)} (h : Ev (fun k => impl_arrows.T k c_1) r) : impl_arrows.F (c_1, ()) = some r := Ev.run (fun k => impl_arrows.run k c_1) h
theorem impl_arrows.ok : CtxOK Go.Proofs.Tryz.prog impl_arrows.ctx := ⟨List.forall_mem_nil _, mixed_ok, tab_ok tab_good, List.forall_mem_cons.2 ⟨impl_size_Lint64.S, List.forall_mem_cons.2 ⟨impl_faceIndices.S, List.forall_mem_nil _⟩⟩, List.forall_mem_nil _, List.forall_mem_nil _⟩
theorem impl_arrows.S : Sound Go.Proofs.Tryz.prog ⟨109, impl_arrows.sig, impl_arrows.F⟩ := sound_any (fn := Go.Proofs.Tryz.f109) (code := impl_arrows.code) (g := impl_arrows.cfg) (res := [.tmp 2]) Go.Proofs.Tryz.func109 (by kernel_rfl) (by kernel_rfl) impl_arrows.ok (by kernel_rfl) (by kernel_rfl) (Nat.le_of_ble_eq_true (by kernel_rfl)) (by kernel_rfl)
/-! ### impl_size_int64 -/
noncomputable def impl_size_int64.sig : Sig := ⟨[.val false (.sl (.int .i64))], [(.val false, (.int .i64), .deep)]⟩
noncomputable def impl_size_int64.ctx : Ctx := ⟨tabOf tabl, [], [], [], [], []⟩
noncomputable def impl_size_int64.cfg : Cfg := ⟨impl_size_int64.ctx, [], [], fun _ => ([], []), fun _ => []⟩
noncomputable def impl_size_int64.code : Code := (Go.Proofs.Tryz.f161).body.getD .skip
noncomputable def impl_size_int64.fin := finK impl_size_int64.ctx impl_size_int64.sig [.tmp 2]
noncomputable def impl_size_int64.F (d : List Int × Unit) : Option ((Int × Unit) × (Unit)) := anyK (runFn impl_size_int64.cfg impl_size_int64.fin impl_size_int64.code (initSt impl_size_int64.sig.ps d 5))
noncomputable def impl_size_int64.T (list_1 : List Int) : Option ((Int × Unit) × (Unit)) :=
  some (((list_1.length : Int), ()), ())
theorem impl_size_int64.run (k : Nat) (list_1 : List Int) : runFn impl_size_int64.cfg impl_size_int64.fin impl_size_int64.code (initSt impl_size_int64.sig.ps (list_1, ()) 5) k = impl_size_int64.T list_1 := by kernel_rfl
theorem impl_size_int64.eq (list_1 : List Int) : impl_size_int64.F (list_1, ()) = impl_size_int64.T list_1 := (congrArg anyK (funext fun k => impl_size_int64.run k list_1)).trans (anyK_const _)
theorem impl_size_int64.ok : CtxOK Go.Proofs.Tryz.prog impl_size_int64.ctx := ⟨List.forall_mem_nil _, mixed_ok, tab_ok tab_good, List.forall_mem_nil _, List.forall_mem_nil _, List.forall_mem_nil _⟩
theorem impl_size_int64.S : Sound Go.Proofs.Tryz.prog ⟨161, impl_size_int64.sig, impl_size_int64.F⟩ := sound_any (fn := Go.Proofs.Tryz.f161) (code := impl_size_int64.code) (g := impl_size_int64.cfg) (res := [.tmp 2]) Go.Proofs.Tryz.func161 (by kernel_rfl) (by kernel_rfl) impl_size_int64.ok (by kernel_rfl) (by kernel_rfl) (Nat.le_of_ble_eq_true (by kernel_rfl)) (by kernel_rfl)
/-! ### impl_isElement -/
noncomputable def impl_isElement.sig : Sig := ⟨[.val false (.int .i64), .val false (.int .i64)], [(.val false, .bool, .deep)]⟩
noncomputable def impl_isElement.ctx : Ctx := ⟨tabOf tabl, [⟨160, impl_within.sig, impl_within.F⟩], [], [], [], []⟩
noncomputable def impl_isElement.cfg : Cfg := ⟨impl_isElement.ctx, [], [], fun _ => ([], []), fun _ => []⟩
noncomputable def impl_isElement.code : Code := (Go.Proofs.Tryz.f221).body.getD .skip
noncomputable def impl_isElement.fin := finK impl_isElement.ctx impl_isElement.sig [.tmp 4]
noncomputable def impl_isElement.F (d : Int × Int × Unit) : Option ((Bool × Unit) × (Unit)) := anyK (runFn impl_isElement.cfg impl_isElement.fin impl_isElement.code (initSt impl_isElement.sig.ps d 9))
noncomputable def impl_isElement.T (a_1 : Int) (p_2 : Int) : Option ((Bool × Unit) × (Unit)) :=
  (impl_within.F (a_1, (0 : Int), IntKind.i64.wrap (p_2 - (1 : Int)), ())).bind fun r3 =>
    some (((r3.1.1 : Bool), ()), ())
theorem impl_isElement.run (k : Nat) (a_1 : Int) (p_2 : Int) : runFn impl_isElement.cfg impl_isElement.fin impl_isElement.code (initSt impl_isElement.sig.ps (a_1, p_2, ()) 9) k = impl_isElement.T a_1 p_2 := by kernel_rfl
theorem impl_isElement.eq (a_1 : Int) (p_2 : Int) : impl_isElement.F (a_1, p_2, ()) = impl_isElement.T a_1 p_2 := (congrArg anyK (funext fun k => impl_isElement.run k a_1 p_2)).trans (anyK_const _)
theorem impl_isElement.ok : CtxOK Go.Proofs.Tryz.prog impl_isElement.ctx := ⟨List.forall_mem_nil _, mixed_ok, tab_ok tab_good, List.forall_mem_cons.2 ⟨impl_within.S, List.forall_mem_nil _⟩, List.forall_mem_nil _, List.forall_mem_nil _⟩
theorem impl_isElement.S : Sound Go.Proofs.Tryz.prog ⟨221, impl_isElement.sig, impl_isElement.F⟩ := sound_any (fn := Go.Proofs.Tryz.f221) (code := impl_isElement.code) (g := impl_isElement.cfg) (res := [.tmp 4]) Go.Proofs.Tryz.func221 (by kernel_rfl) (by kernel_rfl) impl_isElement.ok (by kernel_rfl) (by kernel_rfl) (Nat.le_of_ble_eq_true (by kernel_rfl)) (by kernel_rfl)
/-! ### impl_areElements_1 -/
noncomputable def impl_areElements_1.sig : Sig := ⟨[.val false (.int .i64), .rptr (.int .i64)], [(.val false, .bool, .deep)]⟩
noncomputable def impl_areElements_1.ctx : Ctx := ⟨tabOf tabl, [⟨221, impl_isElement.sig, impl_isElement.F⟩], [], [], [], []⟩
noncomputable def impl_areElements_1.cfg : Cfg := ⟨impl_areElements_1.ctx, [], [], fun _ => ([], []), fun _ => []⟩
noncomputable def impl_areElements_1.code : Code := (Go.Proofs.Tryz.f220).body.getD .skip
noncomputable def impl_areElements_1.fin := finK impl_areElements_1.ctx impl_areElements_1.sig [.tmp 3]
noncomputable def impl_areElements_1.F (d : Int × Int × Unit) : Option ((Bool × Unit) × (Unit)) := anyK (runFn impl_areElements_1.cfg impl_areElements_1.fin impl_areElements_1.code (initSt impl_areElements_1.sig.ps d 8))
noncomputable def impl_areElements_1.T (a_1 : Int) (a_2 : Int) : Option ((Bool × Unit) × (Unit)) :=
  (impl_isElement.F (a_1, a_2, ())).bind fun r3 =>
    some ((!(r3.1.1 : Bool), ()), ())
theorem impl_areElements_1.run (k : Nat) (a_1 : Int) (a_2 : Int) : runFn impl_areElements_1.cfg impl_areElements_1.fin impl_areElements_1.code (initSt impl_areElements_1.sig.ps (a_1, a_2, ()) 8) k = impl_areElements_1.T a_1 a_2 := by kernel_rfl
theorem impl_areElements_1.eq (a_1 : Int) (a_2 : Int) : impl_areElements_1.F (a_1, a_2, ()) = impl_areElements_1.T a_1 a_2 := (congrArg anyK (funext fun k => impl_areElements_1.run k a_1 a_2)).trans (anyK_const _)
theorem impl_areElements_1.ok : CtxOK Go.Proofs.Tryz.prog impl_areElements_1.ctx := ⟨List.forall_mem_nil _, mixed_ok, tab_ok tab_good, List.forall_mem_cons.2 ⟨impl_isElement.S, List.forall_mem_nil _⟩, List.forall_mem_nil _, List.forall_mem_nil _⟩
theorem impl_areElements_1.S : Sound Go.Proofs.Tryz.prog ⟨220, impl_areElements_1.sig, impl_areElements_1.F⟩ := sound_any (fn := Go.Proofs.Tryz.f220) (code := impl_areElements_1.code) (g := impl_areElements_1.cfg) (res := [.tmp 3]) Go.Proofs.Tryz.func220 (by kernel_rfl) (by kernel_rfl) impl_areElements_1.ok (by kernel_rfl) (by kernel_rfl) (Nat.le_of_ble_eq_true (by kernel_rfl)) (by kernel_rfl)
noncomputable def impl_areElements_1.cloG (y : Int × Unit) (d : Int × Unit) : Option (Bool × Unit) := (impl_areElements_1.F (joinIns [.rptr (.int .i64)] [(false, (.int .i64))] d y)).map (·.1)
noncomputable def impl_areElements_1.clo : Clo := ⟨220, ⟨[(false, (.int .i64))], [(.val false, .bool, .deep)]⟩, [.rptr (.int .i64)], impl_areElements_1.cloG⟩
theorem impl_areElements_1.cloS : SoundClo Go.Proofs.Tryz.prog impl_areElements_1.clo := sound_clo (s := ⟨[(false, (.int .i64))], [(.val false, .bool, .deep)]⟩) (caps := [.rptr (.int .i64)]) rfl impl_areElements_1.S
/-! ### impl_areElements -/
noncomputable def impl_areElements.sig : Sig := ⟨[.val false (.sl (.int .i64)), .val false (.int .i64)], [(.val false, .bool, .deep)]⟩
noncomputable def impl_areElements.ctx : Ctx := ⟨tabOf tabl, [⟨212, slices_ContainsFunc_Lint64_int64.sig, slices_ContainsFunc_Lint64_int64.F⟩], [impl_areElements_1.clo], [], [], []⟩
noncomputable def impl_areElements.cfg : Cfg := ⟨impl_areElements.ctx, [], [], fun _ => ([], []), fun _ => []⟩
noncomputable def impl_areElements.code : Code := (Go.Proofs.Tryz.f162).body.getD .skip
noncomputable def impl_areElements.fin := finK impl_areElements.ctx impl_areElements.sig [.tmp 4]
noncomputable def impl_areElements.F (d : List Int × Int × Unit) : Option ((Bool × Unit) × (Unit)) := anyK (runFn impl_areElements.cfg impl_areElements.fin impl_areElements.code (initSt impl_areElements.sig.ps d 9))
noncomputable def impl_areElements.T (list_1 : List Int) (p_2 : Int) : Option ((Bool × Unit) × (Unit)) :=
  (slices_ContainsFunc_Lint64_int64.F (list_1, impl_areElements_1.cloG (p_2, ()), ())).bind fun r3 =>
    some ((!(r3.1.1 : Bool), ()), ())
theorem impl_areElements.run (k : Nat) (list_1 : List Int) (p_2 : Int) : runFn impl_areElements.cfg impl_areElements.fin impl_areElements.code (initSt impl_areElements.sig.ps (list_1, p_2, ()) 9) k = impl_areElements.T list_1 p_2 := by kernel_rfl
theorem impl_areElements.eq (list_1 : List Int) (p_2 : Int) : impl_areElements.F (list_1, p_2, ()) = impl_areElements.T list_1 p_2 := (congrArg anyK (funext fun k => impl_areElements.run k list_1 p_2)).trans (anyK_const _)
theorem impl_areElements.ok : CtxOK Go.Proofs.Tryz.prog impl_areElements.ctx := ⟨List.forall_mem_nil _, mixed_ok, tab_ok tab_good, List.forall_mem_cons.2 ⟨slices_ContainsFunc_Lint64_int64.S, List.forall_mem_nil _⟩, List.forall_mem_cons.2 ⟨impl_areElements_1.cloS, List.forall_mem_nil _⟩, List.forall_mem_nil _⟩
theorem impl_areElements.S : Sound Go.Proofs.Tryz.prog ⟨162, impl_areElements.sig, impl_areElements.F⟩ := sound_any (fn := Go.Proofs.Tryz.f162) (code := impl_areElements.code) (g := impl_areElements.cfg) (res := [.tmp 4]) Go.Proofs.Tryz.func162 (by kernel_rfl) (by kernel_rfl) impl_areElements.ok (by kernel_rfl) (by kernel_rfl) (Nat.le_of_ble_eq_true (by kernel_rfl)) (by kernel_rfl)
/-! ### impl_ValidPrime -/
noncomputable def impl_ValidPrime.sig : Sig := ⟨[.val false (.int .i64)], [(.val false, .bool, .deep)]⟩
noncomputable def impl_ValidPrime.ctx : Ctx := ⟨tabOf tabl, [⟨160, impl_within.sig, impl_within.F⟩], [], [], [], []⟩
noncomputable def impl_ValidPrime.cfg : Cfg := ⟨impl_ValidPrime.ctx, [], [], fun id => match id with | 4 => ([0, 3], []) | _ => ([], []), fun _ => []⟩
noncomputable def impl_ValidPrime.code : Code := (Go.Proofs.Tryz.f196).body.getD .skip
noncomputable def impl_ValidPrime.fin := finK impl_ValidPrime.ctx impl_ValidPrime.sig [.tmp 2]
noncomputable def impl_ValidPrime.F (d : Int × Unit) : Option ((Bool × Unit) × (Unit)) := anyK (runFn impl_ValidPrime.cfg impl_ValidPrime.fin impl_ValidPrime.code (initSt impl_ValidPrime.sig.ps d 18))
noncomputable def impl_ValidPrime.l4 (k : Nat) (i3 : Int) (i4 : Int) : Option ((Bool × Unit) × (Unit)) :=
  Go.Vm.runT impl_ValidPrime.cfg impl_ValidPrime.fin k [.inLoop (sub [1, 1, 0, 1, 0, 0] impl_ValidPrime.code), .inBlock 0, .code (sub [1, 1, 1] impl_ValidPrime.code)]
    ⟨[.val false [⟨(.int .i64), .sh, i3⟩], .dead, .dead, .val false [⟨(.int .i64), .sh, i4⟩]] ++ deads 14, []⟩
theorem impl_ValidPrime.l4_eq (k : Nat) (i3 : Int) (i4 : Int) : impl_ValidPrime.l4 (k + 1) i3 i4 =
  if (decide ((IntKind.i64.wrap (i4 * i4)) ≤ i3)) = true then
    if i4 = 0 then
      none
    else
      if ((i3.tmod i4) == (0 : Int)) = true then
        some ((false, ()), ())
      else
        impl_ValidPrime.l4 k i3 (IntKind.i64.wrap (i4 + (1 : Int)))
  else
    some ((true, ()), ()) := by kernel_rfl
noncomputable def impl_ValidPrime.T (k : Nat) (p_1 : Int) : Option ((Bool × Unit) × (Unit)) :=
  (impl_within.F (p_1, (2 : Int), (251 : Int), ())).bind fun r2 =>
    if (!(r2.1.1 : Bool)) = true then
      some ((false, ()), ())
    else
      impl_ValidPrime.l4 k p_1 (2 : Int)
theorem impl_ValidPrime.run (k : Nat) (p_1 : Int) : runFn impl_ValidPrime.cfg impl_ValidPrime.fin impl_ValidPrime.code (initSt impl_ValidPrime.sig.ps (p_1, ()) 18) k = impl_ValidPrime.T k p_1 := by kernel_rfl
theorem impl_ValidPrime.of (p_1 : Int) {r : (Bool × Unit) × (Unit)} (h : Ev (fun k => impl_ValidPrime.T k p_1) r) : impl_ValidPrime.F (p_1, ()) = some r := Ev.run (fun k => impl_ValidPrime.run k p_1) h
theorem impl_ValidPrime.ok : CtxOK Go.Proofs.Tryz.prog impl_ValidPrime.ctx := ⟨List.forall_mem_nil _, mixed_ok, tab_ok tab_good, List.forall_mem_cons.2 ⟨impl_within.S, List.forall_mem_nil _⟩, List.forall_mem_nil _, List.forall_mem_nil _⟩
theorem impl_ValidPrime.S : Sound Go.Proofs.Tryz.prog ⟨196, impl_ValidPrime.sig, impl_ValidPrime.F⟩ := sound_any (fn := Go.Proofs.Tryz.f196) (code := impl_ValidPrime.code) (g := impl_ValidPrime.cfg) (res := [.tmp 2]) Go.Proofs.Tryz.func196 (by kernel_rfl) (by kernel_rfl) impl_ValidPrime.ok (by kernel_rfl) (by kernel_rfl) (Nat.le_of_ble_eq_true (by kernel_rfl)) (by kernel_rfl)
/-! ### impl_isSide -/
noncomputable def impl_isSide.sig : Sig := ⟨[.val false (.int .i64)], [(.val false, .bool, .deep)]⟩
noncomputable def impl_isSide.ctx : Ctx := ⟨tabOf tabl, [⟨160, impl_within.sig, impl_within.F⟩], [], [], [], []⟩
noncomputable def impl_isSide.cfg : Cfg := ⟨impl_isSide.ctx, [], [], fun _ => ([], []), fun _ => []⟩
noncomputable def impl_isSide.code : Code := (Go.Proofs.Tryz.f197).body.getD .skip
noncomputable def impl_isSide.fin := finK impl_isSide.ctx impl_isSide.sig [.tmp 2]
noncomputable def impl_isSide.F (d : Int × Unit) : Option ((Bool × Unit) × (Unit)) := anyK (runFn impl_isSide.cfg impl_isSide.fin impl_isSide.code (initSt impl_isSide.sig.ps d 5))
noncomputable def impl_isSide.T (n_1 : Int) : Option ((Bool × Unit) × (Unit)) :=
  (impl_within.F (n_1, (0 : Int), (32 : Int), ())).bind fun r2 =>
    some (((r2.1.1 : Bool), ()), ())
theorem impl_isSide.run (k : Nat) (n_1 : Int) : runFn impl_isSide.cfg impl_isSide.fin impl_isSide.code (initSt impl_isSide.sig.ps (n_1, ()) 5) k = impl_isSide.T n_1 := by kernel_rfl
theorem impl_isSide.eq (n_1 : Int) : impl_isSide.F (n_1, ()) = impl_isSide.T n_1 := (congrArg anyK (funext fun k => impl_isSide.run k n_1)).trans (anyK_const _)
theorem impl_isSide.ok : CtxOK Go.Proofs.Tryz.prog impl_isSide.ctx := ⟨List.forall_mem_nil _, mixed_ok, tab_ok tab_good, List.forall_mem_cons.2 ⟨impl_within.S, List.forall_mem_nil _⟩, List.forall_mem_nil _, List.forall_mem_nil _⟩
theorem impl_isSide.S : Sound Go.Proofs.Tryz.prog ⟨197, impl_isSide.sig, impl_isSide.F⟩ := sound_any (fn := Go.Proofs.Tryz.f197) (code := impl_isSide.code) (g := impl_isSide.cfg) (res := [.tmp 2]) Go.Proofs.Tryz.func197 (by kernel_rfl) (by kernel_rfl) impl_isSide.ok (by kernel_rfl) (by kernel_rfl) (Nat.le_of_ble_eq_true (by kernel_rfl)) (by kernel_rfl)
/-! ### impl_ValidMatrix -/
noncomputable def impl_ValidMatrix.sig : Sig := ⟨[.val true TMatrix], [(.val false, .bool, .deep)]⟩
noncomputable def impl_ValidMatrix.ctx : Ctx := ⟨tabOf tabl, [⟨161, impl_size_int64.sig, impl_size_int64.F⟩, ⟨162, impl_areElements.sig, impl_areElements.F⟩, ⟨196, impl_ValidPrime.sig, impl_ValidPrime.F⟩, ⟨197, impl_isSide.sig, impl_isSide.F⟩], [], [], [], []⟩
noncomputable def impl_ValidMatrix.cfg : Cfg := ⟨impl_ValidMatrix.ctx, [], [], fun _ => ([], []), fun _ => []⟩
noncomputable def impl_ValidMatrix.code : Code := (Go.Proofs.Tryz.f128).body.getD .skip
noncomputable def impl_ValidMatrix.fin := finK impl_ValidMatrix.ctx impl_ValidMatrix.sig [.tmp 2]
noncomputable def impl_ValidMatrix.F (d : (Int × Int × Int × List Int) × Unit) : Option ((Bool × Unit) × (Unit)) := anyK (runFn impl_ValidMatrix.cfg impl_ValidMatrix.fin impl_ValidMatrix.code (initSt impl_ValidMatrix.sig.ps d 34))
noncomputable def impl_ValidMatrix.T (m_1 : Int) (m_2 : Int) (m_3 : Int) (m_4 : List Int) : Option ((Bool × Unit) × (Unit)) :=
  (impl_ValidPrime.F (m_1, ())).bind fun r5 =>
    if (r5.1.1 : Bool) = true then
      (impl_isSide.F (m_2, ())).bind fun r6 =>
        if (r6.1.1 : Bool) = true then
          (impl_isSide.F (m_3, ())).bind fun r7 =>
            if (r7.1.1 : Bool) = true then
              (impl_size_int64.F (m_4, ())).bind fun r8 =>
                if ((r8.1.1 : Int) == (IntKind.i64.wrap (m_2 * m_3))) = true then
                  (impl_areElements.F (m_4, m_1, ())).bind fun r9 =>
                    some (((r9.1.1 : Bool), ()), ())
                else
                  some ((false, ()), ())
            else
              some ((false, ()), ())
        else
          some ((false, ()), ())
    else
      some ((false, ()), ())
theorem impl_ValidMatrix.run (k : Nat) (m_1 : Int) (m_2 : Int) (m_3 : Int) (m_4 : List Int) : runFn impl_ValidMatrix.cfg impl_ValidMatrix.fin impl_ValidMatrix.code (initSt impl_ValidMatrix.sig.ps ((m_1, (m_2, (m_3, m_4))), ()) 34) k = impl_ValidMatrix.T m_1 m_2 m_3 m_4 := by kernel_rfl
theorem impl_ValidMatrix.eq (m_1 : Int) (m_2 : Int) (m_3 : Int) (m_4 : List Int) : impl_ValidMatrix.F ((m_1, (m_2, (m_3, m_4))), ()) = impl_ValidMatrix.T m_1 m_2 m_3 m_4 := (congrArg anyK (funext fun k => impl_ValidMatrix.run k m_1 m_2 m_3 m_4)).trans (anyK_const _)
theorem impl_ValidMatrix.ok : CtxOK Go.Proofs.Tryz.prog impl_ValidMatrix.ctx := ⟨List.forall_mem_nil _, mixed_ok, tab_ok tab_good, List.forall_mem_cons.2 ⟨impl_size_int64.S, List.forall_mem_cons.2 ⟨impl_areElements.S, List.forall_mem_cons.2 ⟨impl_ValidPrime.S, List.forall_mem_cons.2 ⟨impl_isSide.S, List.forall_mem_nil _⟩⟩⟩⟩, List.forall_mem_nil _, List.forall_mem_nil _⟩
theorem impl_ValidMatrix.S : Sound Go.Proofs.Tryz.prog ⟨128, impl_ValidMatrix.sig, impl_ValidMatrix.F⟩ := sound_any (fn := Go.Proofs.Tryz.f128) (code := impl_ValidMatrix.code) (g := impl_ValidMatrix.cfg) (res := [.tmp 2]) Go.Proofs.Tryz.func128 (by kernel_rfl) (by kernel_rfl) impl_ValidMatrix.ok (by kernel_rfl) (by kernel_rfl) (Nat.le_of_ble_eq_true (by kernel_rfl)) (by kernel_rfl)
/-! ### impl_isBetween -/
noncomputable def impl_isBetween.sig : Sig := ⟨[.val true TMatrix, .val false (.int .i64), .val false (.int .i64), .val false (.int .i64)], [(.val false, .bool, .deep)]⟩
noncomputable def impl_isBetween.ctx : Ctx := ⟨tabOf tabl, [⟨128, impl_ValidMatrix.sig, impl_ValidMatrix.F⟩], [], [], [], []⟩
noncomputable def impl_isBetween.cfg : Cfg := ⟨impl_isBetween.ctx, [], [], fun _ => ([], []), fun _ => []⟩
noncomputable def impl_isBetween.code : Code := (Go.Proofs.Tryz.f141).body.getD .skip
noncomputable def impl_isBetween.fin := finK impl_isBetween.ctx impl_isBetween.sig [.tmp 8]
noncomputable def impl_isBetween.F (d : (Int × Int × Int × List Int) × Int × Int × Int × Unit) : Option ((Bool × Unit) × (Unit)) := anyK (runFn impl_isBetween.cfg impl_isBetween.fin impl_isBetween.code (initSt impl_isBetween.sig.ps d 29))
noncomputable def impl_isBetween.T (m_1 : Int) (m_2 : Int) (m_3 : Int) (m_4 : List Int) (p_5 : Int) (from_6 : Int) (to_7 : Int) : Option ((Bool × Unit) × (Unit)) :=
  (impl_ValidMatrix.F ((m_1, (m_2, (m_3, m_4))), ())).bind fun r8 =>
    if (r8.1.1 : Bool) = true then
      if (m_1 == p_5) = true then
        if (m_2 == to_7) = true then
          some ((m_3 == from_6, ()), ())
        else
          some ((false, ()), ())
      else
        some ((false, ()), ())
    else
      some ((false, ()), ())
theorem impl_isBetween.run (k : Nat) (m_1 : Int) (m_2 : Int) (m_3 : Int) (m_4 : List Int) (p_5 : Int) (from_6 : Int) (to_7 : Int) : runFn impl_isBetween.cfg impl_isBetween.fin impl_isBetween.code (initSt impl_isBetween.sig.ps ((m_1, (m_2, (m_3, m_4))), p_5, from_6, to_7, ()) 29) k = impl_isBetween.T m_1 m_2 m_3 m_4 p_5 from_6 to_7 := by kernel_rfl
theorem impl_isBetween.eq (m_1 : Int) (m_2 : Int) (m_3 : Int) (m_4 : List Int) (p_5 : Int) (from_6 : Int) (to_7 : Int) : impl_isBetween.F ((m_1, (m_2, (m_3, m_4))), p_5, from_6, to_7, ()) = impl_isBetween.T m_1 m_2 m_3 m_4 p_5 from_6 to_7 := (congrArg anyK (funext fun k => impl_isBetween.run k m_1 m_2 m_3 m_4 p_5 from_6 to_7)).trans (anyK_const _)
theorem impl_isBetween.ok : CtxOK Go.Proofs.Tryz.prog impl_isBetween.ctx := ⟨List.forall_mem_nil _, mixed_ok, tab_ok tab_good, List.forall_mem_cons.2 ⟨impl_ValidMatrix.S, List.forall_mem_nil _⟩, List.forall_mem_nil _, List.forall_mem_nil _⟩
theorem impl_isBetween.S : Sound Go.Proofs.Tryz.prog ⟨141, impl_isBetween.sig, impl_isBetween.F⟩ := sound_any (fn := Go.Proofs.Tryz.f141) (code := impl_isBetween.code) (g := impl_isBetween.cfg) (res := [.tmp 8]) Go.Proofs.Tryz.func141 (by kernel_rfl) (by kernel_rfl) impl_isBetween.ok (by kernel_rfl) (by kernel_rfl) (Nat.le_of_ble_eq_true (by kernel_rfl)) (by kernel_rfl)
/-! ### impl_simplicesOf -/
noncomputable def impl_simplicesOf.sig : Sig := ⟨[.val true (.sl (.sl (.int .i64))), .val false (.int .i64)], [(.val false, (.sl (.int .i64)), .deep)]⟩
noncomputable def impl_simplicesOf.ctx : Ctx := ⟨tabOf tabl, [⟨161, impl_size_int64.sig, impl_size_int64.F⟩], [], [], [], []⟩
noncomputable def impl_simplicesOf.cfg : Cfg := ⟨impl_simplicesOf.ctx, [], [], fun id => match id with | 3 => ([1, 5, 9, 10, 11], [20]) | _ => ([], []), fun _ => []⟩
noncomputable def impl_simplicesOf.code : Code := (Go.Proofs.Tryz.f163).body.getD .skip
noncomputable def impl_simplicesOf.fin := finK impl_simplicesOf.ctx impl_simplicesOf.sig [.tmp 4]
noncomputable def impl_simplicesOf.F (d : List (List Int) × Int × Unit) : Option ((List Int × Unit) × (Unit)) := anyK (runFn impl_simplicesOf.cfg impl_simplicesOf.fin impl_simplicesOf.code (initSt impl_simplicesOf.sig.ps d 27))
noncomputable def impl_simplicesOf.l3 (k : Nat) (i3 : Int) (x4 : List (List Int)) (i5 : Int) (i6 : Int) (x7 : List Int) : Option ((List Int × Unit) × (Unit)) :=
  Go.Vm.runT impl_simplicesOf.cfg impl_simplicesOf.fin k [.inLoop (sub [1, 1, 0, 1, 0, 0] impl_simplicesOf.code), .inBlock 0, .code (sub [1, 1, 1] impl_simplicesOf.code)]
    ⟨[.dead, .val false [⟨(.int .i64), .sh, i3⟩], .dead, .dead, .dead, .view 20 (.root 0) 1 false, .dead, .dead, .dead, .val false [⟨(.sl (.sl (.int .i64))), .sh, x4⟩], .val false [⟨(.int .i64), .sh, i5⟩], .val false [⟨(.int .i64), .sh, i6⟩]] ++ deads 15, [(20, ⟨false, [⟨(.sl (.int .i64)), .deep, x7⟩]⟩)]⟩
theorem impl_simplicesOf.l3_eq (k : Nat) (i3 : Int) (x4 : List (List Int)) (i5 : Int) (i6 : Int) (x7 : List Int) : impl_simplicesOf.l3 (k + 1) i3 x4 i5 i6 x7 =
  if (decide (i6 < i5)) = true then
    if 0 ≤ i6 ∧ i6 < (x4.length : Int) then
      (impl_size_int64.F (x4.getD i6.toNat ([] : List Int), ())).bind fun r8 =>
        if ((r8.1.1 : Int) == (IntKind.i64.wrap (i3 + (1 : Int)))) = true then
          if x7.length + ([i6] : List Int).length ≤ bigA then
            impl_simplicesOf.l3 k i3 x4 i5 (IntKind.i64.wrap (i6 + (1 : Int))) (x7 ++ ([i6]))
          else
            none
        else
          impl_simplicesOf.l3 k i3 x4 i5 (IntKind.i64.wrap (i6 + (1 : Int))) x7
    else
      none
  else
    some ((x7, ()), ()) := by kernel_rfl
noncomputable def impl_simplicesOf.T (k : Nat) (c_1 : List (List Int)) (dimension_2 : Int) : Option ((List Int × Unit) × (Unit)) :=
  impl_simplicesOf.l3 k dimension_2 c_1 (c_1.length : Int) (0 : Int) ([])
theorem impl_simplicesOf.run (k : Nat) (c_1 : List (List Int)) (dimension_2 : Int) : runFn impl_simplicesOf.cfg impl_simplicesOf.fin impl_simplicesOf.code (initSt impl_simplicesOf.sig.ps (c_1, dimension_2, ()) 27) k = impl_simplicesOf.T k c_1 dimension_2 := by kernel_rfl
theorem impl_simplicesOf.of (c_1 : List (List Int)) (dimension_2 : Int) {r : (List Int × Unit) × (Unit)} (h : Ev (fun k => impl_simplicesOf.T k c_1 dimension_2) r) : impl_simplicesOf.F (c_1, dimension_2, ()) = some r := Ev.run (fun k => impl_simplicesOf.run k c_1 dimension_2) h
theorem impl_simplicesOf.ok : CtxOK Go.Proofs.Tryz.prog impl_simplicesOf.ctx := ⟨List.forall_mem_nil _, mixed_ok, tab_ok tab_good, List.forall_mem_cons.2 ⟨impl_size_int64.S, List.forall_mem_nil _⟩, List.forall_mem_nil _, List.forall_mem_nil _⟩
theorem impl_simplicesOf.S : Sound Go.Proofs.Tryz.prog ⟨163, impl_simplicesOf.sig, impl_simplicesOf.F⟩ := sound_any (fn := Go.Proofs.Tryz.f163) (code := impl_simplicesOf.code) (g := impl_simplicesOf.cfg) (res := [.tmp 4]) Go.Proofs.Tryz.func163 (by kernel_rfl) (by kernel_rfl) impl_simplicesOf.ok (by kernel_rfl) (by kernel_rfl) (Nat.le_of_ble_eq_true (by kernel_rfl)) (by kernel_rfl)
/-! ### impl_stalkSum -/
noncomputable def impl_stalkSum.sig : Sig := ⟨[.val true TSheaf, .val false (.int .i64)], [(.val false, (.int .i64), .deep)]⟩
noncomputable def impl_stalkSum.ctx : Ctx := ⟨tabOf tabl, [⟨163, impl_simplicesOf.sig, impl_simplicesOf.F⟩], [], [], [], []⟩
noncomputable def impl_stalkSum.cfg : Cfg := ⟨impl_stalkSum.ctx, [], [], fun id => match id with | 3 => ([2, 5, 11, 12, 13], [8, 44]) | _ => ([], []), fun _ => []⟩
noncomputable def impl_stalkSum.code : Code := (Go.Proofs.Tryz.f87).body.getD .skip
noncomputable def impl_stalkSum.fin := finK impl_stalkSum.ctx impl_stalkSum.sig [.tmp 4]
noncomputable def impl_stalkSum.F (d : (List (List Int) × Int × List Int × List (Int × Int × Int × List Int)) × Int × Unit) : Option ((Int × Unit) × (Unit)) := anyK (runFn impl_stalkSum.cfg impl_stalkSum.fin impl_stalkSum.code (initSt impl_stalkSum.sig.ps d 26))
noncomputable def impl_stalkSum.l3 (k : Nat) (i7 : Int) (i8 : Int) (i9 : Int) (x10 : List (List Int)) (i11 : Int) (x12 : List Int) (x13 : List (Int × Int × Int × List Int)) (x14 : List Int) : Option ((Int × Unit) × (Unit)) :=
  Go.Vm.runT impl_stalkSum.cfg impl_stalkSum.fin k [.inLoop (sub [1, 1, 0, 1, 0, 0] impl_stalkSum.code), .inBlock 0, .code (sub [1, 1, 1] impl_stalkSum.code)]
    ⟨[.dead, .dead, .ref 8 (.root 0), .dead, .dead, .val false [⟨(.int .i64), .sh, i7⟩], .dead, .dead, .dead, .dead, .dead, .view 44 (.root 0) 1 false, .val false [⟨(.int .i64), .sh, i8⟩], .val false [⟨(.int .i64), .sh, i9⟩]] ++ deads 12, [(8, ⟨true, [⟨(.sl (.sl (.int .i64))), .sh, x10⟩, ⟨(.int .i64), .sh, i11⟩, ⟨(.sl (.int .i64)), .sh, x12⟩, ⟨(.sl TMatrix), .sh, x13⟩]⟩), (44, ⟨false, [⟨(.sl (.int .i64)), .deep, x14⟩]⟩)]⟩
theorem impl_stalkSum.l3_eq (k : Nat) (i7 : Int) (i8 : Int) (i9 : Int) (x10 : List (List Int)) (i11 : Int) (x12 : List Int) (x13 : List (Int × Int × Int × List Int)) (x14 : List Int) : impl_stalkSum.l3 (k + 1) i7 i8 i9 x10 i11 x12 x13 x14 =
  if (decide (i9 < i8)) = true then
    if 0 ≤ i9 ∧ i9 < (x14.length : Int) then
      if 0 ≤ (x14.getD i9.toNat 0 : Int) ∧ (x14.getD i9.toNat 0 : Int) < (x12.length : Int) then
        impl_stalkSum.l3 k (IntKind.i64.wrap (i7 + (x12.getD (x14.getD i9.toNat 0 : Int).toNat 0))) i8 (IntKind.i64.wrap (i9 + (1 : Int))) x10 i11 x12 x13 x14
      else
        none
    else
      none
  else
    some ((i7, ()), ()) := by kernel_rfl
noncomputable def impl_stalkSum.T (k : Nat) (s_1 : List (List Int)) (s_2 : Int) (s_3 : List Int) (s_4 : List (Int × Int × Int × List Int)) (k_5 : Int) : Option ((Int × Unit) × (Unit)) :=
  (impl_simplicesOf.F (s_1, k_5, ())).bind fun r6 =>
    impl_stalkSum.l3 k (0 : Int) (r6.1.1.length : Int) (0 : Int) s_1 s_2 s_3 s_4 r6.1.1
theorem impl_stalkSum.run (k : Nat) (s_1 : List (List Int)) (s_2 : Int) (s_3 : List Int) (s_4 : List (Int × Int × Int × List Int)) (k_5 : Int) : runFn impl_stalkSum.cfg impl_stalkSum.fin impl_stalkSum.code (initSt impl_stalkSum.sig.ps ((s_1, (s_2, (s_3, s_4))), k_5, ()) 26) k = impl_stalkSum.T k s_1 s_2 s_3 s_4 k_5 := by kernel_rfl
theorem impl_stalkSum.of (s_1 : List (List Int)) (s_2 : Int) (s_3 : List Int) (s_4 : List (Int × Int × Int × List Int)) (k_5 : Int) {r : (Int × Unit) × (Unit)} (h : Ev (fun k => impl_stalkSum.T k s_1 s_2 s_3 s_4 k_5) r) : impl_stalkSum.F ((s_1, (s_2, (s_3, s_4))), k_5, ()) = some r := Ev.run (fun k => impl_stalkSum.run k s_1 s_2 s_3 s_4 k_5) h
theorem impl_stalkSum.ok : CtxOK Go.Proofs.Tryz.prog impl_stalkSum.ctx := ⟨List.forall_mem_nil _, mixed_ok, tab_ok tab_good, List.forall_mem_cons.2 ⟨impl_simplicesOf.S, List.forall_mem_nil _⟩, List.forall_mem_nil _, List.forall_mem_nil _⟩
theorem impl_stalkSum.S : Sound Go.Proofs.Tryz.prog ⟨87, impl_stalkSum.sig, impl_stalkSum.F⟩ := sound_any (fn := Go.Proofs.Tryz.f87) (code := impl_stalkSum.code) (g := impl_stalkSum.cfg) (res := [.tmp 4]) Go.Proofs.Tryz.func87 (by kernel_rfl) (by kernel_rfl) impl_stalkSum.ok (by kernel_rfl) (by kernel_rfl) (Nat.le_of_ble_eq_true (by kernel_rfl)) (by kernel_rfl)
/-! ### impl_areStalks_1 -/
noncomputable def impl_areStalks_1.sig : Sig := ⟨[.val false (.int .i64)], [(.val false, .bool, .deep)]⟩
noncomputable def impl_areStalks_1.ctx : Ctx := ⟨tabOf tabl, [⟨160, impl_within.sig, impl_within.F⟩], [], [], [], []⟩
noncomputable def impl_areStalks_1.cfg : Cfg := ⟨impl_areStalks_1.ctx, [], [], fun _ => ([], []), fun _ => []⟩
noncomputable def impl_areStalks_1.code : Code := (Go.Proofs.Tryz.f236).body.getD .skip
noncomputable def impl_areStalks_1.fin := finK impl_areStalks_1.ctx impl_areStalks_1.sig [.tmp 2]
noncomputable def impl_areStalks_1.F (d : Int × Unit) : Option ((Bool × Unit) × (Unit)) := anyK (runFn impl_areStalks_1.cfg impl_areStalks_1.fin impl_areStalks_1.code (initSt impl_areStalks_1.sig.ps d 6))
noncomputable def impl_areStalks_1.T (n_1 : Int) : Option ((Bool × Unit) × (Unit)) :=
  (impl_within.F (n_1, (0 : Int), (3 : Int), ())).bind fun r2 =>
    some ((!(r2.1.1 : Bool), ()), ())
theorem impl_areStalks_1.run (k : Nat) (n_1 : Int) : runFn impl_areStalks_1.cfg impl_areStalks_1.fin impl_areStalks_1.code (initSt impl_areStalks_1.sig.ps (n_1, ()) 6) k = impl_areStalks_1.T n_1 := by kernel_rfl
theorem impl_areStalks_1.eq (n_1 : Int) : impl_areStalks_1.F (n_1, ()) = impl_areStalks_1.T n_1 := (congrArg anyK (funext fun k => impl_areStalks_1.run k n_1)).trans (anyK_const _)
theorem impl_areStalks_1.ok : CtxOK Go.Proofs.Tryz.prog impl_areStalks_1.ctx := ⟨List.forall_mem_nil _, mixed_ok, tab_ok tab_good, List.forall_mem_cons.2 ⟨impl_within.S, List.forall_mem_nil _⟩, List.forall_mem_nil _, List.forall_mem_nil _⟩
theorem impl_areStalks_1.S : Sound Go.Proofs.Tryz.prog ⟨236, impl_areStalks_1.sig, impl_areStalks_1.F⟩ := sound_any (fn := Go.Proofs.Tryz.f236) (code := impl_areStalks_1.code) (g := impl_areStalks_1.cfg) (res := [.tmp 2]) Go.Proofs.Tryz.func236 (by kernel_rfl) (by kernel_rfl) impl_areStalks_1.ok (by kernel_rfl) (by kernel_rfl) (Nat.le_of_ble_eq_true (by kernel_rfl)) (by kernel_rfl)
noncomputable def impl_areStalks_1.cloG (y : Unit) (d : Int × Unit) : Option (Bool × Unit) := (impl_areStalks_1.F (joinIns [] [(false, (.int .i64))] d y)).map (·.1)
noncomputable def impl_areStalks_1.clo : Clo := ⟨236, ⟨[(false, (.int .i64))], [(.val false, .bool, .deep)]⟩, [], impl_areStalks_1.cloG⟩
theorem impl_areStalks_1.cloS : SoundClo Go.Proofs.Tryz.prog impl_areStalks_1.clo := sound_clo (s := ⟨[(false, (.int .i64))], [(.val false, .bool, .deep)]⟩) (caps := []) rfl impl_areStalks_1.S
/-! ### impl_areStalks -/
noncomputable def impl_areStalks.sig : Sig := ⟨[.val true (.sl (.sl (.int .i64))), .val false (.sl (.int .i64))], [(.val false, .bool, .deep)]⟩
noncomputable def impl_areStalks.ctx : Ctx := ⟨tabOf tabl, [⟨87, impl_stalkSum.sig, impl_stalkSum.F⟩, ⟨212, slices_ContainsFunc_Lint64_int64.sig, slices_ContainsFunc_Lint64_int64.F⟩], [impl_areStalks_1.clo], [], [], []⟩
noncomputable def impl_areStalks.cfg : Cfg := ⟨impl_areStalks.ctx, [], [], fun id => match id with | 4 => ([1, 2, 16], [8]) | _ => ([], []), fun _ => []⟩
noncomputable def impl_areStalks.code : Code := (Go.Proofs.Tryz.f198).body.getD .skip
noncomputable def impl_areStalks.fin := finK impl_areStalks.ctx impl_areStalks.sig [.tmp 4]
noncomputable def impl_areStalks.F (d : List (List Int) × List Int × Unit) : Option ((Bool × Unit) × (Unit)) := anyK (runFn impl_areStalks.cfg impl_areStalks.fin impl_areStalks.code (initSt impl_areStalks.sig.ps d 26))
noncomputable def impl_areStalks.l4 (k : Nat) (x4 : List Int) (i5 : Int) (x6 : List (List Int)) : Option ((Bool × Unit) × (Unit)) :=
  Go.Vm.runT impl_areStalks.cfg impl_areStalks.fin k [.inLoop (sub [1, 1, 0, 1, 0, 0] impl_areStalks.code), .inBlock 0, .code (sub [1, 1, 1] impl_areStalks.code)]
    ⟨[.dead, .val false [⟨(.sl (.int .i64)), .sh, x4⟩], .ref 8 (.root 0), .dead, .dead, .dead, .dead, .dead, .dead, .dead, .dead, .dead, .dead, .dead, .dead, .dead, .val false [⟨(.int .i64), .sh, i5⟩]] ++ deads 9, [(8, ⟨true, [⟨(.sl (.sl (.int .i64))), .sh, x6⟩]⟩)]⟩
theorem impl_areStalks.l4_eq (k : Nat) (x4 : List Int) (i5 : Int) (x6 : List (List Int)) : impl_areStalks.l4 (k + 1) x4 i5 x6 =
  if (decide (i5 < (4 : Int))) = true then
    (impl_stalkSum.F ((x6, (0, (x4, []))), i5, ())).bind fun r7 =>
      if (decide ((r7.1.1 : Int) > (32 : Int))) = true then
        some ((false, ()), ())
      else
        impl_areStalks.l4 k x4 (IntKind.i64.wrap (i5 + (1 : Int))) x6
  else
    some ((true, ()), ()) := by kernel_rfl
noncomputable def impl_areStalks.T (k : Nat) (c_1 : List (List Int)) (stalks_2 : List Int) : Option ((Bool × Unit) × (Unit)) :=
  if ((stalks_2.length : Int) != (c_1.length : Int)) = true then
    some ((false, ()), ())
  else
    (slices_ContainsFunc_Lint64_int64.F (stalks_2, impl_areStalks_1.cloG (()), ())).bind fun r3 =>
      if (r3.1.1 : Bool) = true then
        some ((false, ()), ())
      else
        impl_areStalks.l4 k stalks_2 (0 : Int) c_1
theorem impl_areStalks.run (k : Nat) (c_1 : List (List Int)) (stalks_2 : List Int) : runFn impl_areStalks.cfg impl_areStalks.fin impl_areStalks.code (initSt impl_areStalks.sig.ps (c_1, stalks_2, ()) 26) k = impl_areStalks.T k c_1 stalks_2 := by kernel_rfl
theorem impl_areStalks.of (c_1 : List (List Int)) (stalks_2 : List Int) {r : (Bool × Unit) × (Unit)} (h : Ev (fun k => impl_areStalks.T k c_1 stalks_2) r) : impl_areStalks.F (c_1, stalks_2, ()) = some r := Ev.run (fun k => impl_areStalks.run k c_1 stalks_2) h
theorem impl_areStalks.ok : CtxOK Go.Proofs.Tryz.prog impl_areStalks.ctx := ⟨List.forall_mem_nil _, mixed_ok, tab_ok tab_good, List.forall_mem_cons.2 ⟨impl_stalkSum.S, List.forall_mem_cons.2 ⟨slices_ContainsFunc_Lint64_int64.S, List.forall_mem_nil _⟩⟩, List.forall_mem_cons.2 ⟨impl_areStalks_1.cloS, List.forall_mem_nil _⟩, List.forall_mem_nil _⟩
theorem impl_areStalks.S : Sound Go.Proofs.Tryz.prog ⟨198, impl_areStalks.sig, impl_areStalks.F⟩ := sound_any (fn := Go.Proofs.Tryz.f198) (code := impl_areStalks.code) (g := impl_areStalks.cfg) (res := [.tmp 4]) Go.Proofs.Tryz.func198 (by kernel_rfl) (by kernel_rfl) impl_areStalks.ok (by kernel_rfl) (by kernel_rfl) (Nat.le_of_ble_eq_true (by kernel_rfl)) (by kernel_rfl)
/-! ### impl_ValidSheaf -/
noncomputable def impl_ValidSheaf.sig : Sig := ⟨[.val true TSheaf], [(.val false, .bool, .deep)]⟩
noncomputable def impl_ValidSheaf.ctx : Ctx := ⟨tabOf tabl, [⟨84, impl_ValidComplex.sig, impl_ValidComplex.F⟩, ⟨109, impl_arrows.sig, impl_arrows.F⟩, ⟨141, impl_isBetween.sig, impl_isBetween.F⟩, ⟨196, impl_ValidPrime.sig, impl_ValidPrime.F⟩, ⟨198, impl_areStalks.sig, impl_areStalks.F⟩], [], [], [], []⟩
noncomputable def impl_ValidSheaf.cfg : Cfg := ⟨impl_ValidSheaf.ctx, [], [], fun id => match id with | 5 => ([1, 3, 27, 28, 29], [4, 12]) | _ => ([], []), fun _ => []⟩
noncomputable def impl_ValidSheaf.code : Code := (Go.Proofs.Tryz.f129).body.getD .skip
noncomputable def impl_ValidSheaf.fin := finK impl_ValidSheaf.ctx impl_ValidSheaf.sig [.tmp 2]
noncomputable def impl_ValidSheaf.F (d : (List (List Int) × Int × List Int × List (Int × Int × Int × List Int)) × Unit) : Option ((Bool × Unit) × (Unit)) := anyK (runFn impl_ValidSheaf.cfg impl_ValidSheaf.fin impl_ValidSheaf.code (initSt impl_ValidSheaf.sig.ps d 69))
noncomputable def impl_ValidSheaf.l5 (k : Nat) (i9 : Int) (i10 : Int) (x11 : List (List Int)) (i12 : Int) (x13 : List Int) (x14 : List (Int × Int × Int × List Int)) (x15 : List (Int × Int × Int)) : Option ((Bool × Unit) × (Unit)) :=
  Go.Vm.runT impl_ValidSheaf.cfg impl_ValidSheaf.fin k [.inLoop (sub [1, 1, 1, 0, 1, 0, 0] impl_ValidSheaf.code), .inBlock 0, .code (sub [1, 1, 1, 1] impl_ValidSheaf.code)]
    ⟨[.dead, .ref 4 (.root 0), .dead, .view 12 (.root 0) 1 false, .dead, .dead, .dead, .dead, .dead, .dead, .dead, .dead, .dead, .dead, .dead, .dead, .dead, .dead, .dead, .dead, .dead, .dead, .dead, .dead, .dead, .dead, .dead, .view 12 (.root 0) 1 false, .val false [⟨(.int .i64), .sh, i9⟩], .val false [⟨(.int .i64), .sh, i10⟩]] ++ deads 39, [(4, ⟨true, [⟨(.sl (.sl (.int .i64))), .sh, x11⟩, ⟨(.int .i64), .sh, i12⟩, ⟨(.sl (.int .i64)), .sh, x13⟩, ⟨(.sl TMatrix), .sh, x14⟩]⟩), (12, ⟨false, [⟨(.sl TEdge), .deep, x15⟩]⟩)]⟩
theorem impl_ValidSheaf.l5_eq (k : Nat) (i9 : Int) (i10 : Int) (x11 : List (List Int)) (i12 : Int) (x13 : List Int) (x14 : List (Int × Int × Int × List Int)) (x15 : List (Int × Int × Int)) : impl_ValidSheaf.l5 (k + 1) i9 i10 x11 i12 x13 x14 x15 =
  if (decide (i10 < i9)) = true then
    if 0 ≤ i10 ∧ i10 < (x15.length : Int) then
      if (decide (i10 ≥ (x14.length : Int))) = true then
        some ((false, ()), ())
      else
        if 0 ≤ i10 ∧ i10 < (x14.length : Int) then
          if 0 ≤ (((x15.getD i10.toNat (0, 0, 0)).2).2 : Int) ∧ (((x15.getD i10.toNat (0, 0, 0)).2).2 : Int) < (x13.length : Int) then
            if 0 ≤ ((x15.getD i10.toNat (0, 0, 0)).1 : Int) ∧ ((x15.getD i10.toNat (0, 0, 0)).1 : Int) < (x13.length : Int) then
              (impl_isBetween.F (x14.getD i10.toNat (0, 0, 0, ([] : List Int)), i12, x13.getD (((x15.getD i10.toNat (0, 0, 0)).2).2 : Int).toNat 0, x13.getD ((x15.getD i10.toNat (0, 0, 0)).1 : Int).toNat 0, ())).bind fun r16 =>
                if (!(r16.1.1 : Bool)) = true then
                  some ((false, ()), ())
                else
                  impl_ValidSheaf.l5 k i9 (IntKind.i64.wrap (i10 + (1 : Int))) x11 i12 x13 x14 x15
            else
              none
          else
            none
        else
          none
    else
      none
  else
    some (((x15.length : Int) == (x14.length : Int), ()), ()) := by kernel_rfl
noncomputable def impl_ValidSheaf.T (k : Nat) (toArray_1 : List (List Int)) (toArray_2 : Int) (toArray_3 : List Int) (toArray_4 : List (Int × Int × Int × List Int)) : Option ((Bool × Unit) × (Unit)) :=
  (impl_ValidComplex.F (toArray_1, ())).bind fun r5 =>
    if (!(r5.1.1 : Bool)) = true then
      some ((false, ()), ())
    else
      (impl_ValidPrime.F (toArray_2, ())).bind fun r6 =>
        if (!(r6.1.1 : Bool)) = true then
          some ((false, ()), ())
        else
          (impl_areStalks.F (toArray_1, toArray_3, ())).bind fun r7 =>
            if (!(r7.1.1 : Bool)) = true then
              some ((false, ()), ())
            else
              (impl_arrows.F (toArray_1, ())).bind fun r8 =>
                impl_ValidSheaf.l5 k (r8.1.1.length : Int) (0 : Int) toArray_1 toArray_2 toArray_3 toArray_4 r8.1.1
theorem impl_ValidSheaf.run (k : Nat) (toArray_1 : List (List Int)) (toArray_2 : Int) (toArray_3 : List Int) (toArray_4 : List (Int × Int × Int × List Int)) : runFn impl_ValidSheaf.cfg impl_ValidSheaf.fin impl_ValidSheaf.code (initSt impl_ValidSheaf.sig.ps ((toArray_1, (toArray_2, (toArray_3, toArray_4))), ()) 69) k = impl_ValidSheaf.T k toArray_1 toArray_2 toArray_3 toArray_4 := by kernel_rfl
theorem impl_ValidSheaf.of (toArray_1 : List (List Int)) (toArray_2 : Int) (toArray_3 : List Int) (toArray_4 : List (Int × Int × Int × List Int)) {r : (Bool × Unit) × (Unit)} (h : Ev (fun k => impl_ValidSheaf.T k toArray_1 toArray_2 toArray_3 toArray_4) r) : impl_ValidSheaf.F ((toArray_1, (toArray_2, (toArray_3, toArray_4))), ()) = some r := Ev.run (fun k => impl_ValidSheaf.run k toArray_1 toArray_2 toArray_3 toArray_4) h
theorem impl_ValidSheaf.ok : CtxOK Go.Proofs.Tryz.prog impl_ValidSheaf.ctx := ⟨List.forall_mem_nil _, mixed_ok, tab_ok tab_good, List.forall_mem_cons.2 ⟨impl_ValidComplex.S, List.forall_mem_cons.2 ⟨impl_arrows.S, List.forall_mem_cons.2 ⟨impl_isBetween.S, List.forall_mem_cons.2 ⟨impl_ValidPrime.S, List.forall_mem_cons.2 ⟨impl_areStalks.S, List.forall_mem_nil _⟩⟩⟩⟩⟩, List.forall_mem_nil _, List.forall_mem_nil _⟩
theorem impl_ValidSheaf.S : Sound Go.Proofs.Tryz.prog ⟨129, impl_ValidSheaf.sig, impl_ValidSheaf.F⟩ := sound_any (fn := Go.Proofs.Tryz.f129) (code := impl_ValidSheaf.code) (g := impl_ValidSheaf.cfg) (res := [.tmp 2]) Go.Proofs.Tryz.func129 (by kernel_rfl) (by kernel_rfl) impl_ValidSheaf.ok (by kernel_rfl) (by kernel_rfl) (Nat.le_of_ble_eq_true (by kernel_rfl)) (by kernel_rfl)
/-! ### impl_ValidCosheaf_1 -/
noncomputable def impl_ValidCosheaf_1.sig : Sig := ⟨[.val true TMatrix], [(.val false, .bool, .deep)]⟩
noncomputable def impl_ValidCosheaf_1.ctx : Ctx := ⟨tabOf tabl, [⟨128, impl_ValidMatrix.sig, impl_ValidMatrix.F⟩], [], [], [], []⟩
noncomputable def impl_ValidCosheaf_1.cfg : Cfg := ⟨impl_ValidCosheaf_1.ctx, [], [], fun _ => ([], []), fun _ => []⟩
noncomputable def impl_ValidCosheaf_1.code : Code := (Go.Proofs.Tryz.f127).body.getD .skip
noncomputable def impl_ValidCosheaf_1.fin := finK impl_ValidCosheaf_1.ctx impl_ValidCosheaf_1.sig [.tmp 2]
noncomputable def impl_ValidCosheaf_1.F (d : (Int × Int × Int × List Int) × Unit) : Option ((Bool × Unit) × (Unit)) := anyK (runFn impl_ValidCosheaf_1.cfg impl_ValidCosheaf_1.fin impl_ValidCosheaf_1.code (initSt impl_ValidCosheaf_1.sig.ps d 6))
noncomputable def impl_ValidCosheaf_1.T (m_1 : Int) (m_2 : Int) (m_3 : Int) (m_4 : List Int) : Option ((Bool × Unit) × (Unit)) :=
  (impl_ValidMatrix.F ((m_1, (m_2, (m_3, m_4))), ())).bind fun r5 =>
    some ((!(r5.1.1 : Bool), ()), ())
theorem impl_ValidCosheaf_1.run (k : Nat) (m_1 : Int) (m_2 : Int) (m_3 : Int) (m_4 : List Int) : runFn impl_ValidCosheaf_1.cfg impl_ValidCosheaf_1.fin impl_ValidCosheaf_1.code (initSt impl_ValidCosheaf_1.sig.ps ((m_1, (m_2, (m_3, m_4))), ()) 6) k = impl_ValidCosheaf_1.T m_1 m_2 m_3 m_4 := by kernel_rfl
theorem impl_ValidCosheaf_1.eq (m_1 : Int) (m_2 : Int) (m_3 : Int) (m_4 : List Int) : impl_ValidCosheaf_1.F ((m_1, (m_2, (m_3, m_4))), ()) = impl_ValidCosheaf_1.T m_1 m_2 m_3 m_4 := (congrArg anyK (funext fun k => impl_ValidCosheaf_1.run k m_1 m_2 m_3 m_4)).trans (anyK_const _)
theorem impl_ValidCosheaf_1.ok : CtxOK Go.Proofs.Tryz.prog impl_ValidCosheaf_1.ctx := ⟨List.forall_mem_nil _, mixed_ok, tab_ok tab_good, List.forall_mem_cons.2 ⟨impl_ValidMatrix.S, List.forall_mem_nil _⟩, List.forall_mem_nil _, List.forall_mem_nil _⟩
theorem impl_ValidCosheaf_1.S : Sound Go.Proofs.Tryz.prog ⟨127, impl_ValidCosheaf_1.sig, impl_ValidCosheaf_1.F⟩ := sound_any (fn := Go.Proofs.Tryz.f127) (code := impl_ValidCosheaf_1.code) (g := impl_ValidCosheaf_1.cfg) (res := [.tmp 2]) Go.Proofs.Tryz.func127 (by kernel_rfl) (by kernel_rfl) impl_ValidCosheaf_1.ok (by kernel_rfl) (by kernel_rfl) (Nat.le_of_ble_eq_true (by kernel_rfl)) (by kernel_rfl)
noncomputable def impl_ValidCosheaf_1.cloG (y : Unit) (d : (Int × Int × Int × List Int) × Unit) : Option (Bool × Unit) := (impl_ValidCosheaf_1.F (joinIns [] [(true, TMatrix)] d y)).map (·.1)
noncomputable def impl_ValidCosheaf_1.clo : Clo := ⟨127, ⟨[(true, TMatrix)], [(.val false, .bool, .deep)]⟩, [], impl_ValidCosheaf_1.cloG⟩
theorem impl_ValidCosheaf_1.cloS : SoundClo Go.Proofs.Tryz.prog impl_ValidCosheaf_1.clo := sound_clo (s := ⟨[(true, TMatrix)], [(.val false, .bool, .deep)]⟩) (caps := []) rfl impl_ValidCosheaf_1.S
/-! ### impl_ValidCosheaf -/
noncomputable def impl_ValidCosheaf.sig : Sig := ⟨[.val true TSheaf], [(.val false, .bool, .deep)]⟩
noncomputable def impl_ValidCosheaf.ctx : Ctx := ⟨tabOf tabl, [⟨64, impl_sheafBehind.sig, impl_sheafBehind.F⟩, ⟨126, slices_ContainsFunc_Limpl_Matrix_impl_Matrix.sig, slices_ContainsFunc_Limpl_Matrix_impl_Matrix.F⟩, ⟨129, impl_ValidSheaf.sig, impl_ValidSheaf.F⟩], [impl_ValidCosheaf_1.clo], [], [], []⟩
noncomputable def impl_ValidCosheaf.cfg : Cfg := ⟨impl_ValidCosheaf.ctx, [], [], fun _ => ([], []), fun _ => []⟩
noncomputable def impl_ValidCosheaf.code : Code := (Go.Proofs.Tryz.f62).body.getD .skip
noncomputable def impl_ValidCosheaf.fin := finK impl_ValidCosheaf.ctx impl_ValidCosheaf.sig [.tmp 2]
noncomputable def impl_ValidCosheaf.F (d : (List (List Int) × Int × List Int × List (Int × Int × Int × List Int)) × Unit) : Option ((Bool × Unit) × (Unit)) := anyK (runFn impl_ValidCosheaf.cfg impl_ValidCosheaf.fin impl_ValidCosheaf.code (initSt impl_ValidCosheaf.sig.ps d 12))
noncomputable def impl_ValidCosheaf.T (t_1 : List (List Int)) (t_2 : Int) (t_3 : List Int) (t_4 : List (Int × Int × Int × List Int)) : Option ((Bool × Unit) × (Unit)) :=
  (slices_ContainsFunc_Limpl_Matrix_impl_Matrix.F (t_4, impl_ValidCosheaf_1.cloG (()), ())).bind fun r5 =>
    if (!(r5.1.1 : Bool)) = true then
      (impl_sheafBehind.F ((t_1, (t_2, (t_3, t_4))), ())).bind fun r6 =>
        (impl_ValidSheaf.F (r6.1.1, ())).bind fun r7 =>
          some (((r7.1.1 : Bool), ()), ())
    else
      some ((false, ()), ())
theorem impl_ValidCosheaf.run (k : Nat) (t_1 : List (List Int)) (t_2 : Int) (t_3 : List Int) (t_4 : List (Int × Int × Int × List Int)) : runFn impl_ValidCosheaf.cfg impl_ValidCosheaf.fin impl_ValidCosheaf.code (initSt impl_ValidCosheaf.sig.ps ((t_1, (t_2, (t_3, t_4))), ()) 12) k = impl_ValidCosheaf.T t_1 t_2 t_3 t_4 := by kernel_rfl
theorem impl_ValidCosheaf.eq (t_1 : List (List Int)) (t_2 : Int) (t_3 : List Int) (t_4 : List (Int × Int × Int × List Int)) : impl_ValidCosheaf.F ((t_1, (t_2, (t_3, t_4))), ()) = impl_ValidCosheaf.T t_1 t_2 t_3 t_4 := (congrArg anyK (funext fun k => impl_ValidCosheaf.run k t_1 t_2 t_3 t_4)).trans (anyK_const _)
theorem impl_ValidCosheaf.ok : CtxOK Go.Proofs.Tryz.prog impl_ValidCosheaf.ctx := ⟨List.forall_mem_nil _, mixed_ok, tab_ok tab_good, List.forall_mem_cons.2 ⟨impl_sheafBehind.S, List.forall_mem_cons.2 ⟨slices_ContainsFunc_Limpl_Matrix_impl_Matrix.S, List.forall_mem_cons.2 ⟨impl_ValidSheaf.S, List.forall_mem_nil _⟩⟩⟩, List.forall_mem_cons.2 ⟨impl_ValidCosheaf_1.cloS, List.forall_mem_nil _⟩, List.forall_mem_nil _⟩
theorem impl_ValidCosheaf.S : Sound Go.Proofs.Tryz.prog ⟨62, impl_ValidCosheaf.sig, impl_ValidCosheaf.F⟩ := sound_any (fn := Go.Proofs.Tryz.f62) (code := impl_ValidCosheaf.code) (g := impl_ValidCosheaf.cfg) (res := [.tmp 2]) Go.Proofs.Tryz.func62 (by kernel_rfl) (by kernel_rfl) impl_ValidCosheaf.ok (by kernel_rfl) (by kernel_rfl) (Nat.le_of_ble_eq_true (by kernel_rfl)) (by kernel_rfl)
/-! ### impl_Matrix_row -/
noncomputable def impl_Matrix_row.sig : Sig := ⟨[.val true TMatrix, .val false (.int .i64)], [(.val false, (.sl (.int .i64)), .sh)]⟩
noncomputable def impl_Matrix_row.ctx : Ctx := ⟨tabOf tabl, [], [], [], [], []⟩
noncomputable def impl_Matrix_row.cfg : Cfg := ⟨impl_Matrix_row.ctx, [], [], fun _ => ([], []), fun _ => []⟩
noncomputable def impl_Matrix_row.code : Code := (Go.Proofs.Tryz.f178).body.getD .skip
noncomputable def impl_Matrix_row.fin := finK impl_Matrix_row.ctx impl_Matrix_row.sig [.tmp 4]
noncomputable def impl_Matrix_row.F (d : (Int × Int × Int × List Int) × Int × Unit) : Option ((List Int × Unit) × (Unit)) := anyK (runFn impl_Matrix_row.cfg impl_Matrix_row.fin impl_Matrix_row.code (initSt impl_Matrix_row.sig.ps d 17))
noncomputable def impl_Matrix_row.T (m_1 : Int) (m_2 : Int) (m_3 : Int) (m_4 : List Int) (i_5 : Int) : Option ((List Int × Unit) × (Unit)) :=
  if 0 ≤ (IntKind.i64.wrap (i_5 * m_3)) ∧ (IntKind.i64.wrap (i_5 * m_3)) ≤ (IntKind.i64.wrap ((IntKind.i64.wrap (i_5 + (1 : Int))) * m_3)) ∧ (IntKind.i64.wrap ((IntKind.i64.wrap (i_5 + (1 : Int))) * m_3)) ≤ (m_4.length : Int) then
    some ((cutL m_4 (IntKind.i64.wrap (i_5 * m_3)) (IntKind.i64.wrap ((IntKind.i64.wrap (i_5 + (1 : Int))) * m_3)), ()), ())
  else
    none
theorem impl_Matrix_row.run (k : Nat) (m_1 : Int) (m_2 : Int) (m_3 : Int) (m_4 : List Int) (i_5 : Int) : runFn impl_Matrix_row.cfg impl_Matrix_row.fin impl_Matrix_row.code (initSt impl_Matrix_row.sig.ps ((m_1, (m_2, (m_3, m_4))), i_5, ()) 17) k = impl_Matrix_row.T m_1 m_2 m_3 m_4 i_5 := by kernel_rfl
theorem impl_Matrix_row.eq (m_1 : Int) (m_2 : Int) (m_3 : Int) (m_4 : List Int) (i_5 : Int) : impl_Matrix_row.F ((m_1, (m_2, (m_3, m_4))), i_5, ()) = impl_Matrix_row.T m_1 m_2 m_3 m_4 i_5 := (congrArg anyK (funext fun k => impl_Matrix_row.run k m_1 m_2 m_3 m_4 i_5)).trans (anyK_const _)
theorem impl_Matrix_row.ok : CtxOK Go.Proofs.Tryz.prog impl_Matrix_row.ctx := ⟨List.forall_mem_nil _, mixed_ok, tab_ok tab_good, List.forall_mem_nil _, List.forall_mem_nil _, List.forall_mem_nil _⟩
theorem impl_Matrix_row.S : Sound Go.Proofs.Tryz.prog ⟨178, impl_Matrix_row.sig, impl_Matrix_row.F⟩ := sound_any (fn := Go.Proofs.Tryz.f178) (code := impl_Matrix_row.code) (g := impl_Matrix_row.cfg) (res := [.tmp 4]) Go.Proofs.Tryz.func178 (by kernel_rfl) (by kernel_rfl) impl_Matrix_row.ok (by kernel_rfl) (by kernel_rfl) (Nat.le_of_ble_eq_true (by kernel_rfl)) (by kernel_rfl)
/-! ### impl_rowsOf -/
noncomputable def impl_rowsOf.sig : Sig := ⟨[.val true TMatrix], [(.val false, (.sl (.sl (.int .i64))), .deep)]⟩
noncomputable def impl_rowsOf.ctx : Ctx := ⟨tabOf tabl, [⟨132, slices_Clone_Lint64_int64.sig, slices_Clone_Lint64_int64.F⟩, ⟨178, impl_Matrix_row.sig, impl_Matrix_row.F⟩], [], [], [], []⟩
noncomputable def impl_rowsOf.cfg : Cfg := ⟨impl_rowsOf.ctx, [], [], fun id => match id with | 3 => ([1, 3, 6, 7], [4, 12]) | _ => ([], []), fun _ => []⟩
noncomputable def impl_rowsOf.code : Code := (Go.Proofs.Tryz.f186).body.getD .skip
noncomputable def impl_rowsOf.fin := finK impl_rowsOf.ctx impl_rowsOf.sig [.tmp 2]
noncomputable def impl_rowsOf.F (d : (Int × Int × Int × List Int) × Unit) : Option ((List (List Int) × Unit) × (Unit)) := anyK (runFn impl_rowsOf.cfg impl_rowsOf.fin impl_rowsOf.code (initSt impl_rowsOf.sig.ps d 19))
noncomputable def impl_rowsOf.l3 (k : Nat) (i5 : Int) (i6 : Int) (i7 : Int) (i8 : Int) (i9 : Int) (x10 : List Int) (x11 : List (List Int)) : Option ((List (List Int) × Unit) × (Unit)) :=
  Go.Vm.runT impl_rowsOf.cfg impl_rowsOf.fin k [.inLoop (sub [1, 1, 0, 1, 0, 0] impl_rowsOf.code), .inBlock 0, .code (sub [1, 1, 1] impl_rowsOf.code)]
    ⟨[.dead, .ref 4 (.root 0), .dead, .view 12 (.root 0) 1 false, .dead, .dead, .val false [⟨(.int .i64), .sh, i5⟩], .val false [⟨(.int .i64), .sh, i6⟩]] ++ deads 11, [(4, ⟨true, [⟨(.int .i64), .sh, i7⟩, ⟨(.int .i64), .sh, i8⟩, ⟨(.int .i64), .sh, i9⟩, ⟨(.sl (.int .i64)), .sh, x10⟩]⟩), (12, ⟨false, [⟨(.sl (.sl (.int .i64))), .deep, x11⟩]⟩)]⟩
theorem impl_rowsOf.l3_eq (k : Nat) (i5 : Int) (i6 : Int) (i7 : Int) (i8 : Int) (i9 : Int) (x10 : List Int) (x11 : List (List Int)) : impl_rowsOf.l3 (k + 1) i5 i6 i7 i8 i9 x10 x11 =
  if (decide (i6 < i5)) = true then
    (impl_Matrix_row.F ((i7, (i8, (i9, x10))), i6, ())).bind fun r12 =>
      (slices_Clone_Lint64_int64.F (r12.1.1, ())).bind fun r13 =>
        if x11.length + ([r13.1.1] : List (List Int)).length ≤ bigA then
          impl_rowsOf.l3 k i5 (IntKind.i64.wrap (i6 + (1 : Int))) i7 i8 i9 x10 (x11 ++ ([r13.1.1]))
        else
          none
  else
    some ((x11, ()), ()) := by kernel_rfl
noncomputable def impl_rowsOf.T (k : Nat) (m_1 : Int) (m_2 : Int) (m_3 : Int) (m_4 : List Int) : Option ((List (List Int) × Unit) × (Unit)) :=
  impl_rowsOf.l3 k m_2 (0 : Int) m_1 m_2 m_3 m_4 ([])
theorem impl_rowsOf.run (k : Nat) (m_1 : Int) (m_2 : Int) (m_3 : Int) (m_4 : List Int) : runFn impl_rowsOf.cfg impl_rowsOf.fin impl_rowsOf.code (initSt impl_rowsOf.sig.ps ((m_1, (m_2, (m_3, m_4))), ()) 19) k = impl_rowsOf.T k m_1 m_2 m_3 m_4 := by kernel_rfl
theorem impl_rowsOf.of (m_1 : Int) (m_2 : Int) (m_3 : Int) (m_4 : List Int) {r : (List (List Int) × Unit) × (Unit)} (h : Ev (fun k => impl_rowsOf.T k m_1 m_2 m_3 m_4) r) : impl_rowsOf.F ((m_1, (m_2, (m_3, m_4))), ()) = some r := Ev.run (fun k => impl_rowsOf.run k m_1 m_2 m_3 m_4) h
theorem impl_rowsOf.ok : CtxOK Go.Proofs.Tryz.prog impl_rowsOf.ctx := ⟨List.forall_mem_nil _, mixed_ok, tab_ok tab_good, List.forall_mem_cons.2 ⟨slices_Clone_Lint64_int64.S, List.forall_mem_cons.2 ⟨impl_Matrix_row.S, List.forall_mem_nil _⟩⟩, List.forall_mem_nil _, List.forall_mem_nil _⟩
theorem impl_rowsOf.S : Sound Go.Proofs.Tryz.prog ⟨186, impl_rowsOf.sig, impl_rowsOf.F⟩ := sound_any (fn := Go.Proofs.Tryz.f186) (code := impl_rowsOf.code) (g := impl_rowsOf.cfg) (res := [.tmp 2]) Go.Proofs.Tryz.func186 (by kernel_rfl) (by kernel_rfl) impl_rowsOf.ok (by kernel_rfl) (by kernel_rfl) (Nat.le_of_ble_eq_true (by kernel_rfl)) (by kernel_rfl)
/-! ### impl_columnsOf -/
noncomputable def impl_columnsOf.sig : Sig := ⟨[.val true TMatrix], [(.val false, (.sl (.sl (.int .i64))), .deep)]⟩
noncomputable def impl_columnsOf.ctx : Ctx := ⟨tabOf tabl, [⟨97, impl_transpose.sig, impl_transpose.F⟩, ⟨186, impl_rowsOf.sig, impl_rowsOf.F⟩], [], [], [], []⟩
noncomputable def impl_columnsOf.cfg : Cfg := ⟨impl_columnsOf.ctx, [], [], fun _ => ([], []), fun _ => []⟩
noncomputable def impl_columnsOf.code : Code := (Go.Proofs.Tryz.f123).body.getD .skip
noncomputable def impl_columnsOf.fin := finK impl_columnsOf.ctx impl_columnsOf.sig [.tmp 2]
noncomputable def impl_columnsOf.F (d : (Int × Int × Int × List Int) × Unit) : Option ((List (List Int) × Unit) × (Unit)) := anyK (runFn impl_columnsOf.cfg impl_columnsOf.fin impl_columnsOf.code (initSt impl_columnsOf.sig.ps d 6))
noncomputable def impl_columnsOf.T (m_1 : Int) (m_2 : Int) (m_3 : Int) (m_4 : List Int) : Option ((List (List Int) × Unit) × (Unit)) :=
  (impl_transpose.F ((m_1, (m_2, (m_3, m_4))), ())).bind fun r5 =>
    (impl_rowsOf.F (r5.1.1, ())).bind fun r6 =>
      some ((r6.1.1, ()), ())
theorem impl_columnsOf.run (k : Nat) (m_1 : Int) (m_2 : Int) (m_3 : Int) (m_4 : List Int) : runFn impl_columnsOf.cfg impl_columnsOf.fin impl_columnsOf.code (initSt impl_columnsOf.sig.ps ((m_1, (m_2, (m_3, m_4))), ()) 6) k = impl_columnsOf.T m_1 m_2 m_3 m_4 := by kernel_rfl
theorem impl_columnsOf.eq (m_1 : Int) (m_2 : Int) (m_3 : Int) (m_4 : List Int) : impl_columnsOf.F ((m_1, (m_2, (m_3, m_4))), ()) = impl_columnsOf.T m_1 m_2 m_3 m_4 := (congrArg anyK (funext fun k => impl_columnsOf.run k m_1 m_2 m_3 m_4)).trans (anyK_const _)
theorem impl_columnsOf.ok : CtxOK Go.Proofs.Tryz.prog impl_columnsOf.ctx := ⟨List.forall_mem_nil _, mixed_ok, tab_ok tab_good, List.forall_mem_cons.2 ⟨impl_transpose.S, List.forall_mem_cons.2 ⟨impl_rowsOf.S, List.forall_mem_nil _⟩⟩, List.forall_mem_nil _, List.forall_mem_nil _⟩
theorem impl_columnsOf.S : Sound Go.Proofs.Tryz.prog ⟨123, impl_columnsOf.sig, impl_columnsOf.F⟩ := sound_any (fn := Go.Proofs.Tryz.f123) (code := impl_columnsOf.code) (g := impl_columnsOf.cfg) (res := [.tmp 2]) Go.Proofs.Tryz.func123 (by kernel_rfl) (by kernel_rfl) impl_columnsOf.ok (by kernel_rfl) (by kernel_rfl) (Nat.le_of_ble_eq_true (by kernel_rfl)) (by kernel_rfl)
/-! ### impl_dot -/
noncomputable def impl_dot.sig : Sig := ⟨[.val false (.sl (.int .i64)), .val false (.sl (.int .i64)), .val false (.int .i64)], [(.val false, (.int .i64), .deep)]⟩
noncomputable def impl_dot.ctx : Ctx := ⟨tabOf tabl, [], [], [], [], []⟩
noncomputable def impl_dot.cfg : Cfg := ⟨impl_dot.ctx, [], [], fun id => match id with | 3 => ([0, 1, 2, 7, 10, 11], []) | _ => ([], []), fun _ => []⟩
noncomputable def impl_dot.code : Code := (Go.Proofs.Tryz.f177).body.getD .skip
noncomputable def impl_dot.fin := finK impl_dot.ctx impl_dot.sig [.tmp 6]
noncomputable def impl_dot.F (d : List Int × List Int × Int × Unit) : Option ((Int × Unit) × (Unit)) := anyK (runFn impl_dot.cfg impl_dot.fin impl_dot.code (initSt impl_dot.sig.ps d 29))
noncomputable def impl_dot.l3 (k : Nat) (x4 : List Int) (x5 : List Int) (i6 : Int) (i7 : Int) (i8 : Int) (i9 : Int) : Option ((Int × Unit) × (Unit)) :=
  Go.Vm.runT impl_dot.cfg impl_dot.fin k [.inLoop (sub [1, 1, 0, 1, 0, 0] impl_dot.code), .inBlock 0, .code (sub [1, 1, 1] impl_dot.code)]
    ⟨[.val false [⟨(.sl (.int .i64)), .sh, x4⟩], .val false [⟨(.sl (.int .i64)), .sh, x5⟩], .val false [⟨(.int .i64), .sh, i6⟩], .dead, .dead, .dead, .dead, .val false [⟨(.int .i64), .sh, i7⟩], .dead, .dead, .val false [⟨(.int .i64), .sh, i8⟩], .val false [⟨(.int .i64), .sh, i9⟩]] ++ deads 17, []⟩
theorem impl_dot.l3_eq (k : Nat) (x4 : List Int) (x5 : List Int) (i6 : Int) (i7 : Int) (i8 : Int) (i9 : Int) : impl_dot.l3 (k + 1) x4 x5 i6 i7 i8 i9 =
  if (decide (i9 < i8)) = true then
    if 0 ≤ i9 ∧ i9 < (x4.length : Int) then
      if 0 ≤ i9 ∧ i9 < (x5.length : Int) then
        if i6 = 0 then
          none
        else
          impl_dot.l3 k x4 x5 i6 ((IntKind.i64.wrap (i7 + (IntKind.i64.wrap ((x4.getD i9.toNat 0 : Int) * (x5.getD i9.toNat 0 : Int))))).tmod i6) i8 (IntKind.i64.wrap (i9 + (1 : Int)))
      else
        none
    else
      none
  else
    some ((i7, ()), ()) := by kernel_rfl
noncomputable def impl_dot.T (k : Nat) (a_1 : List Int) (b_2 : List Int) (p_3 : Int) : Option ((Int × Unit) × (Unit)) :=
  impl_dot.l3 k a_1 b_2 p_3 (0 : Int) (a_1.length : Int) (0 : Int)
theorem impl_dot.run (k : Nat) (a_1 : List Int) (b_2 : List Int) (p_3 : Int) : runFn impl_dot.cfg impl_dot.fin impl_dot.code (initSt impl_dot.sig.ps (a_1, b_2, p_3, ()) 29) k = impl_dot.T k a_1 b_2 p_3 := by kernel_rfl
theorem impl_dot.of (a_1 : List Int) (b_2 : List Int) (p_3 : Int) {r : (Int × Unit) × (Unit)} (h : Ev (fun k => impl_dot.T k a_1 b_2 p_3) r) : impl_dot.F (a_1, b_2, p_3, ()) = some r := Ev.run (fun k => impl_dot.run k a_1 b_2 p_3) h
theorem impl_dot.ok : CtxOK Go.Proofs.Tryz.prog impl_dot.ctx := ⟨List.forall_mem_nil _, mixed_ok, tab_ok tab_good, List.forall_mem_nil _, List.forall_mem_nil _, List.forall_mem_nil _⟩
theorem impl_dot.S : Sound Go.Proofs.Tryz.prog ⟨177, impl_dot.sig, impl_dot.F⟩ := sound_any (fn := Go.Proofs.Tryz.f177) (code := impl_dot.code) (g := impl_dot.cfg) (res := [.tmp 6]) Go.Proofs.Tryz.func177 (by kernel_rfl) (by kernel_rfl) impl_dot.ok (by kernel_rfl) (by kernel_rfl) (Nat.le_of_ble_eq_true (by kernel_rfl)) (by kernel_rfl)
/-! ### impl_product_1 -/
noncomputable def impl_product_1.sig : Sig := ⟨[.val false (.int .i64), .val false (.int .i64), .rptr TMatrix, .rptr (.sl (.sl (.int .i64)))], [(.val false, (.int .i64), .deep)]⟩
noncomputable def impl_product_1.ctx : Ctx := ⟨tabOf tabl, [⟨177, impl_dot.sig, impl_dot.F⟩, ⟨178, impl_Matrix_row.sig, impl_Matrix_row.F⟩], [], [], [], []⟩
noncomputable def impl_product_1.cfg : Cfg := ⟨impl_product_1.ctx, [], [], fun _ => ([], []), fun _ => []⟩
noncomputable def impl_product_1.code : Code := (Go.Proofs.Tryz.f176).body.getD .skip
noncomputable def impl_product_1.fin := finK impl_product_1.ctx impl_product_1.sig [.tmp 6]
noncomputable def impl_product_1.F (d : Int × Int × (Int × Int × Int × List Int) × List (List Int) × Unit) : Option ((Int × Unit) × (Unit)) := anyK (runFn impl_product_1.cfg impl_product_1.fin impl_product_1.code (initSt impl_product_1.sig.ps d 17))
noncomputable def impl_product_1.T (i_1 : Int) (j_2 : Int) (a_3 : Int) (a_4 : Int) (a_5 : Int) (a_6 : List Int) (a_7 : List (List Int)) : Option ((Int × Unit) × (Unit)) :=
  (impl_Matrix_row.F ((a_3, (a_4, (a_5, a_6))), i_1, ())).bind fun r8 =>
    if 0 ≤ j_2 ∧ j_2 < (a_7.length : Int) then
      (impl_dot.F (r8.1.1, a_7.getD j_2.toNat ([] : List Int), a_3, ())).bind fun r9 =>
        some (((r9.1.1 : Int), ()), ())
    else
      none
theorem impl_product_1.run (k : Nat) (i_1 : Int) (j_2 : Int) (a_3 : Int) (a_4 : Int) (a_5 : Int) (a_6 : List Int) (a_7 : List (List Int)) : runFn impl_product_1.cfg impl_product_1.fin impl_product_1.code (initSt impl_product_1.sig.ps (i_1, j_2, (a_3, (a_4, (a_5, a_6))), a_7, ()) 17) k = impl_product_1.T i_1 j_2 a_3 a_4 a_5 a_6 a_7 := by kernel_rfl
theorem impl_product_1.eq (i_1 : Int) (j_2 : Int) (a_3 : Int) (a_4 : Int) (a_5 : Int) (a_6 : List Int) (a_7 : List (List Int)) : impl_product_1.F (i_1, j_2, (a_3, (a_4, (a_5, a_6))), a_7, ()) = impl_product_1.T i_1 j_2 a_3 a_4 a_5 a_6 a_7 := (congrArg anyK (funext fun k => impl_product_1.run k i_1 j_2 a_3 a_4 a_5 a_6 a_7)).trans (anyK_const _)
theorem impl_product_1.ok : CtxOK Go.Proofs.Tryz.prog impl_product_1.ctx := ⟨List.forall_mem_nil _, mixed_ok, tab_ok tab_good, List.forall_mem_cons.2 ⟨impl_dot.S, List.forall_mem_cons.2 ⟨impl_Matrix_row.S, List.forall_mem_nil _⟩⟩, List.forall_mem_nil _, List.forall_mem_nil _⟩
theorem impl_product_1.S : Sound Go.Proofs.Tryz.prog ⟨176, impl_product_1.sig, impl_product_1.F⟩ := sound_any (fn := Go.Proofs.Tryz.f176) (code := impl_product_1.code) (g := impl_product_1.cfg) (res := [.tmp 6]) Go.Proofs.Tryz.func176 (by kernel_rfl) (by kernel_rfl) impl_product_1.ok (by kernel_rfl) (by kernel_rfl) (Nat.le_of_ble_eq_true (by kernel_rfl)) (by kernel_rfl)
noncomputable def impl_product_1.cloG (y : (Int × Int × Int × List Int) × List (List Int) × Unit) (d : Int × Int × Unit) : Option (Int × Unit) := (impl_product_1.F (joinIns [.rptr TMatrix, .rptr (.sl (.sl (.int .i64)))] [(false, (.int .i64)), (false, (.int .i64))] d y)).map (·.1)
noncomputable def impl_product_1.clo : Clo := ⟨176, ⟨[(false, (.int .i64)), (false, (.int .i64))], [(.val false, (.int .i64), .deep)]⟩, [.rptr TMatrix, .rptr (.sl (.sl (.int .i64)))], impl_product_1.cloG⟩
theorem impl_product_1.cloS : SoundClo Go.Proofs.Tryz.prog impl_product_1.clo := sound_clo (s := ⟨[(false, (.int .i64)), (false, (.int .i64))], [(.val false, (.int .i64), .deep)]⟩) (caps := [.rptr TMatrix, .rptr (.sl (.sl (.int .i64)))]) rfl impl_product_1.S
/-! ### impl_product -/
noncomputable def impl_product.sig : Sig := ⟨[.val true TMatrix, .val true TMatrix], [(.val true, TMatrix, .deep)]⟩
noncomputable def impl_product.ctx : Ctx := ⟨tabOf tabl, [⟨123, impl_columnsOf.sig, impl_columnsOf.F⟩, ⟨144, impl_filled.sig, impl_filled.F⟩], [impl_product_1.clo], [], [], []⟩
noncomputable def impl_product.cfg : Cfg := ⟨impl_product.ctx, [], [], fun _ => ([], []), fun _ => []⟩
noncomputable def impl_product.code : Code := (Go.Proofs.Tryz.f101).body.getD .skip
noncomputable def impl_product.fin := finK impl_product.ctx impl_product.sig [.cell 4 65]
noncomputable def impl_product.F (d : (Int × Int × Int × List Int) × (Int × Int × Int × List Int) × Unit) : Option (((Int × Int × Int × List Int) × Unit) × (Unit)) := anyK (runFn impl_product.cfg impl_product.fin impl_product.code (initSt impl_product.sig.ps d 16))
noncomputable def impl_product.T (a_1 : Int) (a_2 : Int) (a_3 : Int) (a_4 : List Int) (b_5 : Int) (b_6 : Int) (b_7 : Int) (b_8 : List Int) : Option (((Int × Int × Int × List Int) × Unit) × (Unit)) :=
  (impl_columnsOf.F ((b_5, (b_6, (b_7, b_8))), ())).bind fun r9 =>
    (impl_filled.F (a_1, a_2, b_7, impl_product_1.cloG ((a_1, (a_2, (a_3, a_4))), r9.1.1, ()), ())).bind fun r10 =>
      some ((r10.1.1, ()), ())
theorem impl_product.run (k : Nat) (a_1 : Int) (a_2 : Int) (a_3 : Int) (a_4 : List Int) (b_5 : Int) (b_6 : Int) (b_7 : Int) (b_8 : List Int) : runFn impl_product.cfg impl_product.fin impl_product.code (initSt impl_product.sig.ps ((a_1, (a_2, (a_3, a_4))), (b_5, (b_6, (b_7, b_8))), ()) 16) k = impl_product.T a_1 a_2 a_3 a_4 b_5 b_6 b_7 b_8 := by kernel_rfl
theorem impl_product.eq (a_1 : Int) (a_2 : Int) (a_3 : Int) (a_4 : List Int) (b_5 : Int) (b_6 : Int) (b_7 : Int) (b_8 : List Int) : impl_product.F ((a_1, (a_2, (a_3, a_4))), (b_5, (b_6, (b_7, b_8))), ()) = impl_product.T a_1 a_2 a_3 a_4 b_5 b_6 b_7 b_8 := (congrArg anyK (funext fun k => impl_product.run k a_1 a_2 a_3 a_4 b_5 b_6 b_7 b_8)).trans (anyK_const _)
theorem impl_product.ok : CtxOK Go.Proofs.Tryz.prog impl_product.ctx := ⟨List.forall_mem_nil _, mixed_ok, tab_ok tab_good, List.forall_mem_cons.2 ⟨impl_columnsOf.S, List.forall_mem_cons.2 ⟨impl_filled.S, List.forall_mem_nil _⟩⟩, List.forall_mem_cons.2 ⟨impl_product_1.cloS, List.forall_mem_nil _⟩, List.forall_mem_nil _⟩
theorem impl_product.S : Sound Go.Proofs.Tryz.prog ⟨101, impl_product.sig, impl_product.F⟩ := sound_any (fn := Go.Proofs.Tryz.f101) (code := impl_product.code) (g := impl_product.cfg) (res := [.cell 4 65]) Go.Proofs.Tryz.func101 (by kernel_rfl) (by kernel_rfl) impl_product.ok (by kernel_rfl) (by kernel_rfl) (Nat.le_of_ble_eq_true (by kernel_rfl)) (by kernel_rfl)
/-! ### slices_Equal_Lint64_int64 -/
noncomputable def slices_Equal_Lint64_int64.sig : Sig := ⟨[.val false (.sl (.int .i64)), .val false (.sl (.int .i64))], [(.val false, .bool, .deep)]⟩
noncomputable def slices_Equal_Lint64_int64.ctx : Ctx := ⟨tabOf tabl, [], [], [], [], []⟩
noncomputable def slices_Equal_Lint64_int64.cfg : Cfg := ⟨slices_Equal_Lint64_int64.ctx, [], [], fun id => match id with | 4 => ([0, 1, 12, 13], []) | _ => ([], []), fun _ => []⟩
noncomputable def slices_Equal_Lint64_int64.code : Code := (Go.Proofs.Tryz.f203).body.getD .skip
noncomputable def slices_Equal_Lint64_int64.fin := finK slices_Equal_Lint64_int64.ctx slices_Equal_Lint64_int64.sig [.tmp 4]
noncomputable def slices_Equal_Lint64_int64.F (d : List Int × List Int × Unit) : Option ((Bool × Unit) × (Unit)) := anyK (runFn slices_Equal_Lint64_int64.cfg slices_Equal_Lint64_int64.fin slices_Equal_Lint64_int64.code (initSt slices_Equal_Lint64_int64.sig.ps d 26))
noncomputable def slices_Equal_Lint64_int64.l4 (k : Nat) (x3 : List Int) (x4 : List Int) (i5 : Int) (i6 : Int) : Option ((Bool × Unit) × (Unit)) :=
  Go.Vm.runT slices_Equal_Lint64_int64.cfg slices_Equal_Lint64_int64.fin k [.inLoop (sub [1, 1, 0, 1, 0, 0] slices_Equal_Lint64_int64.code), .inBlock 0, .code (sub [1, 1, 1] slices_Equal_Lint64_int64.code)]
    ⟨[.val false [⟨(.sl (.int .i64)), .sh, x3⟩], .val false [⟨(.sl (.int .i64)), .sh, x4⟩], .dead, .dead, .dead, .dead, .dead, .dead, .dead, .dead, .dead, .dead, .val false [⟨(.int .i64), .sh, i5⟩], .val false [⟨(.int .i64), .sh, i6⟩]] ++ deads 12, []⟩
theorem slices_Equal_Lint64_int64.l4_eq (k : Nat) (x3 : List Int) (x4 : List Int) (i5 : Int) (i6 : Int) : slices_Equal_Lint64_int64.l4 (k + 1) x3 x4 i5 i6 =
  if (decide (i6 < i5)) = true then
    if 0 ≤ i6 ∧ i6 < (x3.length : Int) then
      if 0 ≤ i6 ∧ i6 < (x4.length : Int) then
        if ((x3.getD i6.toNat 0 : Int) != (x4.getD i6.toNat 0 : Int)) = true then
          some ((false, ()), ())
        else
          slices_Equal_Lint64_int64.l4 k x3 x4 i5 (IntKind.i64.wrap (i6 + (1 : Int)))
      else
        none
    else
      none
  else
    some ((true, ()), ()) := by kernel_rfl
noncomputable def slices_Equal_Lint64_int64.T (k : Nat) (s1_1 : List Int) (s2_2 : List Int) : Option ((Bool × Unit) × (Unit)) :=
  if ((s1_1.length : Int) != (s2_2.length : Int)) = true then
    some ((false, ()), ())
  else
    slices_Equal_Lint64_int64.l4 k s1_1 s2_2 (s1_1.length : Int) (0 : Int)
theorem slices_Equal_Lint64_int64.run (k : Nat) (s1_1 : List Int) (s2_2 : List Int) : runFn slices_Equal_Lint64_int64.cfg slices_Equal_Lint64_int64.fin slices_Equal_Lint64_int64.code (initSt slices_Equal_Lint64_int64.sig.ps (s1_1, s2_2, ()) 26) k = slices_Equal_Lint64_int64.T k s1_1 s2_2 := by kernel_rfl
theorem slices_Equal_Lint64_int64.of (s1_1 : List Int) (s2_2 : List Int) {r : (Bool × Unit) × (Unit)} (h : Ev (fun k => slices_Equal_Lint64_int64.T k s1_1 s2_2) r) : slices_Equal_Lint64_int64.F (s1_1, s2_2, ()) = some r := Ev.run (fun k => slices_Equal_Lint64_int64.run k s1_1 s2_2) h
theorem slices_Equal_Lint64_int64.ok : CtxOK Go.Proofs.Tryz.prog slices_Equal_Lint64_int64.ctx := ⟨List.forall_mem_nil _, mixed_ok, tab_ok tab_good, List.forall_mem_nil _, List.forall_mem_nil _, List.forall_mem_nil _⟩
theorem slices_Equal_Lint64_int64.S : Sound Go.Proofs.Tryz.prog ⟨203, slices_Equal_Lint64_int64.sig, slices_Equal_Lint64_int64.F⟩ := sound_any (fn := Go.Proofs.Tryz.f203) (code := slices_Equal_Lint64_int64.code) (g := slices_Equal_Lint64_int64.cfg) (res := [.tmp 4]) Go.Proofs.Tryz.func203 (by kernel_rfl) (by kernel_rfl) slices_Equal_Lint64_int64.ok (by kernel_rfl) (by kernel_rfl) (Nat.le_of_ble_eq_true (by kernel_rfl)) (by kernel_rfl)
/-! ### impl_SameMatrix -/
noncomputable def impl_SameMatrix.sig : Sig := ⟨[.val true TMatrix, .val true TMatrix], [(.val false, .bool, .deep)]⟩
noncomputable def impl_SameMatrix.ctx : Ctx := ⟨tabOf tabl, [⟨203, slices_Equal_Lint64_int64.sig, slices_Equal_Lint64_int64.F⟩], [], [], [], []⟩
noncomputable def impl_SameMatrix.cfg : Cfg := ⟨impl_SameMatrix.ctx, [], [], fun _ => ([], []), fun _ => []⟩
noncomputable def impl_SameMatrix.code : Code := (Go.Proofs.Tryz.f142).body.getD .skip
noncomputable def impl_SameMatrix.fin := finK impl_SameMatrix.ctx impl_SameMatrix.sig [.tmp 4]
noncomputable def impl_SameMatrix.F (d : (Int × Int × Int × List Int) × (Int × Int × Int × List Int) × Unit) : Option ((Bool × Unit) × (Unit)) := anyK (runFn impl_SameMatrix.cfg impl_SameMatrix.fin impl_SameMatrix.code (initSt impl_SameMatrix.sig.ps d 31))
noncomputable def impl_SameMatrix.T (a_1 : Int) (a_2 : Int) (a_3 : Int) (a_4 : List Int) (b_5 : Int) (b_6 : Int) (b_7 : Int) (b_8 : List Int) : Option ((Bool × Unit) × (Unit)) :=
  if (a_1 == b_5) = true then
    if (a_2 == b_6) = true then
      if (a_3 == b_7) = true then
        (slices_Equal_Lint64_int64.F (a_4, b_8, ())).bind fun r9 =>
          some (((r9.1.1 : Bool), ()), ())
      else
        some ((false, ()), ())
    else
      some ((false, ()), ())
  else
    some ((false, ()), ())
theorem impl_SameMatrix.run (k : Nat) (a_1 : Int) (a_2 : Int) (a_3 : Int) (a_4 : List Int) (b_5 : Int) (b_6 : Int) (b_7 : Int) (b_8 : List Int) : runFn impl_SameMatrix.cfg impl_SameMatrix.fin impl_SameMatrix.code (initSt impl_SameMatrix.sig.ps ((a_1, (a_2, (a_3, a_4))), (b_5, (b_6, (b_7, b_8))), ()) 31) k = impl_SameMatrix.T a_1 a_2 a_3 a_4 b_5 b_6 b_7 b_8 := by kernel_rfl
theorem impl_SameMatrix.eq (a_1 : Int) (a_2 : Int) (a_3 : Int) (a_4 : List Int) (b_5 : Int) (b_6 : Int) (b_7 : Int) (b_8 : List Int) : impl_SameMatrix.F ((a_1, (a_2, (a_3, a_4))), (b_5, (b_6, (b_7, b_8))), ()) = impl_SameMatrix.T a_1 a_2 a_3 a_4 b_5 b_6 b_7 b_8 := (congrArg anyK (funext fun k => impl_SameMatrix.run k a_1 a_2 a_3 a_4 b_5 b_6 b_7 b_8)).trans (anyK_const _)
theorem impl_SameMatrix.ok : CtxOK Go.Proofs.Tryz.prog impl_SameMatrix.ctx := ⟨List.forall_mem_nil _, mixed_ok, tab_ok tab_good, List.forall_mem_cons.2 ⟨slices_Equal_Lint64_int64.S, List.forall_mem_nil _⟩, List.forall_mem_nil _, List.forall_mem_nil _⟩
theorem impl_SameMatrix.S : Sound Go.Proofs.Tryz.prog ⟨142, impl_SameMatrix.sig, impl_SameMatrix.F⟩ := sound_any (fn := Go.Proofs.Tryz.f142) (code := impl_SameMatrix.code) (g := impl_SameMatrix.cfg) (res := [.tmp 4]) Go.Proofs.Tryz.func142 (by kernel_rfl) (by kernel_rfl) impl_SameMatrix.ok (by kernel_rfl) (by kernel_rfl) (Nat.le_of_ble_eq_true (by kernel_rfl)) (by kernel_rfl)
/-! ### impl_firstMap -/
noncomputable def impl_firstMap.sig : Sig := ⟨[.val true TSheaf, .val false (.int .i64)], [(.val false, (.int .i64), .deep)]⟩
noncomputable def impl_firstMap.ctx : Ctx := ⟨tabOf tabl, [⟨161, impl_size_int64.sig, impl_size_int64.F⟩], [], [], [], []⟩
noncomputable def impl_firstMap.cfg : Cfg := ⟨impl_firstMap.ctx, [], [], fun id => match id with | 3 => ([5, 12, 13, 14], []) | _ => ([], []), fun _ => []⟩
noncomputable def impl_firstMap.code : Code := (Go.Proofs.Tryz.f233).body.getD .skip
noncomputable def impl_firstMap.fin := finK impl_firstMap.ctx impl_firstMap.sig [.tmp 4]
noncomputable def impl_firstMap.F (d : (List (List Int) × Int × List Int × List (Int × Int × Int × List Int)) × Int × Unit) : Option ((Int × Unit) × (Unit)) := anyK (runFn impl_firstMap.cfg impl_firstMap.fin impl_firstMap.code (initSt impl_firstMap.sig.ps d 27))
noncomputable def impl_firstMap.l3 (k : Nat) (i6 : Int) (x7 : List (List Int)) (i8 : Int) (i9 : Int) : Option ((Int × Unit) × (Unit)) :=
  Go.Vm.runT impl_firstMap.cfg impl_firstMap.fin k [.inLoop (sub [1, 1, 0, 1, 0, 0] impl_firstMap.code), .inBlock 0, .code (sub [1, 1, 1] impl_firstMap.code)]
    ⟨[.dead, .dead, .dead, .dead, .dead, .val false [⟨(.int .i64), .sh, i6⟩], .dead, .dead, .dead, .dead, .dead, .dead, .val false [⟨(.sl (.sl (.int .i64))), .sh, x7⟩], .val false [⟨(.int .i64), .sh, i8⟩], .val false [⟨(.int .i64), .sh, i9⟩]] ++ deads 12, []⟩
theorem impl_firstMap.l3_eq (k : Nat) (i6 : Int) (x7 : List (List Int)) (i8 : Int) (i9 : Int) : impl_firstMap.l3 (k + 1) i6 x7 i8 i9 =
  if (decide (i9 < i8)) = true then
    if 0 ≤ i9 ∧ i9 < (x7.length : Int) then
      if (decide (((x7.getD i9.toNat ([] : List Int)).length : Int) > (1 : Int))) = true then
        (impl_size_int64.F (x7.getD i9.toNat ([] : List Int), ())).bind fun r10 =>
          impl_firstMap.l3 k (IntKind.i64.wrap (i6 + (r10.1.1 : Int))) x7 i8 (IntKind.i64.wrap (i9 + (1 : Int)))
      else
        impl_firstMap.l3 k i6 x7 i8 (IntKind.i64.wrap (i9 + (1 : Int)))
    else
      none
  else
    some ((i6, ()), ()) := by kernel_rfl
noncomputable def impl_firstMap.T (k : Nat) (s_1 : List (List Int)) (s_2 : Int) (s_3 : List Int) (s_4 : List (Int × Int × Int × List Int)) (simplex_5 : Int) : Option ((Int × Unit) × (Unit)) :=
  if 0 ≤ (0 : Int) ∧ (0 : Int) ≤ simplex_5 ∧ simplex_5 ≤ (s_1.length : Int) then
    impl_firstMap.l3 k (0 : Int) (cutL s_1 (0 : Int) simplex_5) ((cutL s_1 (0 : Int) simplex_5).length : Int) (0 : Int)
  else
    none
theorem impl_firstMap.run (k : Nat) (s_1 : List (List Int)) (s_2 : Int) (s_3 : List Int) (s_4 : List (Int × Int × Int × List Int)) (simplex_5 : Int) : runFn impl_firstMap.cfg impl_firstMap.fin impl_firstMap.code (initSt impl_firstMap.sig.ps ((s_1, (s_2, (s_3, s_4))), simplex_5, ()) 27) k = impl_firstMap.T k s_1 s_2 s_3 s_4 simplex_5 := by kernel_rfl
theorem impl_firstMap.of (s_1 : List (List Int)) (s_2 : Int) (s_3 : List Int) (s_4 : List (Int × Int × Int × List Int)) (simplex_5 : Int) {r : (Int × Unit) × (Unit)} (h : Ev (fun k => impl_firstMap.T k s_1 s_2 s_3 s_4 simplex_5) r) : impl_firstMap.F ((s_1, (s_2, (s_3, s_4))), simplex_5, ()) = some r := Ev.run (fun k => impl_firstMap.run k s_1 s_2 s_3 s_4 simplex_5) h
theorem impl_firstMap.ok : CtxOK Go.Proofs.Tryz.prog impl_firstMap.ctx := ⟨List.forall_mem_nil _, mixed_ok, tab_ok tab_good, List.forall_mem_cons.2 ⟨impl_size_int64.S, List.forall_mem_nil _⟩, List.forall_mem_nil _, List.forall_mem_nil _⟩
theorem impl_firstMap.S : Sound Go.Proofs.Tryz.prog ⟨233, impl_firstMap.sig, impl_firstMap.F⟩ := sound_any (fn := Go.Proofs.Tryz.f233) (code := impl_firstMap.code) (g := impl_firstMap.cfg) (res := [.tmp 4]) Go.Proofs.Tryz.func233 (by kernel_rfl) (by kernel_rfl) impl_firstMap.ok (by kernel_rfl) (by kernel_rfl) (Nat.le_of_ble_eq_true (by kernel_rfl)) (by kernel_rfl)
/-! ### impl_direct -/
noncomputable def impl_direct.sig : Sig := ⟨[.val true TSheaf, .val false (.int .i64), .val false (.int .i64)], [(.val true, TMatrix, .sh)]⟩
noncomputable def impl_direct.ctx : Ctx := ⟨tabOf tabl, [⟨233, impl_firstMap.sig, impl_firstMap.F⟩], [], [], [], []⟩
noncomputable def impl_direct.cfg : Cfg := ⟨impl_direct.ctx, [], [], fun _ => ([], []), fun _ => []⟩
noncomputable def impl_direct.code : Code := (Go.Proofs.Tryz.f190).body.getD .skip
noncomputable def impl_direct.fin := finK impl_direct.ctx impl_direct.sig [.cell 6 65]
noncomputable def impl_direct.F (d : (List (List Int) × Int × List Int × List (Int × Int × Int × List Int)) × Int × Int × Unit) : Option (((Int × Int × Int × List Int) × Unit) × (Unit)) := anyK (runFn impl_direct.cfg impl_direct.fin impl_direct.code (initSt impl_direct.sig.ps d 16))
noncomputable def impl_direct.T (s_1 : List (List Int)) (s_2 : Int) (s_3 : List Int) (s_4 : List (Int × Int × Int × List Int)) (simplex_5 : Int) (place_6 : Int) : Option (((Int × Int × Int × List Int) × Unit) × (Unit)) :=
  (impl_firstMap.F ((s_1, (s_2, (s_3, s_4))), simplex_5, ())).bind fun r7 =>
    if 0 ≤ (IntKind.i64.wrap ((r7.1.1 : Int) + place_6)) ∧ (IntKind.i64.wrap ((r7.1.1 : Int) + place_6)) < (s_4.length : Int) then
      let y8 : Int := (s_4.getD (IntKind.i64.wrap ((r7.1.1 : Int) + place_6)).toNat (0, 0, 0, ([] : List Int))).1
      let y9 : Int := ((s_4.getD (IntKind.i64.wrap ((r7.1.1 : Int) + place_6)).toNat (0, 0, 0, ([] : List Int))).2).1
      let y10 : Int := (((s_4.getD (IntKind.i64.wrap ((r7.1.1 : Int) + place_6)).toNat (0, 0, 0, ([] : List Int))).2).2).1
      let y11 : List Int := (((s_4.getD (IntKind.i64.wrap ((r7.1.1 : Int) + place_6)).toNat (0, 0, 0, ([] : List Int))).2).2).2
      some (((y8, (y9, (y10, y11))), ()), ())
    else
      none
theorem impl_direct.run (k : Nat) (s_1 : List (List Int)) (s_2 : Int) (s_3 : List Int) (s_4 : List (Int × Int × Int × List Int)) (simplex_5 : Int) (place_6 : Int) : runFn impl_direct.cfg impl_direct.fin impl_direct.code (initSt impl_direct.sig.ps ((s_1, (s_2, (s_3, s_4))), simplex_5, place_6, ()) 16) k = impl_direct.T s_1 s_2 s_3 s_4 simplex_5 place_6 := by kernel_rfl
theorem impl_direct.eq (s_1 : List (List Int)) (s_2 : Int) (s_3 : List Int) (s_4 : List (Int × Int × Int × List Int)) (simplex_5 : Int) (place_6 : Int) : impl_direct.F ((s_1, (s_2, (s_3, s_4))), simplex_5, place_6, ()) = impl_direct.T s_1 s_2 s_3 s_4 simplex_5 place_6 := (congrArg anyK (funext fun k => impl_direct.run k s_1 s_2 s_3 s_4 simplex_5 place_6)).trans (anyK_const _)
theorem impl_direct.ok : CtxOK Go.Proofs.Tryz.prog impl_direct.ctx := ⟨List.forall_mem_nil _, mixed_ok, tab_ok tab_good, List.forall_mem_cons.2 ⟨impl_firstMap.S, List.forall_mem_nil _⟩, List.forall_mem_nil _, List.forall_mem_nil _⟩
theorem impl_direct.S : Sound Go.Proofs.Tryz.prog ⟨190, impl_direct.sig, impl_direct.F⟩ := sound_any (fn := Go.Proofs.Tryz.f190) (code := impl_direct.code) (g := impl_direct.cfg) (res := [.cell 6 65]) Go.Proofs.Tryz.func190 (by kernel_rfl) (by kernel_rfl) impl_direct.ok (by kernel_rfl) (by kernel_rfl) (Nat.le_of_ble_eq_true (by kernel_rfl)) (by kernel_rfl)
/-! ### impl_wrongSquare -/
noncomputable def impl_wrongSquare.sig : Sig := ⟨[.val true TSheaf], [(.val false, (.int .i64), .deep), (.val false, (.int .i64), .deep), (.val false, .bool, .deep)]⟩
noncomputable def impl_wrongSquare.ctx : Ctx := ⟨tabOf tabl, [⟨101, impl_product.sig, impl_product.F⟩, ⟨142, impl_SameMatrix.sig, impl_SameMatrix.F⟩, ⟨184, impl_faceIndices.sig, impl_faceIndices.F⟩, ⟨190, impl_direct.sig, impl_direct.F⟩], [], [], [], []⟩
noncomputable def impl_wrongSquare.cfg : Cfg := ⟨impl_wrongSquare.ctx, [], [], fun id => match id with | 2 => ([1, 15, 16, 17], [4]) | 8 => ([1, 6, 7, 8, 15, 16, 17, 31, 32], [4, 32]) | 11 => ([1, 6, 7, 8, 9, 10, 15, 16, 17, 31, 32], [4, 32]) | _ => ([], []), fun _ => []⟩
noncomputable def impl_wrongSquare.code : Code := (Go.Proofs.Tryz.f130).body.getD .skip
noncomputable def impl_wrongSquare.fin := finK impl_wrongSquare.ctx impl_wrongSquare.sig [.tmp 2, .tmp 3, .tmp 4]
noncomputable def impl_wrongSquare.F (d : (List (List Int) × Int × List Int × List (Int × Int × Int × List Int)) × Unit) : Option ((Int × Int × Bool × Unit) × (Unit)) := anyK (runFn impl_wrongSquare.cfg impl_wrongSquare.fin impl_wrongSquare.code (initSt impl_wrongSquare.sig.ps d 86))
noncomputable def impl_wrongSquare.l2 (k : Nat) (x5 : List (List Int)) (i6 : Int) (i7 : Int) (x8 : List (List Int)) (i9 : Int) (x10 : List Int) (x11 : List (Int × Int × Int × List Int)) : Option ((Int × Int × Bool × Unit) × (Unit)) :=
  Go.Vm.runT impl_wrongSquare.cfg impl_wrongSquare.fin k [.inLoop (sub [1, 0, 1, 0, 0] impl_wrongSquare.code), .inBlock 0, .code (sub [1, 1] impl_wrongSquare.code)]
    ⟨[.dead, .ref 4 (.root 0), .dead, .dead, .dead, .dead, .dead, .dead, .dead, .dead, .dead, .dead, .dead, .dead, .dead, .val false [⟨(.sl (.sl (.int .i64))), .sh, x5⟩], .val false [⟨(.int .i64), .sh, i6⟩], .val false [⟨(.int .i64), .sh, i7⟩]] ++ deads 68, [(4, ⟨true, [⟨(.sl (.sl (.int .i64))), .sh, x8⟩, ⟨(.int .i64), .sh, i9⟩, ⟨(.sl (.int .i64)), .sh, x10⟩, ⟨(.sl TMatrix), .sh, x11⟩]⟩)]⟩
noncomputable def impl_wrongSquare.l8 (k : Nat) (x13 : List Int) (i14 : Int) (x15 : List (List Int)) (i16 : Int) (i17 : Int) (i18 : Int) (i19 : Int) (x20 : List (List Int)) (i21 : Int) (x22 : List Int) (x23 : List (Int × Int × Int × List Int)) (x24 : List Int) : Option ((Int × Int × Bool × Unit) × (Unit)) :=
  Go.Vm.runT impl_wrongSquare.cfg impl_wrongSquare.fin k [.inLoop (sub [1, 0, 1, 0, 0, 1, 1, 0, 0, 1, 1, 1, 1, 1, 0, 0] impl_wrongSquare.code), .inBlock 2, .inBlock 1, .code (sub [1, 0, 1, 0, 0, 1, 1, 1] impl_wrongSquare.code), .inLoop (sub [1, 0, 1, 0, 0] impl_wrongSquare.code), .inBlock 0, .code (sub [1, 1] impl_wrongSquare.code)]
    ⟨[.dead, .ref 4 (.root 0), .dead, .dead, .dead, .dead, .val false [⟨(.sl (.int .i64)), .sh, x13⟩], .val false [⟨(.int .i64), .sh, i14⟩], .view 32 (.root 0) 1 false, .dead, .dead, .dead, .dead, .dead, .dead, .val false [⟨(.sl (.sl (.int .i64))), .sh, x15⟩], .val false [⟨(.int .i64), .sh, i16⟩], .val false [⟨(.int .i64), .sh, i17⟩], .dead, .dead, .dead, .dead, .dead, .dead, .dead, .dead, .dead, .dead, .dead, .dead, .dead, .val false [⟨(.int .i64), .sh, i18⟩], .val false [⟨(.int .i64), .sh, i19⟩]] ++ deads 53, [(4, ⟨true, [⟨(.sl (.sl (.int .i64))), .sh, x20⟩, ⟨(.int .i64), .sh, i21⟩, ⟨(.sl (.int .i64)), .sh, x22⟩, ⟨(.sl TMatrix), .sh, x23⟩]⟩), (32, ⟨false, [⟨(.sl (.int .i64)), .deep, x24⟩]⟩)]⟩
noncomputable def impl_wrongSquare.l11 (k : Nat) (x25 : List Int) (i26 : Int) (i27 : Int) (i28 : Int) (x29 : List (List Int)) (i30 : Int) (i31 : Int) (i32 : Int) (i33 : Int) (x34 : List (List Int)) (i35 : Int) (x36 : List Int) (x37 : List (Int × Int × Int × List Int)) (x38 : List Int) : Option ((Int × Int × Bool × Unit) × (Unit)) :=
  Go.Vm.runT impl_wrongSquare.cfg impl_wrongSquare.fin k [.inLoop (sub [1, 0, 1, 0, 0, 1, 1, 0, 0, 1, 1, 1, 1, 1, 0, 0, 1, 1, 0, 0, 1, 1, 0, 0] impl_wrongSquare.code), .inBlock 4, .inBlock 3, .code (sub [1, 0, 1, 0, 0, 1, 1, 0, 0, 1, 1, 1, 1, 1, 0, 0, 1, 1, 1] impl_wrongSquare.code), .inLoop (sub [1, 0, 1, 0, 0, 1, 1, 0, 0, 1, 1, 1, 1, 1, 0, 0] impl_wrongSquare.code), .inBlock 2, .inBlock 1, .code (sub [1, 0, 1, 0, 0, 1, 1, 1] impl_wrongSquare.code), .inLoop (sub [1, 0, 1, 0, 0] impl_wrongSquare.code), .inBlock 0, .code (sub [1, 1] impl_wrongSquare.code)]
    ⟨[.dead, .ref 4 (.root 0), .dead, .dead, .dead, .dead, .val false [⟨(.sl (.int .i64)), .sh, x25⟩], .val false [⟨(.int .i64), .sh, i26⟩], .view 32 (.root 0) 1 false, .val false [⟨(.int .i64), .sh, i27⟩], .val false [⟨(.int .i64), .sh, i28⟩], .dead, .dead, .dead, .dead, .val false [⟨(.sl (.sl (.int .i64))), .sh, x29⟩], .val false [⟨(.int .i64), .sh, i30⟩], .val false [⟨(.int .i64), .sh, i31⟩], .dead, .dead, .dead, .dead, .dead, .dead, .dead, .dead, .dead, .dead, .dead, .dead, .dead, .val false [⟨(.int .i64), .sh, i32⟩], .val false [⟨(.int .i64), .sh, i33⟩]] ++ deads 53, [(4, ⟨true, [⟨(.sl (.sl (.int .i64))), .sh, x34⟩, ⟨(.int .i64), .sh, i35⟩, ⟨(.sl (.int .i64)), .sh, x36⟩, ⟨(.sl TMatrix), .sh, x37⟩]⟩), (32, ⟨false, [⟨(.sl (.int .i64)), .deep, x38⟩]⟩)]⟩
theorem impl_wrongSquare.l2_eq (k : Nat) (x5 : List (List Int)) (i6 : Int) (i7 : Int) (x8 : List (List Int)) (i9 : Int) (x10 : List Int) (x11 : List (Int × Int × Int × List Int)) : impl_wrongSquare.l2 (k + 1) x5 i6 i7 x8 i9 x10 x11 =
  if (decide (i7 < i6)) = true then
    if 0 ≤ i7 ∧ i7 < (x5.length : Int) then
      if (decide (((x5.getD i7.toNat ([] : List Int)).length : Int) < (3 : Int))) = true then
        impl_wrongSquare.l2 k x5 i6 (IntKind.i64.wrap (i7 + (1 : Int))) x8 i9 x10 x11
      else
        (impl_faceIndices.F (x8, i7, ())).bind fun r12 =>
          impl_wrongSquare.l8 k (x5.getD i7.toNat ([] : List Int)) i7 x5 i6 i7 ((x5.getD i7.toNat ([] : List Int)).length : Int) (0 : Int) x8 i9 x10 x11 r12.1.1
    else
      none
  else
    some (((0 : Int), ((0 : Int), (false, ()))), ()) := by kernel_rfl
theorem impl_wrongSquare.l8_eq (k : Nat) (x13 : List Int) (i14 : Int) (x15 : List (List Int)) (i16 : Int) (i17 : Int) (i18 : Int) (i19 : Int) (x20 : List (List Int)) (i21 : Int) (x22 : List Int) (x23 : List (Int × Int × Int × List Int)) (x24 : List Int) : impl_wrongSquare.l8 (k + 1) x13 i14 x15 i16 i17 i18 i19 x20 i21 x22 x23 x24 =
  if (decide (i19 < i18)) = true then
    impl_wrongSquare.l11 k x13 i14 i19 (IntKind.i64.wrap (i19 + (1 : Int))) x15 i16 i17 i18 i19 x20 i21 x22 x23 x24
  else
    impl_wrongSquare.l2 k x15 i16 (IntKind.i64.wrap (i17 + (1 : Int))) x20 i21 x22 x23 := by kernel_rfl
theorem impl_wrongSquare.l11_eq (k : Nat) (x25 : List Int) (i26 : Int) (i27 : Int) (i28 : Int) (x29 : List (List Int)) (i30 : Int) (i31 : Int) (i32 : Int) (i33 : Int) (x34 : List (List Int)) (i35 : Int) (x36 : List Int) (x37 : List (Int × Int × Int × List Int)) (x38 : List Int) : impl_wrongSquare.l11 (k + 1) x25 i26 i27 i28 x29 i30 i31 i32 i33 x34 i35 x36 x37 x38 =
  if (decide (i28 < (x25.length : Int))) = true then
    (impl_direct.F ((x34, (i35, (x36, x37))), i26, i27, ())).bind fun r39 =>
      if 0 ≤ i27 ∧ i27 < (x38.length : Int) then
        (impl_direct.F ((x34, (i35, (x36, x37))), (x38.getD i27.toNat 0 : Int), IntKind.i64.wrap (i28 - (1 : Int)), ())).bind fun r40 =>
          (impl_product.F (r39.1.1, r40.1.1, ())).bind fun r41 =>
            (impl_direct.F ((x34, (i35, (x36, x37))), i26, i28, ())).bind fun r42 =>
              if 0 ≤ i28 ∧ i28 < (x38.length : Int) then
                (impl_direct.F ((x34, (i35, (x36, x37))), (x38.getD i28.toNat 0 : Int), i27, ())).bind fun r43 =>
                  (impl_product.F (r42.1.1, r43.1.1, ())).bind fun r44 =>
                    (impl_SameMatrix.F (r41.1.1, r44.1.1, ())).bind fun r45 =>
                      if (!(r45.1.1 : Bool)) = true then
                        if 0 ≤ i27 ∧ i27 < (x38.length : Int) then
                          (impl_faceIndices.F (x34, (x38.getD i27.toNat 0 : Int), ())).bind fun r46 =>
                            if 0 ≤ (IntKind.i64.wrap (i28 - (1 : Int))) ∧ (IntKind.i64.wrap (i28 - (1 : Int))) < (r46.1.1.length : Int) then
                              some ((i26, (r46.1.1.getD (IntKind.i64.wrap (i28 - (1 : Int))).toNat 0, (true, ()))), ())
                            else
                              none
                        else
                          none
                      else
                        impl_wrongSquare.l11 k x25 i26 i27 (IntKind.i64.wrap (i28 + (1 : Int))) x29 i30 i31 i32 i33 x34 i35 x36 x37 x38
              else
                none
      else
        none
  else
    impl_wrongSquare.l8 k x25 i26 x29 i30 i31 i32 (IntKind.i64.wrap (i33 + (1 : Int))) x34 i35 x36 x37 x38 := by kernel_rfl
noncomputable def impl_wrongSquare.T (k : Nat) (toArray_1 : List (List Int)) (toArray_2 : Int) (toArray_3 : List Int) (toArray_4 : List (Int × Int × Int × List Int)) : Option ((Int × Int × Bool × Unit) × (Unit)) :=
  impl_wrongSquare.l2 k toArray_1 (toArray_1.length : Int) (0 : Int) toArray_1 toArray_2 toArray_3 toArray_4
theorem impl_wrongSquare.run (k : Nat) (toArray_1 : List (List Int)) (toArray_2 : Int) (toArray_3 : List Int) (toArray_4 : List (Int × Int × Int × List Int)) : runFn impl_wrongSquare.cfg impl_wrongSquare.fin impl_wrongSquare.code (initSt impl_wrongSquare.sig.ps ((toArray_1, (toArray_2, (toArray_3, toArray_4))), ()) 86) k = impl_wrongSquare.T k toArray_1 toArray_2 toArray_3 toArray_4 := by kernel_rfl
theorem impl_wrongSquare.of (toArray_1 : List (List Int)) (toArray_2 : Int) (toArray_3 : List Int) (toArray_4 : List (Int × Int × Int × List Int)) {r : (Int × Int × Bool × Unit) × (Unit)} (h : Ev (fun k => impl_wrongSquare.T k toArray_1 toArray_2 toArray_3 toArray_4) r) : impl_wrongSquare.F ((toArray_1, (toArray_2, (toArray_3, toArray_4))), ()) = some r := Ev.run (fun k => impl_wrongSquare.run k toArray_1 toArray_2 toArray_3 toArray_4) h
theorem impl_wrongSquare.ok : CtxOK Go.Proofs.Tryz.prog impl_wrongSquare.ctx := ⟨List.forall_mem_nil _, mixed_ok, tab_ok tab_good, List.forall_mem_cons.2 ⟨impl_product.S, List.forall_mem_cons.2 ⟨impl_SameMatrix.S, List.forall_mem_cons.2 ⟨impl_faceIndices.S, List.forall_mem_cons.2 ⟨impl_direct.S, List.forall_mem_nil _⟩⟩⟩⟩, List.forall_mem_nil _, List.forall_mem_nil _⟩
theorem impl_wrongSquare.S : Sound Go.Proofs.Tryz.prog ⟨130, impl_wrongSquare.sig, impl_wrongSquare.F⟩ := sound_any (fn := Go.Proofs.Tryz.f130) (code := impl_wrongSquare.code) (g := impl_wrongSquare.cfg) (res := [.tmp 2, .tmp 3, .tmp 4]) Go.Proofs.Tryz.func130 (by kernel_rfl) (by kernel_rfl) impl_wrongSquare.ok (by kernel_rfl) (by kernel_rfl) (Nat.le_of_ble_eq_true (by kernel_rfl)) (by kernel_rfl)
/-! ### impl_IsSheaf -/
noncomputable def impl_IsSheaf.sig : Sig := ⟨[.val true TSheaf], [(.val false, .bool, .deep)]⟩
noncomputable def impl_IsSheaf.ctx : Ctx := ⟨tabOf tabl, [⟨129, impl_ValidSheaf.sig, impl_ValidSheaf.F⟩, ⟨130, impl_wrongSquare.sig, impl_wrongSquare.F⟩], [], [], [], []⟩
noncomputable def impl_IsSheaf.cfg : Cfg := ⟨impl_IsSheaf.ctx, [], [], fun _ => ([], []), fun _ => []⟩
noncomputable def impl_IsSheaf.code : Code := (Go.Proofs.Tryz.f63).body.getD .skip
noncomputable def impl_IsSheaf.fin := finK impl_IsSheaf.ctx impl_IsSheaf.sig [.tmp 2]
noncomputable def impl_IsSheaf.F (d : (List (List Int) × Int × List Int × List (Int × Int × Int × List Int)) × Unit) : Option ((Bool × Unit) × (Unit)) := anyK (runFn impl_IsSheaf.cfg impl_IsSheaf.fin impl_IsSheaf.code (initSt impl_IsSheaf.sig.ps d 17))
noncomputable def impl_IsSheaf.T (s_1 : List (List Int)) (s_2 : Int) (s_3 : List Int) (s_4 : List (Int × Int × Int × List Int)) : Option ((Bool × Unit) × (Unit)) :=
  (impl_ValidSheaf.F ((s_1, (s_2, (s_3, s_4))), ())).bind fun r5 =>
    if (!(r5.1.1 : Bool)) = true then
      some ((false, ()), ())
    else
      (impl_wrongSquare.F ((s_1, (s_2, (s_3, s_4))), ())).bind fun r6 =>
        some ((!(r6.1.2.2.1 : Bool), ()), ())
theorem impl_IsSheaf.run (k : Nat) (s_1 : List (List Int)) (s_2 : Int) (s_3 : List Int) (s_4 : List (Int × Int × Int × List Int)) : runFn impl_IsSheaf.cfg impl_IsSheaf.fin impl_IsSheaf.code (initSt impl_IsSheaf.sig.ps ((s_1, (s_2, (s_3, s_4))), ()) 17) k = impl_IsSheaf.T s_1 s_2 s_3 s_4 := by kernel_rfl
theorem impl_IsSheaf.eq (s_1 : List (List Int)) (s_2 : Int) (s_3 : List Int) (s_4 : List (Int × Int × Int × List Int)) : impl_IsSheaf.F ((s_1, (s_2, (s_3, s_4))), ()) = impl_IsSheaf.T s_1 s_2 s_3 s_4 := (congrArg anyK (funext fun k => impl_IsSheaf.run k s_1 s_2 s_3 s_4)).trans (anyK_const _)
theorem impl_IsSheaf.ok : CtxOK Go.Proofs.Tryz.prog impl_IsSheaf.ctx := ⟨List.forall_mem_nil _, mixed_ok, tab_ok tab_good, List.forall_mem_cons.2 ⟨impl_ValidSheaf.S, List.forall_mem_cons.2 ⟨impl_wrongSquare.S, List.forall_mem_nil _⟩⟩, List.forall_mem_nil _, List.forall_mem_nil _⟩
theorem impl_IsSheaf.S : Sound Go.Proofs.Tryz.prog ⟨63, impl_IsSheaf.sig, impl_IsSheaf.F⟩ := sound_any (fn := Go.Proofs.Tryz.f63) (code := impl_IsSheaf.code) (g := impl_IsSheaf.cfg) (res := [.tmp 2]) Go.Proofs.Tryz.func63 (by kernel_rfl) (by kernel_rfl) impl_IsSheaf.ok (by kernel_rfl) (by kernel_rfl) (Nat.le_of_ble_eq_true (by kernel_rfl)) (by kernel_rfl)
/-! ### impl_IsCosheaf -/
noncomputable def impl_IsCosheaf.sig : Sig := ⟨[.val true TSheaf], [(.val false, .bool, .deep)]⟩
noncomputable def impl_IsCosheaf.ctx : Ctx := ⟨tabOf tabl, [⟨62, impl_ValidCosheaf.sig, impl_ValidCosheaf.F⟩, ⟨63, impl_IsSheaf.sig, impl_IsSheaf.F⟩, ⟨64, impl_sheafBehind.sig, impl_sheafBehind.F⟩], [], [], [], []⟩
noncomputable def impl_IsCosheaf.cfg : Cfg := ⟨impl_IsCosheaf.ctx, [], [], fun _ => ([], []), fun _ => []⟩
noncomputable def impl_IsCosheaf.code : Code := (Go.Proofs.Tryz.f17).body.getD .skip
noncomputable def impl_IsCosheaf.fin := finK impl_IsCosheaf.ctx impl_IsCosheaf.sig [.tmp 2]
noncomputable def impl_IsCosheaf.F (d : (List (List Int) × Int × List Int × List (Int × Int × Int × List Int)) × Unit) : Option ((Bool × Unit) × (Unit)) := anyK (runFn impl_IsCosheaf.cfg impl_IsCosheaf.fin impl_IsCosheaf.code (initSt impl_IsCosheaf.sig.ps d 10))
noncomputable def impl_IsCosheaf.T (t_1 : List (List Int)) (t_2 : Int) (t_3 : List Int) (t_4 : List (Int × Int × Int × List Int)) : Option ((Bool × Unit) × (Unit)) :=
  (impl_ValidCosheaf.F ((t_1, (t_2, (t_3, t_4))), ())).bind fun r5 =>
    if (r5.1.1 : Bool) = true then
      (impl_sheafBehind.F ((t_1, (t_2, (t_3, t_4))), ())).bind fun r6 =>
        (impl_IsSheaf.F (r6.1.1, ())).bind fun r7 =>
          some (((r7.1.1 : Bool), ()), ())
    else
      some ((false, ()), ())
theorem impl_IsCosheaf.run (k : Nat) (t_1 : List (List Int)) (t_2 : Int) (t_3 : List Int) (t_4 : List (Int × Int × Int × List Int)) : runFn impl_IsCosheaf.cfg impl_IsCosheaf.fin impl_IsCosheaf.code (initSt impl_IsCosheaf.sig.ps ((t_1, (t_2, (t_3, t_4))), ()) 10) k = impl_IsCosheaf.T t_1 t_2 t_3 t_4 := by kernel_rfl
theorem impl_IsCosheaf.eq (t_1 : List (List Int)) (t_2 : Int) (t_3 : List Int) (t_4 : List (Int × Int × Int × List Int)) : impl_IsCosheaf.F ((t_1, (t_2, (t_3, t_4))), ()) = impl_IsCosheaf.T t_1 t_2 t_3 t_4 := (congrArg anyK (funext fun k => impl_IsCosheaf.run k t_1 t_2 t_3 t_4)).trans (anyK_const _)
theorem impl_IsCosheaf.ok : CtxOK Go.Proofs.Tryz.prog impl_IsCosheaf.ctx := ⟨List.forall_mem_nil _, mixed_ok, tab_ok tab_good, List.forall_mem_cons.2 ⟨impl_ValidCosheaf.S, List.forall_mem_cons.2 ⟨impl_IsSheaf.S, List.forall_mem_cons.2 ⟨impl_sheafBehind.S, List.forall_mem_nil _⟩⟩⟩, List.forall_mem_nil _, List.forall_mem_nil _⟩
theorem impl_IsCosheaf.S : Sound Go.Proofs.Tryz.prog ⟨17, impl_IsCosheaf.sig, impl_IsCosheaf.F⟩ := sound_any (fn := Go.Proofs.Tryz.f17) (code := impl_IsCosheaf.code) (g := impl_IsCosheaf.cfg) (res := [.tmp 2]) Go.Proofs.Tryz.func17 (by kernel_rfl) (by kernel_rfl) impl_IsCosheaf.ok (by kernel_rfl) (by kernel_rfl) (Nat.le_of_ble_eq_true (by kernel_rfl)) (by kernel_rfl)
/-! ### impl_isVector -/
noncomputable def impl_isVector.sig : Sig := ⟨[.val false (.sl (.int .i64)), .val false (.int .i64), .val false (.int .i64)], [(.val false, .bool, .deep)]⟩
noncomputable def impl_isVector.ctx : Ctx := ⟨tabOf tabl, [⟨161, impl_size_int64.sig, impl_size_int64.F⟩, ⟨162, impl_areElements.sig, impl_areElements.F⟩], [], [], [], []⟩
noncomputable def impl_isVector.cfg : Cfg := ⟨impl_isVector.ctx, [], [], fun _ => ([], []), fun _ => []⟩
noncomputable def impl_isVector.code : Code := (Go.Proofs.Tryz.f86).body.getD .skip
noncomputable def impl_isVector.fin := finK impl_isVector.ctx impl_isVector.sig [.tmp 6]
noncomputable def impl_isVector.F (d : List Int × Int × Int × Unit) : Option ((Bool × Unit) × (Unit)) := anyK (runFn impl_isVector.cfg impl_isVector.fin impl_isVector.code (initSt impl_isVector.sig.ps d 16))
noncomputable def impl_isVector.T (x_1 : List Int) (length_2 : Int) (p_3 : Int) : Option ((Bool × Unit) × (Unit)) :=
  (impl_size_int64.F (x_1, ())).bind fun r4 =>
    if ((r4.1.1 : Int) == length_2) = true then
      (impl_areElements.F (x_1, p_3, ())).bind fun r5 =>
        some (((r5.1.1 : Bool), ()), ())
    else
      some ((false, ()), ())
theorem impl_isVector.run (k : Nat) (x_1 : List Int) (length_2 : Int) (p_3 : Int) : runFn impl_isVector.cfg impl_isVector.fin impl_isVector.code (initSt impl_isVector.sig.ps (x_1, length_2, p_3, ()) 16) k = impl_isVector.T x_1 length_2 p_3 := by kernel_rfl
theorem impl_isVector.eq (x_1 : List Int) (length_2 : Int) (p_3 : Int) : impl_isVector.F (x_1, length_2, p_3, ()) = impl_isVector.T x_1 length_2 p_3 := (congrArg anyK (funext fun k => impl_isVector.run k x_1 length_2 p_3)).trans (anyK_const _)
theorem impl_isVector.ok : CtxOK Go.Proofs.Tryz.prog impl_isVector.ctx := ⟨List.forall_mem_nil _, mixed_ok, tab_ok tab_good, List.forall_mem_cons.2 ⟨impl_size_int64.S, List.forall_mem_cons.2 ⟨impl_areElements.S, List.forall_mem_nil _⟩⟩, List.forall_mem_nil _, List.forall_mem_nil _⟩
theorem impl_isVector.S : Sound Go.Proofs.Tryz.prog ⟨86, impl_isVector.sig, impl_isVector.F⟩ := sound_any (fn := Go.Proofs.Tryz.f86) (code := impl_isVector.code) (g := impl_isVector.cfg) (res := [.tmp 6]) Go.Proofs.Tryz.func86 (by kernel_rfl) (by kernel_rfl) impl_isVector.ok (by kernel_rfl) (by kernel_rfl) (Nat.le_of_ble_eq_true (by kernel_rfl)) (by kernel_rfl)
/-! ### impl_isDimension -/
noncomputable def impl_isDimension.sig : Sig := ⟨[.val false (.int .i64)], [(.val false, .bool, .deep)]⟩
noncomputable def impl_isDimension.ctx : Ctx := ⟨tabOf tabl, [⟨160, impl_within.sig, impl_within.F⟩], [], [], [], []⟩
noncomputable def impl_isDimension.cfg : Cfg := ⟨impl_isDimension.ctx, [], [], fun _ => ([], []), fun _ => []⟩
noncomputable def impl_isDimension.code : Code := (Go.Proofs.Tryz.f85).body.getD .skip
noncomputable def impl_isDimension.fin := finK impl_isDimension.ctx impl_isDimension.sig [.tmp 2]
noncomputable def impl_isDimension.F (d : Int × Unit) : Option ((Bool × Unit) × (Unit)) := anyK (runFn impl_isDimension.cfg impl_isDimension.fin impl_isDimension.code (initSt impl_isDimension.sig.ps d 5))
noncomputable def impl_isDimension.T (k_1 : Int) : Option ((Bool × Unit) × (Unit)) :=
  (impl_within.F (k_1, (0 : Int), (3 : Int), ())).bind fun r2 =>
    some (((r2.1.1 : Bool), ()), ())
theorem impl_isDimension.run (k : Nat) (k_1 : Int) : runFn impl_isDimension.cfg impl_isDimension.fin impl_isDimension.code (initSt impl_isDimension.sig.ps (k_1, ()) 5) k = impl_isDimension.T k_1 := by kernel_rfl
theorem impl_isDimension.eq (k_1 : Int) : impl_isDimension.F (k_1, ()) = impl_isDimension.T k_1 := (congrArg anyK (funext fun k => impl_isDimension.run k k_1)).trans (anyK_const _)
theorem impl_isDimension.ok : CtxOK Go.Proofs.Tryz.prog impl_isDimension.ctx := ⟨List.forall_mem_nil _, mixed_ok, tab_ok tab_good, List.forall_mem_cons.2 ⟨impl_within.S, List.forall_mem_nil _⟩, List.forall_mem_nil _, List.forall_mem_nil _⟩
theorem impl_isDimension.S : Sound Go.Proofs.Tryz.prog ⟨85, impl_isDimension.sig, impl_isDimension.F⟩ := sound_any (fn := Go.Proofs.Tryz.f85) (code := impl_isDimension.code) (g := impl_isDimension.cfg) (res := [.tmp 2]) Go.Proofs.Tryz.func85 (by kernel_rfl) (by kernel_rfl) impl_isDimension.ok (by kernel_rfl) (by kernel_rfl) (Nat.le_of_ble_eq_true (by kernel_rfl)) (by kernel_rfl)
/-! ### impl_graded -/
noncomputable def impl_graded.sig : Sig := ⟨[.val true TSheaf, .val false (.int .i64)], [(.val false, (.int .i64), .deep)]⟩
noncomputable def impl_graded.ctx : Ctx := ⟨tabOf tabl, [⟨63, impl_IsSheaf.sig, impl_IsSheaf.F⟩, ⟨85, impl_isDimension.sig, impl_isDimension.F⟩], [], [], [], []⟩
noncomputable def impl_graded.cfg : Cfg := ⟨impl_graded.ctx, [], [], fun _ => ([], []), fun _ => []⟩
noncomputable def impl_graded.code : Code := (Go.Proofs.Tryz.f189).body.getD .skip
noncomputable def impl_graded.fin := finK impl_graded.ctx impl_graded.sig [.tmp 4]
noncomputable def impl_graded.F (d : (List (List Int) × Int × List Int × List (Int × Int × Int × List Int)) × Int × Unit) : Option ((Int × Unit) × (Unit)) := anyK (runFn impl_graded.cfg impl_graded.fin impl_graded.code (initSt impl_graded.sig.ps d 13))
noncomputable def impl_graded.T (s_1 : List (List Int)) (s_2 : Int) (s_3 : List Int) (s_4 : List (Int × Int × Int × List Int)) (k_5 : Int) : Option ((Int × Unit) × (Unit)) :=
  (impl_IsSheaf.F ((s_1, (s_2, (s_3, s_4))), ())).bind fun r6 =>
    if (!(r6.1.1 : Bool)) = true then
      some (((1 : Int), ()), ())
    else
      (impl_isDimension.F (k_5, ())).bind fun r7 =>
        if (!(r7.1.1 : Bool)) = true then
          some (((2 : Int), ()), ())
        else
          some (((0 : Int), ()), ())
theorem impl_graded.run (k : Nat) (s_1 : List (List Int)) (s_2 : Int) (s_3 : List Int) (s_4 : List (Int × Int × Int × List Int)) (k_5 : Int) : runFn impl_graded.cfg impl_graded.fin impl_graded.code (initSt impl_graded.sig.ps ((s_1, (s_2, (s_3, s_4))), k_5, ()) 13) k = impl_graded.T s_1 s_2 s_3 s_4 k_5 := by kernel_rfl
theorem impl_graded.eq (s_1 : List (List Int)) (s_2 : Int) (s_3 : List Int) (s_4 : List (Int × Int × Int × List Int)) (k_5 : Int) : impl_graded.F ((s_1, (s_2, (s_3, s_4))), k_5, ()) = impl_graded.T s_1 s_2 s_3 s_4 k_5 := (congrArg anyK (funext fun k => impl_graded.run k s_1 s_2 s_3 s_4 k_5)).trans (anyK_const _)
theorem impl_graded.ok : CtxOK Go.Proofs.Tryz.prog impl_graded.ctx := ⟨List.forall_mem_nil _, mixed_ok, tab_ok tab_good, List.forall_mem_cons.2 ⟨impl_IsSheaf.S, List.forall_mem_cons.2 ⟨impl_isDimension.S, List.forall_mem_nil _⟩⟩, List.forall_mem_nil _, List.forall_mem_nil _⟩
theorem impl_graded.S : Sound Go.Proofs.Tryz.prog ⟨189, impl_graded.sig, impl_graded.F⟩ := sound_any (fn := Go.Proofs.Tryz.f189) (code := impl_graded.code) (g := impl_graded.cfg) (res := [.tmp 4]) Go.Proofs.Tryz.func189 (by kernel_rfl) (by kernel_rfl) impl_graded.ok (by kernel_rfl) (by kernel_rfl) (Nat.le_of_ble_eq_true (by kernel_rfl)) (by kernel_rfl)
/-! ### impl_withCochain -/
noncomputable def impl_withCochain.sig : Sig := ⟨[.val true TSheaf, .val false (.int .i64), .val false (.sl (.int .i64))], [(.val false, (.int .i64), .deep)]⟩
noncomputable def impl_withCochain.ctx : Ctx := ⟨tabOf tabl, [⟨86, impl_isVector.sig, impl_isVector.F⟩, ⟨87, impl_stalkSum.sig, impl_stalkSum.F⟩, ⟨189, impl_graded.sig, impl_graded.F⟩], [], [], [], []⟩
noncomputable def impl_withCochain.cfg : Cfg := ⟨impl_withCochain.ctx, [], [], fun _ => ([], []), fun _ => []⟩
noncomputable def impl_withCochain.code : Code := (Go.Proofs.Tryz.f116).body.getD .skip
noncomputable def impl_withCochain.fin := finK impl_withCochain.ctx impl_withCochain.sig [.tmp 6]
noncomputable def impl_withCochain.F (d : (List (List Int) × Int × List Int × List (Int × Int × Int × List Int)) × Int × List Int × Unit) : Option ((Int × Unit) × (Unit)) := anyK (runFn impl_withCochain.cfg impl_withCochain.fin impl_withCochain.code (initSt impl_withCochain.sig.ps d 22))
noncomputable def impl_withCochain.T (s_1 : List (List Int)) (s_2 : Int) (s_3 : List Int) (s_4 : List (Int × Int × Int × List Int)) (k_5 : Int) (x_6 : List Int) : Option ((Int × Unit) × (Unit)) :=
  (impl_graded.F ((s_1, (s_2, (s_3, s_4))), k_5, ())).bind fun r7 =>
    if ((r7.1.1 : Int) != (0 : Int)) = true then
      some (((r7.1.1 : Int), ()), ())
    else
      (impl_stalkSum.F ((s_1, (s_2, (s_3, s_4))), k_5, ())).bind fun r8 =>
        (impl_isVector.F (x_6, (r8.1.1 : Int), s_2, ())).bind fun r9 =>
          if (!(r9.1.1 : Bool)) = true then
            some (((7 : Int), ()), ())
          else
            some (((0 : Int), ()), ())
theorem impl_withCochain.run (k : Nat) (s_1 : List (List Int)) (s_2 : Int) (s_3 : List Int) (s_4 : List (Int × Int × Int × List Int)) (k_5 : Int) (x_6 : List Int) : runFn impl_withCochain.cfg impl_withCochain.fin impl_withCochain.code (initSt impl_withCochain.sig.ps ((s_1, (s_2, (s_3, s_4))), k_5, x_6, ()) 22) k = impl_withCochain.T s_1 s_2 s_3 s_4 k_5 x_6 := by kernel_rfl
theorem impl_withCochain.eq (s_1 : List (List Int)) (s_2 : Int) (s_3 : List Int) (s_4 : List (Int × Int × Int × List Int)) (k_5 : Int) (x_6 : List Int) : impl_withCochain.F ((s_1, (s_2, (s_3, s_4))), k_5, x_6, ()) = impl_withCochain.T s_1 s_2 s_3 s_4 k_5 x_6 := (congrArg anyK (funext fun k => impl_withCochain.run k s_1 s_2 s_3 s_4 k_5 x_6)).trans (anyK_const _)
theorem impl_withCochain.ok : CtxOK Go.Proofs.Tryz.prog impl_withCochain.ctx := ⟨List.forall_mem_nil _, mixed_ok, tab_ok tab_good, List.forall_mem_cons.2 ⟨impl_isVector.S, List.forall_mem_cons.2 ⟨impl_stalkSum.S, List.forall_mem_cons.2 ⟨impl_graded.S, List.forall_mem_nil _⟩⟩⟩, List.forall_mem_nil _, List.forall_mem_nil _⟩
theorem impl_withCochain.S : Sound Go.Proofs.Tryz.prog ⟨116, impl_withCochain.sig, impl_withCochain.F⟩ := sound_any (fn := Go.Proofs.Tryz.f116) (code := impl_withCochain.code) (g := impl_withCochain.cfg) (res := [.tmp 6]) Go.Proofs.Tryz.func116 (by kernel_rfl) (by kernel_rfl) impl_withCochain.ok (by kernel_rfl) (by kernel_rfl) (Nat.le_of_ble_eq_true (by kernel_rfl)) (by kernel_rfl)
/-! ### impl_apply -/
noncomputable def impl_apply.sig : Sig := ⟨[.val true TMatrix, .val false (.sl (.int .i64))], [(.val false, (.sl (.int .i64)), .deep)]⟩
noncomputable def impl_apply.ctx : Ctx := ⟨tabOf tabl, [⟨177, impl_dot.sig, impl_dot.F⟩, ⟨178, impl_Matrix_row.sig, impl_Matrix_row.F⟩], [], [], [], []⟩
noncomputable def impl_apply.cfg : Cfg := ⟨impl_apply.ctx, [], [], fun id => match id with | 3 => ([1, 2, 5, 8, 9], [8, 20]) | _ => ([], []), fun _ => []⟩
noncomputable def impl_apply.code : Code := (Go.Proofs.Tryz.f117).body.getD .skip
noncomputable def impl_apply.fin := finK impl_apply.ctx impl_apply.sig [.tmp 4]
noncomputable def impl_apply.F (d : (Int × Int × Int × List Int) × List Int × Unit) : Option ((List Int × Unit) × (Unit)) := anyK (runFn impl_apply.cfg impl_apply.fin impl_apply.code (initSt impl_apply.sig.ps d 24))
noncomputable def impl_apply.l3 (k : Nat) (x6 : List Int) (i7 : Int) (i8 : Int) (i9 : Int) (i10 : Int) (i11 : Int) (x12 : List Int) (x13 : List Int) : Option ((List Int × Unit) × (Unit)) :=
  Go.Vm.runT impl_apply.cfg impl_apply.fin k [.inLoop (sub [1, 1, 0, 1, 0, 0] impl_apply.code), .inBlock 0, .code (sub [1, 1, 1] impl_apply.code)]
    ⟨[.dead, .val false [⟨(.sl (.int .i64)), .sh, x6⟩], .ref 8 (.root 0), .dead, .dead, .view 20 (.root 0) 1 false, .dead, .dead, .val false [⟨(.int .i64), .sh, i7⟩], .val false [⟨(.int .i64), .sh, i8⟩]] ++ deads 14, [(8, ⟨true, [⟨(.int .i64), .sh, i9⟩, ⟨(.int .i64), .sh, i10⟩, ⟨(.int .i64), .sh, i11⟩, ⟨(.sl (.int .i64)), .sh, x12⟩]⟩), (20, ⟨false, [⟨(.sl (.int .i64)), .deep, x13⟩]⟩)]⟩
theorem impl_apply.l3_eq (k : Nat) (x6 : List Int) (i7 : Int) (i8 : Int) (i9 : Int) (i10 : Int) (i11 : Int) (x12 : List Int) (x13 : List Int) : impl_apply.l3 (k + 1) x6 i7 i8 i9 i10 i11 x12 x13 =
  if (decide (i8 < i7)) = true then
    (impl_Matrix_row.F ((i9, (i10, (i11, x12))), i8, ())).bind fun r14 =>
      (impl_dot.F (r14.1.1, x6, i9, ())).bind fun r15 =>
        if x13.length + ([(r15.1.1 : Int)] : List Int).length ≤ bigA then
          impl_apply.l3 k x6 i7 (IntKind.i64.wrap (i8 + (1 : Int))) i9 i10 i11 x12 (x13 ++ ([(r15.1.1 : Int)]))
        else
          none
  else
    some ((x13, ()), ()) := by kernel_rfl
noncomputable def impl_apply.T (k : Nat) (m_1 : Int) (m_2 : Int) (m_3 : Int) (m_4 : List Int) (v_5 : List Int) : Option ((List Int × Unit) × (Unit)) :=
  impl_apply.l3 k v_5 m_2 (0 : Int) m_1 m_2 m_3 m_4 ([])
theorem impl_apply.run (k : Nat) (m_1 : Int) (m_2 : Int) (m_3 : Int) (m_4 : List Int) (v_5 : List Int) : runFn impl_apply.cfg impl_apply.fin impl_apply.code (initSt impl_apply.sig.ps ((m_1, (m_2, (m_3, m_4))), v_5, ()) 24) k = impl_apply.T k m_1 m_2 m_3 m_4 v_5 := by kernel_rfl
theorem impl_apply.of (m_1 : Int) (m_2 : Int) (m_3 : Int) (m_4 : List Int) (v_5 : List Int) {r : (List Int × Unit) × (Unit)} (h : Ev (fun k => impl_apply.T k m_1 m_2 m_3 m_4 v_5) r) : impl_apply.F ((m_1, (m_2, (m_3, m_4))), v_5, ()) = some r := Ev.run (fun k => impl_apply.run k m_1 m_2 m_3 m_4 v_5) h
theorem impl_apply.ok : CtxOK Go.Proofs.Tryz.prog impl_apply.ctx := ⟨List.forall_mem_nil _, mixed_ok, tab_ok tab_good, List.forall_mem_cons.2 ⟨impl_dot.S, List.forall_mem_cons.2 ⟨impl_Matrix_row.S, List.forall_mem_nil _⟩⟩, List.forall_mem_nil _, List.forall_mem_nil _⟩
theorem impl_apply.S : Sound Go.Proofs.Tryz.prog ⟨117, impl_apply.sig, impl_apply.F⟩ := sound_any (fn := Go.Proofs.Tryz.f117) (code := impl_apply.code) (g := impl_apply.cfg) (res := [.tmp 4]) Go.Proofs.Tryz.func117 (by kernel_rfl) (by kernel_rfl) impl_apply.ok (by kernel_rfl) (by kernel_rfl) (Nat.le_of_ble_eq_true (by kernel_rfl)) (by kernel_rfl)
/-! ### impl_zero_1 -/
noncomputable def impl_zero_1.sig : Sig := ⟨[.val false (.int .i64), .val false (.int .i64)], [(.val false, (.int .i64), .deep)]⟩
noncomputable def impl_zero_1.ctx : Ctx := ⟨tabOf tabl, [], [], [], [], []⟩
noncomputable def impl_zero_1.cfg : Cfg := ⟨impl_zero_1.ctx, [], [], fun _ => ([], []), fun _ => []⟩
noncomputable def impl_zero_1.code : Code := (Go.Proofs.Tryz.f145).body.getD .skip
noncomputable def impl_zero_1.fin := finK impl_zero_1.ctx impl_zero_1.sig [.tmp 4]
noncomputable def impl_zero_1.F (d : Int × Int × Unit) : Option ((Int × Unit) × (Unit)) := anyK (runFn impl_zero_1.cfg impl_zero_1.fin impl_zero_1.code (initSt impl_zero_1.sig.ps d 5))
noncomputable def impl_zero_1.T (i_1 : Int) (j_2 : Int) : Option ((Int × Unit) × (Unit)) :=
  some (((0 : Int), ()), ())
theorem impl_zero_1.run (k : Nat) (i_1 : Int) (j_2 : Int) : runFn impl_zero_1.cfg impl_zero_1.fin impl_zero_1.code (initSt impl_zero_1.sig.ps (i_1, j_2, ()) 5) k = impl_zero_1.T i_1 j_2 := by kernel_rfl
theorem impl_zero_1.eq (i_1 : Int) (j_2 : Int) : impl_zero_1.F (i_1, j_2, ()) = impl_zero_1.T i_1 j_2 := (congrArg anyK (funext fun k => impl_zero_1.run k i_1 j_2)).trans (anyK_const _)
theorem impl_zero_1.ok : CtxOK Go.Proofs.Tryz.prog impl_zero_1.ctx := ⟨List.forall_mem_nil _, mixed_ok, tab_ok tab_good, List.forall_mem_nil _, List.forall_mem_nil _, List.forall_mem_nil _⟩
theorem impl_zero_1.S : Sound Go.Proofs.Tryz.prog ⟨145, impl_zero_1.sig, impl_zero_1.F⟩ := sound_any (fn := Go.Proofs.Tryz.f145) (code := impl_zero_1.code) (g := impl_zero_1.cfg) (res := [.tmp 4]) Go.Proofs.Tryz.func145 (by kernel_rfl) (by kernel_rfl) impl_zero_1.ok (by kernel_rfl) (by kernel_rfl) (Nat.le_of_ble_eq_true (by kernel_rfl)) (by kernel_rfl)
noncomputable def impl_zero_1.cloG (y : Unit) (d : Int × Int × Unit) : Option (Int × Unit) := (impl_zero_1.F (joinIns [] [(false, (.int .i64)), (false, (.int .i64))] d y)).map (·.1)
noncomputable def impl_zero_1.clo : Clo := ⟨145, ⟨[(false, (.int .i64)), (false, (.int .i64))], [(.val false, (.int .i64), .deep)]⟩, [], impl_zero_1.cloG⟩
theorem impl_zero_1.cloS : SoundClo Go.Proofs.Tryz.prog impl_zero_1.clo := sound_clo (s := ⟨[(false, (.int .i64)), (false, (.int .i64))], [(.val false, (.int .i64), .deep)]⟩) (caps := []) rfl impl_zero_1.S
/-! ### impl_zero -/
noncomputable def impl_zero.sig : Sig := ⟨[.val false (.int .i64), .val false (.int .i64), .val false (.int .i64)], [(.val true, TMatrix, .deep)]⟩
noncomputable def impl_zero.ctx : Ctx := ⟨tabOf tabl, [⟨144, impl_filled.sig, impl_filled.F⟩], [impl_zero_1.clo], [], [], []⟩
noncomputable def impl_zero.cfg : Cfg := ⟨impl_zero.ctx, [], [], fun _ => ([], []), fun _ => []⟩
noncomputable def impl_zero.code : Code := (Go.Proofs.Tryz.f74).body.getD .skip
noncomputable def impl_zero.fin := finK impl_zero.ctx impl_zero.sig [.cell 6 65]
noncomputable def impl_zero.F (d : Int × Int × Int × Unit) : Option (((Int × Int × Int × List Int) × Unit) × (Unit)) := anyK (runFn impl_zero.cfg impl_zero.fin impl_zero.code (initSt impl_zero.sig.ps d 11))
noncomputable def impl_zero.T (p_1 : Int) (rows_2 : Int) (columns_3 : Int) : Option (((Int × Int × Int × List Int) × Unit) × (Unit)) :=
  (impl_filled.F (p_1, rows_2, columns_3, impl_zero_1.cloG (()), ())).bind fun r4 =>
    some ((r4.1.1, ()), ())
theorem impl_zero.run (k : Nat) (p_1 : Int) (rows_2 : Int) (columns_3 : Int) : runFn impl_zero.cfg impl_zero.fin impl_zero.code (initSt impl_zero.sig.ps (p_1, rows_2, columns_3, ()) 11) k = impl_zero.T p_1 rows_2 columns_3 := by kernel_rfl
theorem impl_zero.eq (p_1 : Int) (rows_2 : Int) (columns_3 : Int) : impl_zero.F (p_1, rows_2, columns_3, ()) = impl_zero.T p_1 rows_2 columns_3 := (congrArg anyK (funext fun k => impl_zero.run k p_1 rows_2 columns_3)).trans (anyK_const _)
theorem impl_zero.ok : CtxOK Go.Proofs.Tryz.prog impl_zero.ctx := ⟨List.forall_mem_nil _, mixed_ok, tab_ok tab_good, List.forall_mem_cons.2 ⟨impl_filled.S, List.forall_mem_nil _⟩, List.forall_mem_cons.2 ⟨impl_zero_1.cloS, List.forall_mem_nil _⟩, List.forall_mem_nil _⟩
theorem impl_zero.S : Sound Go.Proofs.Tryz.prog ⟨74, impl_zero.sig, impl_zero.F⟩ := sound_any (fn := Go.Proofs.Tryz.f74) (code := impl_zero.code) (g := impl_zero.cfg) (res := [.cell 6 65]) Go.Proofs.Tryz.func74 (by kernel_rfl) (by kernel_rfl) impl_zero.ok (by kernel_rfl) (by kernel_rfl) (Nat.le_of_ble_eq_true (by kernel_rfl)) (by kernel_rfl)
/-! ### impl_firstColumn -/
noncomputable def impl_firstColumn.sig : Sig := ⟨[.val true TSheaf, .val false (.int .i64)], [(.val false, (.int .i64), .deep)]⟩
noncomputable def impl_firstColumn.ctx : Ctx := ⟨tabOf tabl, [⟨161, impl_size_int64.sig, impl_size_int64.F⟩, ⟨163, impl_simplicesOf.sig, impl_simplicesOf.F⟩], [], [], [], []⟩
noncomputable def impl_firstColumn.cfg : Cfg := ⟨impl_firstColumn.ctx, [], [], fun id => match id with | 3 => ([1, 2, 5, 18, 19, 20], [8, 72]) | _ => ([], []), fun _ => []⟩
noncomputable def impl_firstColumn.code : Code := (Go.Proofs.Tryz.f191).body.getD .skip
noncomputable def impl_firstColumn.fin := finK impl_firstColumn.ctx impl_firstColumn.sig [.tmp 4]
noncomputable def impl_firstColumn.F (d : (List (List Int) × Int × List Int × List (Int × Int × Int × List Int)) × Int × Unit) : Option ((Int × Unit) × (Unit)) := anyK (runFn impl_firstColumn.cfg impl_firstColumn.fin impl_firstColumn.code (initSt impl_firstColumn.sig.ps d 36))
noncomputable def impl_firstColumn.l3 (k : Nat) (i8 : Int) (i9 : Int) (i10 : Int) (i11 : Int) (x12 : List (List Int)) (i13 : Int) (x14 : List Int) (x15 : List (Int × Int × Int × List Int)) (x16 : List Int) : Option ((Int × Unit) × (Unit)) :=
  Go.Vm.runT impl_firstColumn.cfg impl_firstColumn.fin k [.inLoop (sub [1, 1, 0, 1, 0, 0] impl_firstColumn.code), .inBlock 0, .code (sub [1, 1, 1] impl_firstColumn.code)]
    ⟨[.dead, .val false [⟨(.int .i64), .sh, i8⟩], .ref 8 (.root 0), .dead, .dead, .val false [⟨(.int .i64), .sh, i9⟩], .dead, .dead, .dead, .dead, .dead, .dead, .dead, .dead, .dead, .dead, .dead, .dead, .view 72 (.root 0) 1 false, .val false [⟨(.int .i64), .sh, i10⟩], .val false [⟨(.int .i64), .sh, i11⟩]] ++ deads 15, [(8, ⟨true, [⟨(.sl (.sl (.int .i64))), .sh, x12⟩, ⟨(.int .i64), .sh, i13⟩, ⟨(.sl (.int .i64)), .sh, x14⟩, ⟨(.sl TMatrix), .sh, x15⟩]⟩), (72, ⟨false, [⟨(.sl (.int .i64)), .deep, x16⟩]⟩)]⟩
theorem impl_firstColumn.l3_eq (k : Nat) (i8 : Int) (i9 : Int) (i10 : Int) (i11 : Int) (x12 : List (List Int)) (i13 : Int) (x14 : List Int) (x15 : List (Int × Int × Int × List Int)) (x16 : List Int) : impl_firstColumn.l3 (k + 1) i8 i9 i10 i11 x12 i13 x14 x15 x16 =
  if (decide (i11 < i10)) = true then
    if 0 ≤ i11 ∧ i11 < (x16.length : Int) then
      if ((x16.getD i11.toNat 0 : Int) == i8) = true then
        some ((i9, ()), ())
      else
        if 0 ≤ (x16.getD i11.toNat 0 : Int) ∧ (x16.getD i11.toNat 0 : Int) < (x14.length : Int) then
          impl_firstColumn.l3 k i8 (IntKind.i64.wrap (i9 + (x14.getD (x16.getD i11.toNat 0 : Int).toNat 0))) i10 (IntKind.i64.wrap (i11 + (1 : Int))) x12 i13 x14 x15 x16
        else
          none
    else
      none
  else
    some ((i9, ()), ()) := by kernel_rfl
noncomputable def impl_firstColumn.T (k : Nat) (s_1 : List (List Int)) (s_2 : Int) (s_3 : List Int) (s_4 : List (Int × Int × Int × List Int)) (simplex_5 : Int) : Option ((Int × Unit) × (Unit)) :=
  if 0 ≤ simplex_5 ∧ simplex_5 < (s_1.length : Int) then
    (impl_size_int64.F (s_1.getD simplex_5.toNat ([] : List Int), ())).bind fun r6 =>
      (impl_simplicesOf.F (s_1, IntKind.i64.wrap ((r6.1.1 : Int) - (1 : Int)), ())).bind fun r7 =>
        impl_firstColumn.l3 k simplex_5 (0 : Int) (r7.1.1.length : Int) (0 : Int) s_1 s_2 s_3 s_4 r7.1.1
  else
    none
theorem impl_firstColumn.run (k : Nat) (s_1 : List (List Int)) (s_2 : Int) (s_3 : List Int) (s_4 : List (Int × Int × Int × List Int)) (simplex_5 : Int) : runFn impl_firstColumn.cfg impl_firstColumn.fin impl_firstColumn.code (initSt impl_firstColumn.sig.ps ((s_1, (s_2, (s_3, s_4))), simplex_5, ()) 36) k = impl_firstColumn.T k s_1 s_2 s_3 s_4 simplex_5 := by kernel_rfl
theorem impl_firstColumn.of (s_1 : List (List Int)) (s_2 : Int) (s_3 : List Int) (s_4 : List (Int × Int × Int × List Int)) (simplex_5 : Int) {r : (Int × Unit) × (Unit)} (h : Ev (fun k => impl_firstColumn.T k s_1 s_2 s_3 s_4 simplex_5) r) : impl_firstColumn.F ((s_1, (s_2, (s_3, s_4))), simplex_5, ()) = some r := Ev.run (fun k => impl_firstColumn.run k s_1 s_2 s_3 s_4 simplex_5) h
theorem impl_firstColumn.ok : CtxOK Go.Proofs.Tryz.prog impl_firstColumn.ctx := ⟨List.forall_mem_nil _, mixed_ok, tab_ok tab_good, List.forall_mem_cons.2 ⟨impl_size_int64.S, List.forall_mem_cons.2 ⟨impl_simplicesOf.S, List.forall_mem_nil _⟩⟩, List.forall_mem_nil _, List.forall_mem_nil _⟩
theorem impl_firstColumn.S : Sound Go.Proofs.Tryz.prog ⟨191, impl_firstColumn.sig, impl_firstColumn.F⟩ := sound_any (fn := Go.Proofs.Tryz.f191) (code := impl_firstColumn.code) (g := impl_firstColumn.cfg) (res := [.tmp 4]) Go.Proofs.Tryz.func191 (by kernel_rfl) (by kernel_rfl) impl_firstColumn.ok (by kernel_rfl) (by kernel_rfl) (Nat.le_of_ble_eq_true (by kernel_rfl)) (by kernel_rfl)
/-! ### impl_alternating -/
noncomputable def impl_alternating.sig : Sig := ⟨[.val false (.int .i64), .val false (.int .i64)], [(.val false, (.int .i64), .deep)]⟩
noncomputable def impl_alternating.ctx : Ctx := ⟨tabOf tabl, [], [], [], [], []⟩
noncomputable def impl_alternating.cfg : Cfg := ⟨impl_alternating.ctx, [], [], fun _ => ([], []), fun _ => []⟩
noncomputable def impl_alternating.code : Code := (Go.Proofs.Tryz.f192).body.getD .skip
noncomputable def impl_alternating.fin := finK impl_alternating.ctx impl_alternating.sig [.tmp 4]
noncomputable def impl_alternating.F (d : Int × Int × Unit) : Option ((Int × Unit) × (Unit)) := anyK (runFn impl_alternating.cfg impl_alternating.fin impl_alternating.code (initSt impl_alternating.sig.ps d 10))
noncomputable def impl_alternating.T (k_1 : Int) (p_2 : Int) : Option ((Int × Unit) × (Unit)) :=
  if (2 : Int) = 0 then
    none
  else
    if ((k_1.tmod (2 : Int)) == (0 : Int)) = true then
      some (((1 : Int), ()), ())
    else
      some ((IntKind.i64.wrap (p_2 - (1 : Int)), ()), ())
theorem impl_alternating.run (k : Nat) (k_1 : Int) (p_2 : Int) : runFn impl_alternating.cfg impl_alternating.fin impl_alternating.code (initSt impl_alternating.sig.ps (k_1, p_2, ()) 10) k = impl_alternating.T k_1 p_2 := by kernel_rfl
theorem impl_alternating.eq (k_1 : Int) (p_2 : Int) : impl_alternating.F (k_1, p_2, ()) = impl_alternating.T k_1 p_2 := (congrArg anyK (funext fun k => impl_alternating.run k k_1 p_2)).trans (anyK_const _)
theorem impl_alternating.ok : CtxOK Go.Proofs.Tryz.prog impl_alternating.ctx := ⟨List.forall_mem_nil _, mixed_ok, tab_ok tab_good, List.forall_mem_nil _, List.forall_mem_nil _, List.forall_mem_nil _⟩
theorem impl_alternating.S : Sound Go.Proofs.Tryz.prog ⟨192, impl_alternating.sig, impl_alternating.F⟩ := sound_any (fn := Go.Proofs.Tryz.f192) (code := impl_alternating.code) (g := impl_alternating.cfg) (res := [.tmp 4]) Go.Proofs.Tryz.func192 (by kernel_rfl) (by kernel_rfl) impl_alternating.ok (by kernel_rfl) (by kernel_rfl) (Nat.le_of_ble_eq_true (by kernel_rfl)) (by kernel_rfl)
/-! ### impl_coboundaryMatrix -/
noncomputable def impl_coboundaryMatrix.sig : Sig := ⟨[.val true TSheaf, .val false (.int .i64)], [(.val true, TMatrix, .deep)]⟩
noncomputable def impl_coboundaryMatrix.ctx : Ctx := ⟨tabOf tabl, [⟨74, impl_zero.sig, impl_zero.F⟩, ⟨87, impl_stalkSum.sig, impl_stalkSum.F⟩, ⟨110, impl_Matrix_at.sig, impl_Matrix_at.F⟩, ⟨163, impl_simplicesOf.sig, impl_simplicesOf.F⟩, ⟨184, impl_faceIndices.sig, impl_faceIndices.F⟩, ⟨190, impl_direct.sig, impl_direct.F⟩, ⟨191, impl_firstColumn.sig, impl_firstColumn.F⟩, ⟨192, impl_alternating.sig, impl_alternating.F⟩], [], [], [], []⟩
noncomputable def impl_coboundaryMatrix.cfg : Cfg := ⟨impl_coboundaryMatrix.ctx, [], [], fun id => match id with | 3 => ([1, 2, 4, 5, 29, 30, 31], [8, 16, 20, 116]) | 7 => ([1, 2, 4, 5, 7, 29, 30, 31, 40, 41, 42], [8, 16, 20, 116, 160]) | 12 => ([1, 2, 4, 5, 7, 8, 10, 11, 12, 29, 30, 31, 40, 41, 42, 58, 59], [8, 16, 20, 40, 116, 160]) | 15 => ([1, 2, 4, 5, 7, 8, 10, 11, 12, 13, 29, 30, 31, 40, 41, 42, 58, 59, 63, 64], [8, 16, 20, 40, 116, 160]) | _ => ([], []), fun _ => []⟩
noncomputable def impl_coboundaryMatrix.code : Code := (Go.Proofs.Tryz.f118).body.getD .skip
noncomputable def impl_coboundaryMatrix.fin := finK impl_coboundaryMatrix.ctx impl_coboundaryMatrix.sig [.cell 4 65]
noncomputable def impl_coboundaryMatrix.F (d : (List (List Int) × Int × List Int × List (Int × Int × Int × List Int)) × Int × Unit) : Option (((Int × Int × Int × List Int) × Unit) × (Unit)) := anyK (runFn impl_coboundaryMatrix.cfg impl_coboundaryMatrix.fin impl_coboundaryMatrix.code (initSt impl_coboundaryMatrix.sig.ps d 97))
noncomputable def impl_coboundaryMatrix.l3 (k : Nat) (i10 : Int) (i11 : Int) (i12 : Int) (x13 : List (List Int)) (i14 : Int) (x15 : List Int) (x16 : List (Int × Int × Int × List Int)) (i17 : Int) (i18 : Int) (i19 : Int) (x20 : List Int) (i21 : Int) (i22 : Int) (i23 : Int) (x24 : List Int) (x25 : List Int) : Option (((Int × Int × Int × List Int) × Unit) × (Unit)) :=
  Go.Vm.runT impl_coboundaryMatrix.cfg impl_coboundaryMatrix.fin k [.inLoop (sub [1, 1, 0, 1, 0, 0] impl_coboundaryMatrix.code), .inBlock 0, .code (sub [1, 1, 1] impl_coboundaryMatrix.code)]
    ⟨[.dead, .val false [⟨(.int .i64), .sh, i10⟩], .ref 8 (.root 0), .dead, .ref 16 (.root 0), .ref 20 (.root 0), .dead, .dead, .dead, .dead, .dead, .dead, .dead, .dead, .dead, .dead, .dead, .dead, .dead, .dead, .dead, .dead, .dead, .dead, .dead, .dead, .dead, .dead, .dead, .view 116 (.root 0) 1 false, .val false [⟨(.int .i64), .sh, i11⟩], .val false [⟨(.int .i64), .sh, i12⟩]] ++ deads 65, [(8, ⟨true, [⟨(.sl (.sl (.int .i64))), .sh, x13⟩, ⟨(.int .i64), .sh, i14⟩, ⟨(.sl (.int .i64)), .sh, x15⟩, ⟨(.sl TMatrix), .sh, x16⟩]⟩), (16, ⟨true, [⟨(.int .i64), .sh, i17⟩, ⟨(.int .i64), .sh, i18⟩, ⟨(.int .i64), .sh, i19⟩, ⟨(.sl (.int .i64)), .deep, x20⟩]⟩), (20, ⟨true, [⟨(.int .i64), .sh, i21⟩, ⟨(.int .i64), .sh, i22⟩, ⟨(.int .i64), .sh, i23⟩, ⟨(.sl (.int .i64)), .deep, x24⟩]⟩), (116, ⟨false, [⟨(.sl (.int .i64)), .deep, x25⟩]⟩)]⟩
noncomputable def impl_coboundaryMatrix.l7 (k : Nat) (i27 : Int) (i28 : Int) (i29 : Int) (i30 : Int) (i31 : Int) (i32 : Int) (x33 : List (List Int)) (i34 : Int) (x35 : List Int) (x36 : List (Int × Int × Int × List Int)) (i37 : Int) (i38 : Int) (i39 : Int) (x40 : List Int) (i41 : Int) (i42 : Int) (i43 : Int) (x44 : List Int) (x45 : List Int) (x46 : List Int) : Option (((Int × Int × Int × List Int) × Unit) × (Unit)) :=
  Go.Vm.runT impl_coboundaryMatrix.cfg impl_coboundaryMatrix.fin k [.inLoop (sub [1, 1, 0, 1, 0, 0, 1, 1, 0, 0, 1, 1, 1, 0, 0] impl_coboundaryMatrix.code), .inBlock 2, .inBlock 1, .code (sub [1, 1, 0, 1, 0, 0, 1, 1, 1] impl_coboundaryMatrix.code), .inLoop (sub [1, 1, 0, 1, 0, 0] impl_coboundaryMatrix.code), .inBlock 0, .code (sub [1, 1, 1] impl_coboundaryMatrix.code)]
    ⟨[.dead, .val false [⟨(.int .i64), .sh, i27⟩], .ref 8 (.root 0), .dead, .ref 16 (.root 0), .ref 20 (.root 0), .dead, .val false [⟨(.int .i64), .sh, i28⟩], .dead, .dead, .dead, .dead, .dead, .dead, .dead, .dead, .dead, .dead, .dead, .dead, .dead, .dead, .dead, .dead, .dead, .dead, .dead, .dead, .dead, .view 116 (.root 0) 1 false, .val false [⟨(.int .i64), .sh, i29⟩], .val false [⟨(.int .i64), .sh, i30⟩], .dead, .dead, .dead, .dead, .dead, .dead, .dead, .dead, .view 160 (.root 0) 1 false, .val false [⟨(.int .i64), .sh, i31⟩], .val false [⟨(.int .i64), .sh, i32⟩]] ++ deads 54, [(8, ⟨true, [⟨(.sl (.sl (.int .i64))), .sh, x33⟩, ⟨(.int .i64), .sh, i34⟩, ⟨(.sl (.int .i64)), .sh, x35⟩, ⟨(.sl TMatrix), .sh, x36⟩]⟩), (16, ⟨true, [⟨(.int .i64), .sh, i37⟩, ⟨(.int .i64), .sh, i38⟩, ⟨(.int .i64), .sh, i39⟩, ⟨(.sl (.int .i64)), .deep, x40⟩]⟩), (20, ⟨true, [⟨(.int .i64), .sh, i41⟩, ⟨(.int .i64), .sh, i42⟩, ⟨(.int .i64), .sh, i43⟩, ⟨(.sl (.int .i64)), .deep, x44⟩]⟩), (116, ⟨false, [⟨(.sl (.int .i64)), .deep, x45⟩]⟩), (160, ⟨false, [⟨(.sl (.int .i64)), .deep, x46⟩]⟩)]⟩
noncomputable def impl_coboundaryMatrix.l12 (k : Nat) (i50 : Int) (i51 : Int) (i52 : Int) (i53 : Int) (i54 : Int) (i55 : Int) (i56 : Int) (i57 : Int) (i58 : Int) (i59 : Int) (i60 : Int) (x61 : List (List Int)) (i62 : Int) (x63 : List Int) (x64 : List (Int × Int × Int × List Int)) (i65 : Int) (i66 : Int) (i67 : Int) (x68 : List Int) (i69 : Int) (i70 : Int) (i71 : Int) (x72 : List Int) (i73 : Int) (i74 : Int) (i75 : Int) (x76 : List Int) (x77 : List Int) (x78 : List Int) : Option (((Int × Int × Int × List Int) × Unit) × (Unit)) :=
  Go.Vm.runT impl_coboundaryMatrix.cfg impl_coboundaryMatrix.fin k [.inLoop (sub [1, 1, 0, 1, 0, 0, 1, 1, 0, 0, 1, 1, 1, 0, 0, 1, 1, 0, 0, 1, 1, 1, 1, 0, 0] impl_coboundaryMatrix.code), .inBlock 4, .inBlock 3, .code (sub [1, 1, 0, 1, 0, 0, 1, 1, 0, 0, 1, 1, 1, 0, 0, 1, 1, 1] impl_coboundaryMatrix.code), .inLoop (sub [1, 1, 0, 1, 0, 0, 1, 1, 0, 0, 1, 1, 1, 0, 0] impl_coboundaryMatrix.code), .inBlock 2, .inBlock 1, .code (sub [1, 1, 0, 1, 0, 0, 1, 1, 1] impl_coboundaryMatrix.code), .inLoop (sub [1, 1, 0, 1, 0, 0] impl_coboundaryMatrix.code), .inBlock 0, .code (sub [1, 1, 1] impl_coboundaryMatrix.code)]
    ⟨[.dead, .val false [⟨(.int .i64), .sh, i50⟩], .ref 8 (.root 0), .dead, .ref 16 (.root 0), .ref 20 (.root 0), .dead, .val false [⟨(.int .i64), .sh, i51⟩], .val false [⟨(.int .i64), .sh, i52⟩], .dead, .ref 40 (.root 0), .val false [⟨(.int .i64), .sh, i53⟩], .val false [⟨(.int .i64), .sh, i54⟩], .dead, .dead, .dead, .dead, .dead, .dead, .dead, .dead, .dead, .dead, .dead, .dead, .dead, .dead, .dead, .dead, .view 116 (.root 0) 1 false, .val false [⟨(.int .i64), .sh, i55⟩], .val false [⟨(.int .i64), .sh, i56⟩], .dead, .dead, .dead, .dead, .dead, .dead, .dead, .dead, .view 160 (.root 0) 1 false, .val false [⟨(.int .i64), .sh, i57⟩], .val false [⟨(.int .i64), .sh, i58⟩], .dead, .dead, .dead, .dead, .dead, .dead, .dead, .dead, .dead, .dead, .dead, .dead, .dead, .dead, .dead, .val false [⟨(.int .i64), .sh, i59⟩], .val false [⟨(.int .i64), .sh, i60⟩]] ++ deads 37, [(8, ⟨true, [⟨(.sl (.sl (.int .i64))), .sh, x61⟩, ⟨(.int .i64), .sh, i62⟩, ⟨(.sl (.int .i64)), .sh, x63⟩, ⟨(.sl TMatrix), .sh, x64⟩]⟩), (16, ⟨true, [⟨(.int .i64), .sh, i65⟩, ⟨(.int .i64), .sh, i66⟩, ⟨(.int .i64), .sh, i67⟩, ⟨(.sl (.int .i64)), .deep, x68⟩]⟩), (20, ⟨true, [⟨(.int .i64), .sh, i69⟩, ⟨(.int .i64), .sh, i70⟩, ⟨(.int .i64), .sh, i71⟩, ⟨(.sl (.int .i64)), .deep, x72⟩]⟩), (40, ⟨true, [⟨(.int .i64), .sh, i73⟩, ⟨(.int .i64), .sh, i74⟩, ⟨(.int .i64), .sh, i75⟩, ⟨(.sl (.int .i64)), .sh, x76⟩]⟩), (116, ⟨false, [⟨(.sl (.int .i64)), .deep, x77⟩]⟩), (160, ⟨false, [⟨(.sl (.int .i64)), .deep, x78⟩]⟩)]⟩
noncomputable def impl_coboundaryMatrix.l15 (k : Nat) (i79 : Int) (i80 : Int) (i81 : Int) (i82 : Int) (i83 : Int) (i84 : Int) (i85 : Int) (i86 : Int) (i87 : Int) (i88 : Int) (i89 : Int) (i90 : Int) (i91 : Int) (i92 : Int) (x93 : List (List Int)) (i94 : Int) (x95 : List Int) (x96 : List (Int × Int × Int × List Int)) (i97 : Int) (i98 : Int) (i99 : Int) (x100 : List Int) (i101 : Int) (i102 : Int) (i103 : Int) (x104 : List Int) (i105 : Int) (i106 : Int) (i107 : Int) (x108 : List Int) (x109 : List Int) (x110 : List Int) : Option (((Int × Int × Int × List Int) × Unit) × (Unit)) :=
  Go.Vm.runT impl_coboundaryMatrix.cfg impl_coboundaryMatrix.fin k [.inLoop (sub [1, 1, 0, 1, 0, 0, 1, 1, 0, 0, 1, 1, 1, 0, 0, 1, 1, 0, 0, 1, 1, 1, 1, 0, 0, 1, 1, 0, 0, 1, 1, 0, 0] impl_coboundaryMatrix.code), .inBlock 6, .inBlock 5, .code (sub [1, 1, 0, 1, 0, 0, 1, 1, 0, 0, 1, 1, 1, 0, 0, 1, 1, 0, 0, 1, 1, 1, 1, 0, 0, 1, 1, 1] impl_coboundaryMatrix.code), .inLoop (sub [1, 1, 0, 1, 0, 0, 1, 1, 0, 0, 1, 1, 1, 0, 0, 1, 1, 0, 0, 1, 1, 1, 1, 0, 0] impl_coboundaryMatrix.code), .inBlock 4, .inBlock 3, .code (sub [1, 1, 0, 1, 0, 0, 1, 1, 0, 0, 1, 1, 1, 0, 0, 1, 1, 1] impl_coboundaryMatrix.code), .inLoop (sub [1, 1, 0, 1, 0, 0, 1, 1, 0, 0, 1, 1, 1, 0, 0] impl_coboundaryMatrix.code), .inBlock 2, .inBlock 1, .code (sub [1, 1, 0, 1, 0, 0, 1, 1, 1] impl_coboundaryMatrix.code), .inLoop (sub [1, 1, 0, 1, 0, 0] impl_coboundaryMatrix.code), .inBlock 0, .code (sub [1, 1, 1] impl_coboundaryMatrix.code)]
    ⟨[.dead, .val false [⟨(.int .i64), .sh, i79⟩], .ref 8 (.root 0), .dead, .ref 16 (.root 0), .ref 20 (.root 0), .dead, .val false [⟨(.int .i64), .sh, i80⟩], .val false [⟨(.int .i64), .sh, i81⟩], .dead, .ref 40 (.root 0), .val false [⟨(.int .i64), .sh, i82⟩], .val false [⟨(.int .i64), .sh, i83⟩], .val false [⟨(.int .i64), .sh, i84⟩], .dead, .dead, .dead, .dead, .dead, .dead, .dead, .dead, .dead, .dead, .dead, .dead, .dead, .dead, .dead, .view 116 (.root 0) 1 false, .val false [⟨(.int .i64), .sh, i85⟩], .val false [⟨(.int .i64), .sh, i86⟩], .dead, .dead, .dead, .dead, .dead, .dead, .dead, .dead, .view 160 (.root 0) 1 false, .val false [⟨(.int .i64), .sh, i87⟩], .val false [⟨(.int .i64), .sh, i88⟩], .dead, .dead, .dead, .dead, .dead, .dead, .dead, .dead, .dead, .dead, .dead, .dead, .dead, .dead, .dead, .val false [⟨(.int .i64), .sh, i89⟩], .val false [⟨(.int .i64), .sh, i90⟩], .dead, .dead, .dead, .val false [⟨(.int .i64), .sh, i91⟩], .val false [⟨(.int .i64), .sh, i92⟩]] ++ deads 32, [(8, ⟨true, [⟨(.sl (.sl (.int .i64))), .sh, x93⟩, ⟨(.int .i64), .sh, i94⟩, ⟨(.sl (.int .i64)), .sh, x95⟩, ⟨(.sl TMatrix), .sh, x96⟩]⟩), (16, ⟨true, [⟨(.int .i64), .sh, i97⟩, ⟨(.int .i64), .sh, i98⟩, ⟨(.int .i64), .sh, i99⟩, ⟨(.sl (.int .i64)), .deep, x100⟩]⟩), (20, ⟨true, [⟨(.int .i64), .sh, i101⟩, ⟨(.int .i64), .sh, i102⟩, ⟨(.int .i64), .sh, i103⟩, ⟨(.sl (.int .i64)), .deep, x104⟩]⟩), (40, ⟨true, [⟨(.int .i64), .sh, i105⟩, ⟨(.int .i64), .sh, i106⟩, ⟨(.int .i64), .sh, i107⟩, ⟨(.sl (.int .i64)), .sh, x108⟩]⟩), (116, ⟨false, [⟨(.sl (.int .i64)), .deep, x109⟩]⟩), (160, ⟨false, [⟨(.sl (.int .i64)), .deep, x110⟩]⟩)]⟩
theorem impl_coboundaryMatrix.l3_eq (k : Nat) (i10 : Int) (i11 : Int) (i12 : Int) (x13 : List (List Int)) (i14 : Int) (x15 : List Int) (x16 : List (Int × Int × Int × List Int)) (i17 : Int) (i18 : Int) (i19 : Int) (x20 : List Int) (i21 : Int) (i22 : Int) (i23 : Int) (x24 : List Int) (x25 : List Int) : impl_coboundaryMatrix.l3 (k + 1) i10 i11 i12 x13 i14 x15 x16 i17 i18 i19 x20 i21 i22 i23 x24 x25 =
  if (decide (i12 < i11)) = true then
    if 0 ≤ i12 ∧ i12 < (x25.length : Int) then
      if (decide (i10 < (0 : Int))) = true then
        some (((i21, (i22, (i23, x24))), ()), ())
      else
        (impl_faceIndices.F (x13, (x25.getD i12.toNat 0 : Int), ())).bind fun r26 =>
          impl_coboundaryMatrix.l7 k i10 (x25.getD i12.toNat 0 : Int) i11 i12 (r26.1.1.length : Int) (0 : Int) x13 i14 x15 x16 i17 i18 i19 x20 i21 i22 i23 x24 x25 r26.1.1
    else
      none
  else
    some (((i21, (i22, (i23, x24))), ()), ()) := by kernel_rfl
theorem impl_coboundaryMatrix.l7_eq (k : Nat) (i27 : Int) (i28 : Int) (i29 : Int) (i30 : Int) (i31 : Int) (i32 : Int) (x33 : List (List Int)) (i34 : Int) (x35 : List Int) (x36 : List (Int × Int × Int × List Int)) (i37 : Int) (i38 : Int) (i39 : Int) (x40 : List Int) (i41 : Int) (i42 : Int) (i43 : Int) (x44 : List Int) (x45 : List Int) (x46 : List Int) : impl_coboundaryMatrix.l7 (k + 1) i27 i28 i29 i30 i31 i32 x33 i34 x35 x36 i37 i38 i39 x40 i41 i42 i43 x44 x45 x46 =
  if (decide (i32 < i31)) = true then
    if 0 ≤ i32 ∧ i32 < (x46.length : Int) then
      (impl_direct.F ((x33, (i34, (x35, x36))), i28, i32, ())).bind fun r47 =>
        (impl_firstColumn.F ((x33, (i34, (x35, x36))), i28, ())).bind fun r48 =>
          (impl_firstColumn.F ((x33, (i34, (x35, x36))), (x46.getD i32.toNat 0 : Int), ())).bind fun r49 =>
            impl_coboundaryMatrix.l12 k i27 i28 i32 (r48.1.1 : Int) (r49.1.1 : Int) i29 i30 i31 i32 (r47.1.1.2.1 : Int) (0 : Int) x33 i34 x35 x36 i37 i38 i39 x40 i41 i42 i43 x44 (r47.1.1.1 : Int) (r47.1.1.2.1 : Int) (r47.1.1.2.2.1 : Int) r47.1.1.2.2.2 x45 x46
    else
      none
  else
    impl_coboundaryMatrix.l3 k i27 i29 (IntKind.i64.wrap (i30 + (1 : Int))) x33 i34 x35 x36 i37 i38 i39 x40 i41 i42 i43 x44 x45 := by kernel_rfl
theorem impl_coboundaryMatrix.l12_eq (k : Nat) (i50 : Int) (i51 : Int) (i52 : Int) (i53 : Int) (i54 : Int) (i55 : Int) (i56 : Int) (i57 : Int) (i58 : Int) (i59 : Int) (i60 : Int) (x61 : List (List Int)) (i62 : Int) (x63 : List Int) (x64 : List (Int × Int × Int × List Int)) (i65 : Int) (i66 : Int) (i67 : Int) (x68 : List Int) (i69 : Int) (i70 : Int) (i71 : Int) (x72 : List Int) (i73 : Int) (i74 : Int) (i75 : Int) (x76 : List Int) (x77 : List Int) (x78 : List Int) : impl_coboundaryMatrix.l12 (k + 1) i50 i51 i52 i53 i54 i55 i56 i57 i58 i59 i60 x61 i62 x63 x64 i65 i66 i67 x68 i69 i70 i71 x72 i73 i74 i75 x76 x77 x78 =
  if (decide (i60 < i59)) = true then
    impl_coboundaryMatrix.l15 k i50 i51 i52 i53 i54 i60 i55 i56 i57 i58 i59 i60 i75 (0 : Int) x61 i62 x63 x64 i65 i66 i67 x68 i69 i70 i71 x72 i73 i74 i75 x76 x77 x78
  else
    impl_coboundaryMatrix.l7 k i50 i51 i55 i56 i57 (IntKind.i64.wrap (i58 + (1 : Int))) x61 i62 x63 x64 i65 i66 i67 x68 i69 i70 i71 x72 x77 x78 := by kernel_rfl
theorem impl_coboundaryMatrix.l15_eq (k : Nat) (i79 : Int) (i80 : Int) (i81 : Int) (i82 : Int) (i83 : Int) (i84 : Int) (i85 : Int) (i86 : Int) (i87 : Int) (i88 : Int) (i89 : Int) (i90 : Int) (i91 : Int) (i92 : Int) (x93 : List (List Int)) (i94 : Int) (x95 : List Int) (x96 : List (Int × Int × Int × List Int)) (i97 : Int) (i98 : Int) (i99 : Int) (x100 : List Int) (i101 : Int) (i102 : Int) (i103 : Int) (x104 : List Int) (i105 : Int) (i106 : Int) (i107 : Int) (x108 : List Int) (x109 : List Int) (x110 : List Int) : impl_coboundaryMatrix.l15 (k + 1) i79 i80 i81 i82 i83 i84 i85 i86 i87 i88 i89 i90 i91 i92 x93 i94 x95 x96 i97 i98 i99 x100 i101 i102 i103 x104 i105 i106 i107 x108 x109 x110 =
  if (decide (i92 < i91)) = true then
    (impl_Matrix_at.F ((i105, (i106, (i107, x108))), i84, i92, ())).bind fun r111 =>
      (impl_alternating.F (i81, i94, ())).bind fun r112 =>
        if i94 = 0 then
          none
        else
          if 0 ≤ (IntKind.i64.wrap ((IntKind.i64.wrap ((IntKind.i64.wrap ((IntKind.i64.wrap (i82 + i84)) * i103)) + i83)) + i92)) ∧ (IntKind.i64.wrap ((IntKind.i64.wrap ((IntKind.i64.wrap ((IntKind.i64.wrap (i82 + i84)) * i103)) + i83)) + i92)) < (x104.length : Int) then
            let y113 : List Int := x104.set (IntKind.i64.wrap ((IntKind.i64.wrap ((IntKind.i64.wrap ((IntKind.i64.wrap (i82 + i84)) * i103)) + i83)) + i92)).toNat ((IntKind.i64.wrap ((r111.1.1 : Int) * (r112.1.1 : Int))).tmod i94)
            impl_coboundaryMatrix.l15 k i79 i80 i81 i82 i83 i84 i85 i86 i87 i88 i89 i90 i91 (IntKind.i64.wrap (i92 + (1 : Int))) x93 i94 x95 x96 i97 i98 i99 x100 i101 i102 i103 y113 i105 i106 i107 x108 x109 x110
          else
            none
  else
    impl_coboundaryMatrix.l12 k i79 i80 i81 i82 i83 i85 i86 i87 i88 i89 (IntKind.i64.wrap (i90 + (1 : Int))) x93 i94 x95 x96 i97 i98 i99 x100 i101 i102 i103 x104 i105 i106 i107 x108 x109 x110 := by kernel_rfl
noncomputable def impl_coboundaryMatrix.T (k : Nat) (toArray_1 : List (List Int)) (toArray_2 : Int) (toArray_3 : List Int) (toArray_4 : List (Int × Int × Int × List Int)) (a_5 : Int) : Option (((Int × Int × Int × List Int) × Unit) × (Unit)) :=
  (impl_stalkSum.F ((toArray_1, (toArray_2, (toArray_3, toArray_4))), IntKind.i64.wrap (a_5 + (1 : Int)), ())).bind fun r6 =>
    (impl_stalkSum.F ((toArray_1, (toArray_2, (toArray_3, toArray_4))), a_5, ())).bind fun r7 =>
      (impl_zero.F (toArray_2, (r6.1.1 : Int), (r7.1.1 : Int), ())).bind fun r8 =>
        (impl_simplicesOf.F (toArray_1, IntKind.i64.wrap (a_5 + (1 : Int)), ())).bind fun r9 =>
          impl_coboundaryMatrix.l3 k a_5 (r9.1.1.length : Int) (0 : Int) toArray_1 toArray_2 toArray_3 toArray_4 0 0 0 ([]) (r8.1.1.1 : Int) (r8.1.1.2.1 : Int) (r8.1.1.2.2.1 : Int) r8.1.1.2.2.2 r9.1.1
theorem impl_coboundaryMatrix.run (k : Nat) (toArray_1 : List (List Int)) (toArray_2 : Int) (toArray_3 : List Int) (toArray_4 : List (Int × Int × Int × List Int)) (a_5 : Int) : runFn impl_coboundaryMatrix.cfg impl_coboundaryMatrix.fin impl_coboundaryMatrix.code (initSt impl_coboundaryMatrix.sig.ps ((toArray_1, (toArray_2, (toArray_3, toArray_4))), a_5, ()) 97) k = impl_coboundaryMatrix.T k toArray_1 toArray_2 toArray_3 toArray_4 a_5 := by kernel_rfl
theorem impl_coboundaryMatrix.of (toArray_1 : List (List Int)) (toArray_2 : Int) (toArray_3 : List Int) (toArray_4 : List (Int × Int × Int × List Int)) (a_5 : Int) {r : ((Int × Int × Int × List Int) × Unit) × (Unit)} (h : Ev (fun k => impl_coboundaryMatrix.T k toArray_1 toArray_2 toArray_3 toArray_4 a_5) r) : impl_coboundaryMatrix.F ((toArray_1, (toArray_2, (toArray_3, toArray_4))), a_5, ()) = some r := Ev.run (fun k => impl_coboundaryMatrix.run k toArray_1 toArray_2 toArray_3 toArray_4 a_5) h
theorem impl_coboundaryMatrix.ok : CtxOK Go.Proofs.Tryz.prog impl_coboundaryMatrix.ctx := ⟨List.forall_mem_nil _, mixed_ok, tab_ok tab_good, List.forall_mem_cons.2 ⟨impl_zero.S, List.forall_mem_cons.2 ⟨impl_stalkSum.S, List.forall_mem_cons.2 ⟨impl_Matrix_at.S, List.forall_mem_cons.2 ⟨impl_simplicesOf.S, List.forall_mem_cons.2 ⟨impl_faceIndices.S, List.forall_mem_cons.2 ⟨impl_direct.S, List.forall_mem_cons.2 ⟨impl_firstColumn.S, List.forall_mem_cons.2 ⟨impl_alternating.S, List.forall_mem_nil _⟩⟩⟩⟩⟩⟩⟩⟩, List.forall_mem_nil _, List.forall_mem_nil _⟩
theorem impl_coboundaryMatrix.S : Sound Go.Proofs.Tryz.prog ⟨118, impl_coboundaryMatrix.sig, impl_coboundaryMatrix.F⟩ := sound_any (fn := Go.Proofs.Tryz.f118) (code := impl_coboundaryMatrix.code) (g := impl_coboundaryMatrix.cfg) (res := [.cell 4 65]) Go.Proofs.Tryz.func118 (by kernel_rfl) (by kernel_rfl) impl_coboundaryMatrix.ok (by kernel_rfl) (by kernel_rfl) (Nat.le_of_ble_eq_true (by kernel_rfl)) (by kernel_rfl)
/-! ### impl_CosheafBoundary -/
noncomputable def impl_CosheafBoundary.sig : Sig := ⟨[.val true TSheaf, .val false (.int .i64), .val false (.sl (.int .i64))], [(.val false, (.sl (.int .i64)), .deep), (.val false, (.int .i64), .deep)]⟩
noncomputable def impl_CosheafBoundary.ctx : Ctx := ⟨tabOf tabl, [⟨17, impl_IsCosheaf.sig, impl_IsCosheaf.F⟩, ⟨64, impl_sheafBehind.sig, impl_sheafBehind.F⟩, ⟨97, impl_transpose.sig, impl_transpose.F⟩, ⟨116, impl_withCochain.sig, impl_withCochain.F⟩, ⟨117, impl_apply.sig, impl_apply.F⟩, ⟨118, impl_coboundaryMatrix.sig, impl_coboundaryMatrix.F⟩], [], [], [], []⟩
noncomputable def impl_CosheafBoundary.cfg : Cfg := ⟨impl_CosheafBoundary.ctx, [], [], fun _ => ([], []), fun _ => []⟩
noncomputable def impl_CosheafBoundary.code : Code := (Go.Proofs.Tryz.f55).body.getD .skip
noncomputable def impl_CosheafBoundary.fin := finK impl_CosheafBoundary.ctx impl_CosheafBoundary.sig [.tmp 6, .tmp 7]
noncomputable def impl_CosheafBoundary.F (d : (List (List Int) × Int × List Int × List (Int × Int × Int × List Int)) × Int × List Int × Unit) : Option ((List Int × Int × Unit) × (Unit)) := anyK (runFn impl_CosheafBoundary.cfg impl_CosheafBoundary.fin impl_CosheafBoundary.code (initSt impl_CosheafBoundary.sig.ps d 29))
noncomputable def impl_CosheafBoundary.T (t_1 : List (List Int)) (t_2 : Int) (t_3 : List Int) (t_4 : List (Int × Int × Int × List Int)) (k_5 : Int) (x_6 : List Int) : Option ((List Int × Int × Unit) × (Unit)) :=
  (impl_IsCosheaf.F ((t_1, (t_2, (t_3, t_4))), ())).bind fun r7 =>
    if (!(r7.1.1 : Bool)) = true then
      some (([], ((1 : Int), ())), ())
    else
      (impl_sheafBehind.F ((t_1, (t_2, (t_3, t_4))), ())).bind fun r8 =>
        (impl_withCochain.F (r8.1.1, k_5, x_6, ())).bind fun r9 =>
          if ((r9.1.1 : Int) != (0 : Int)) = true then
            some (([], ((r9.1.1 : Int), ())), ())
          else
            (impl_coboundaryMatrix.F (r8.1.1, IntKind.i64.wrap (k_5 - (1 : Int)), ())).bind fun r10 =>
              (impl_transpose.F (r10.1.1, ())).bind fun r11 =>
                (impl_apply.F (r11.1.1, x_6, ())).bind fun r12 =>
                  some ((r12.1.1, ((0 : Int), ())), ())
theorem impl_CosheafBoundary.run (k : Nat) (t_1 : List (List Int)) (t_2 : Int) (t_3 : List Int) (t_4 : List (Int × Int × Int × List Int)) (k_5 : Int) (x_6 : List Int) : runFn impl_CosheafBoundary.cfg impl_CosheafBoundary.fin impl_CosheafBoundary.code (initSt impl_CosheafBoundary.sig.ps ((t_1, (t_2, (t_3, t_4))), k_5, x_6, ()) 29) k = impl_CosheafBoundary.T t_1 t_2 t_3 t_4 k_5 x_6 := by kernel_rfl
theorem impl_CosheafBoundary.eq (t_1 : List (List Int)) (t_2 : Int) (t_3 : List Int) (t_4 : List (Int × Int × Int × List Int)) (k_5 : Int) (x_6 : List Int) : impl_CosheafBoundary.F ((t_1, (t_2, (t_3, t_4))), k_5, x_6, ()) = impl_CosheafBoundary.T t_1 t_2 t_3 t_4 k_5 x_6 := (congrArg anyK (funext fun k => impl_CosheafBoundary.run k t_1 t_2 t_3 t_4 k_5 x_6)).trans (anyK_const _)
theorem impl_CosheafBoundary.ok : CtxOK Go.Proofs.Tryz.prog impl_CosheafBoundary.ctx := ⟨List.forall_mem_nil _, mixed_ok, tab_ok tab_good, List.forall_mem_cons.2 ⟨impl_IsCosheaf.S, List.forall_mem_cons.2 ⟨impl_sheafBehind.S, List.forall_mem_cons.2 ⟨impl_transpose.S, List.forall_mem_cons.2 ⟨impl_withCochain.S, List.forall_mem_cons.2 ⟨impl_apply.S, List.forall_mem_cons.2 ⟨impl_coboundaryMatrix.S, List.forall_mem_nil _⟩⟩⟩⟩⟩⟩, List.forall_mem_nil _, List.forall_mem_nil _⟩
theorem impl_CosheafBoundary.S : Sound Go.Proofs.Tryz.prog ⟨55, impl_CosheafBoundary.sig, impl_CosheafBoundary.F⟩ := sound_any (fn := Go.Proofs.Tryz.f55) (code := impl_CosheafBoundary.code) (g := impl_CosheafBoundary.cfg) (res := [.tmp 6, .tmp 7]) Go.Proofs.Tryz.func55 (by kernel_rfl) (by kernel_rfl) impl_CosheafBoundary.ok (by kernel_rfl) (by kernel_rfl) (Nat.le_of_ble_eq_true (by kernel_rfl)) (by kernel_rfl)
/-! ### laws_FnExactCosheafBoundary -/
noncomputable def laws_FnExactCosheafBoundary.sig : Sig := ⟨[.val true TSheaf, .val false (.int .i64), .val false (.sl (.int .i64))], [(.val false, .bool, .deep)]⟩
noncomputable def laws_FnExactCosheafBoundary.ctx : Ctx := ⟨tabOf tabl, [⟨14, laws_szCosheaf.sig, laws_szCosheaf.F⟩, ⟨16, laws_toCosheaf.sig, laws_toCosheaf.F⟩, ⟨18, laws_eqCosheaf.sig, laws_eqCosheaf.F⟩, ⟨35, laws_toInt64S.sig, laws_toInt64S.F⟩, ⟨37, laws_eqInt64S.sig, laws_eqInt64S.F⟩, ⟨40, laws_markInt64S.sig, laws_markInt64S.F⟩, ⟨41, laws_heldInt64S.sig, laws_heldInt64S.F⟩, ⟨45, laws_markCosheaf.sig, laws_markCosheaf.F⟩, ⟨54, spec_CosheafBoundary.sig, spec_CosheafBoundary.F⟩, ⟨55, impl_CosheafBoundary.sig, impl_CosheafBoundary.F⟩], [], [], [], []⟩
noncomputable def laws_FnExactCosheafBoundary.cfg : Cfg := ⟨laws_FnExactCosheafBoundary.ctx, [], [], fun _ => ([], []), fun _ => []⟩
noncomputable def laws_FnExactCosheafBoundary.code : Code := (Go.Proofs.Tryz.f11).body.getD .skip
noncomputable def laws_FnExactCosheafBoundary.fin := finK laws_FnExactCosheafBoundary.ctx laws_FnExactCosheafBoundary.sig [.tmp 6]
noncomputable def laws_FnExactCosheafBoundary.F (d : (List (List Int) × Int × List Int × List (Int × Int × Int × List Int)) × Int × List Int × Unit) : Option ((Bool × Unit) × (Unit)) := anyK (runFn laws_FnExactCosheafBoundary.cfg laws_FnExactCosheafBoundary.fin laws_FnExactCosheafBoundary.code (initSt laws_FnExactCosheafBoundary.sig.ps d 122))
noncomputable def laws_FnExactCosheafBoundary.T (toArray_1 : List (List Int)) (toArray_2 : Int) (toArray_3 : List Int) (toArray_4 : List (Int × Int × Int × List Int)) (a_5 : Int) (a_6 : List Int) : Option ((Bool × Unit) × (Unit)) :=
  if (decide ((a_6.length : Int) > (1048576 : Int))) = true then
    some ((true, ()), ())
  else
    (laws_szCosheaf.F ((toArray_1, (toArray_2, (toArray_3, toArray_4))), (1048576 : Int), ())).bind fun r7 =>
      if (decide ((r7.1.1 : Int) < (0 : Int))) = true then
        some ((true, ()), ())
      else
        (laws_toCosheaf.F ((toArray_1, (toArray_2, (toArray_3, toArray_4))), ())).bind fun r8 =>
          (laws_toInt64S.F (a_6, ())).bind fun r9 =>
            (spec_CosheafBoundary.F (r8.1.1, a_5, r9.1.1, ())).bind fun r10 =>
              (laws_toCosheaf.F ((toArray_1, (toArray_2, (toArray_3, toArray_4))), ())).bind fun r11 =>
                (laws_toInt64S.F (a_6, ())).bind fun r12 =>
                  (impl_CosheafBoundary.F (r11.1.1, a_5, r12.1.1, ())).bind fun r13 =>
                    (laws_eqInt64S.F (r13.1.1, r10.1.1, ())).bind fun r14 =>
                      if (!(r14.1.1 : Bool)) = true then
                        some ((false, ()), ())
                      else
                        if ((r13.1.2.1 : Int) != (r10.1.2.1 : Int)) = true then
                          some ((false, ()), ())
                        else
                          (laws_toCosheaf.F ((toArray_1, (toArray_2, (toArray_3, toArray_4))), ())).bind fun r15 =>
                            (laws_eqCosheaf.F (r11.1.1, r15.1.1, ())).bind fun r16 =>
                              if (!(r16.1.1 : Bool)) = true then
                                some ((false, ()), ())
                              else
                                (laws_toInt64S.F (a_6, ())).bind fun r17 =>
                                  (laws_eqInt64S.F (r12.1.1, r17.1.1, ())).bind fun r18 =>
                                    if (!(r18.1.1 : Bool)) = true then
                                      some ((false, ()), ())
                                    else
                                      (laws_markCosheaf.F (r11.1.1, (1 : Int), ())).bind fun r19 =>
                                        (laws_markInt64S.F (r12.1.1, (r19.1.1 : Int), ())).bind fun r20 =>
                                          if (decide ((r20.1.1 : Int) < (0 : Int))) = true then
                                            some ((false, ()), ())
                                          else
                                            (laws_eqInt64S.F (r13.1.1, r10.1.1, ())).bind fun r21 =>
                                              if (!(r21.1.1 : Bool)) = true then
                                                some ((false, ()), ())
                                              else
                                                if ((r13.1.2.1 : Int) != (r10.1.2.1 : Int)) = true then
                                                  some ((false, ()), ())
                                                else
                                                  (laws_markInt64S.F (r13.1.1, (1 : Int), ())).bind fun r22 =>
                                                    (laws_heldInt64S.F (r22.2.1, (1 : Int), ())).bind fun r23 =>
                                                      if (decide ((r23.1.1 : Int) < (0 : Int))) = true then
                                                        some ((false, ()), ())
                                                      else
                                                        if ((r23.1.1 : Int) != (r22.1.1 : Int)) = true then
                                                          some ((false, ()), ())
                                                        else
                                                          (laws_toCosheaf.F ((toArray_1, (toArray_2, (toArray_3, toArray_4))), ())).bind fun r24 =>
                                                            (laws_toInt64S.F (a_6, ())).bind fun r25 =>
                                                              (impl_CosheafBoundary.F (r24.1.1, a_5, r25.1.1, ())).bind fun r26 =>
                                                                (laws_eqInt64S.F (r26.1.1, r10.1.1, ())).bind fun r27 =>
                                                                  if (!(r27.1.1 : Bool)) = true then
                                                                    some ((false, ()), ())
                                                                  else
                                                                    if ((r26.1.2.1 : Int) != (r10.1.2.1 : Int)) = true then
                                                                      some ((false, ()), ())
                                                                    else
                                                                      (laws_heldInt64S.F (r22.2.1, (1 : Int), ())).bind fun r28 =>
                                                                        if (decide ((r28.1.1 : Int) < (0 : Int))) = true then
                                                                          some ((false, ()), ())
                                                                        else
                                                                          if ((r28.1.1 : Int) != (r22.1.1 : Int)) = true then
                                                                            some ((false, ()), ())
                                                                          else
                                                                            some ((true, ()), ())
theorem laws_FnExactCosheafBoundary.run (k : Nat) (toArray_1 : List (List Int)) (toArray_2 : Int) (toArray_3 : List Int) (toArray_4 : List (Int × Int × Int × List Int)) (a_5 : Int) (a_6 : List Int) : runFn laws_FnExactCosheafBoundary.cfg laws_FnExactCosheafBoundary.fin laws_FnExactCosheafBoundary.code (initSt laws_FnExactCosheafBoundary.sig.ps ((toArray_1, (toArray_2, (toArray_3, toArray_4))), a_5, a_6, ()) 122) k = laws_FnExactCosheafBoundary.T toArray_1 toArray_2 toArray_3 toArray_4 a_5 a_6 := by kernel_rfl
theorem laws_FnExactCosheafBoundary.eq (toArray_1 : List (List Int)) (toArray_2 : Int) (toArray_3 : List Int) (toArray_4 : List (Int × Int × Int × List Int)) (a_5 : Int) (a_6 : List Int) : laws_FnExactCosheafBoundary.F ((toArray_1, (toArray_2, (toArray_3, toArray_4))), a_5, a_6, ()) = laws_FnExactCosheafBoundary.T toArray_1 toArray_2 toArray_3 toArray_4 a_5 a_6 := (congrArg anyK (funext fun k => laws_FnExactCosheafBoundary.run k toArray_1 toArray_2 toArray_3 toArray_4 a_5 a_6)).trans (anyK_const _)
theorem laws_FnExactCosheafBoundary.ok : CtxOK Go.Proofs.Tryz.prog laws_FnExactCosheafBoundary.ctx := ⟨List.forall_mem_nil _, mixed_ok, tab_ok tab_good, List.forall_mem_cons.2 ⟨laws_szCosheaf.S, List.forall_mem_cons.2 ⟨laws_toCosheaf.S, List.forall_mem_cons.2 ⟨laws_eqCosheaf.S, List.forall_mem_cons.2 ⟨laws_toInt64S.S, List.forall_mem_cons.2 ⟨laws_eqInt64S.S, List.forall_mem_cons.2 ⟨laws_markInt64S.S, List.forall_mem_cons.2 ⟨laws_heldInt64S.S, List.forall_mem_cons.2 ⟨laws_markCosheaf.S, List.forall_mem_cons.2 ⟨spec_CosheafBoundary.S, List.forall_mem_cons.2 ⟨impl_CosheafBoundary.S, List.forall_mem_nil _⟩⟩⟩⟩⟩⟩⟩⟩⟩⟩, List.forall_mem_nil _, List.forall_mem_nil _⟩
theorem laws_FnExactCosheafBoundary.S : Sound Go.Proofs.Tryz.prog ⟨11, laws_FnExactCosheafBoundary.sig, laws_FnExactCosheafBoundary.F⟩ := sound_any (fn := Go.Proofs.Tryz.f11) (code := laws_FnExactCosheafBoundary.code) (g := laws_FnExactCosheafBoundary.cfg) (res := [.tmp 6]) Go.Proofs.Tryz.func11 (by kernel_rfl) (by kernel_rfl) laws_FnExactCosheafBoundary.ok (by kernel_rfl) (by kernel_rfl) (Nat.le_of_ble_eq_true (by kernel_rfl)) (by kernel_rfl)
end Go.Proofs.YtbjnpdngackjoaaGreat
