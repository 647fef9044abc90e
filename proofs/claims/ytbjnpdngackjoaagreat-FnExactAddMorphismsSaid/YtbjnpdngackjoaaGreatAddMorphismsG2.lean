/- The functions, as the machine runs them. -/
import Derived.Test.YtbjnpdngackjoaaGreatAddMorphismsG1
import Derived.Test.YtbjnpdngackjoaaGreatProg
import Derived.KernelRfl
import Derived.WalkKit
import Derived.Lib.Walk
import Derived.Lib.AppendZeros
namespace Go.Proofs.YtbjnpdngackjoaaGreat
open Go Go.Vm
set_option linter.unusedVariables false
set_option linter.unusedSimpArgs false
/-! ### slices_Concat_Lint64_int64 -/
noncomputable def slices_Concat_Lint64_int64.sig : Sig := ⟨[.val false (.sl (.sl (.int .i64)))], [(.val false, (.sl (.int .i64)), .deep)]⟩
noncomputable def slices_Concat_Lint64_int64.ctx : Ctx := ⟨tabOf tabl, [], [], [], [(232, (.int .i64))], []⟩
noncomputable def slices_Concat_Lint64_int64.cfg : Cfg := ⟨slices_Concat_Lint64_int64.ctx, [], [], fun id => match id with | 3 => ([0, 3, 9, 10, 11], []) | 11 => ([6, 25, 26, 27], [24]) | _ => ([], []), fun _ => []⟩
noncomputable def slices_Concat_Lint64_int64.code : Code := (Go.Proofs.Tryz.f187).body.getD .skip
noncomputable def slices_Concat_Lint64_int64.fin := finK slices_Concat_Lint64_int64.ctx slices_Concat_Lint64_int64.sig [.tmp 2]
noncomputable def slices_Concat_Lint64_int64.F (d : List (List Int) × Unit) : Option ((List Int × Unit) × (Unit)) := anyK (runFn slices_Concat_Lint64_int64.cfg slices_Concat_Lint64_int64.fin slices_Concat_Lint64_int64.code (initSt slices_Concat_Lint64_int64.sig.ps d 36))
noncomputable def slices_Concat_Lint64_int64.l3 (k : Nat) (x2 : List (List Int)) (i3 : Int) (x4 : List (List Int)) (i5 : Int) (i6 : Int) : Option ((List Int × Unit) × (Unit)) :=
  Go.Vm.runT slices_Concat_Lint64_int64.cfg slices_Concat_Lint64_int64.fin k [.inLoop (sub [1, 1, 0, 1, 0, 0] slices_Concat_Lint64_int64.code), .inBlock 0, .code (sub [1, 1, 1] slices_Concat_Lint64_int64.code)]
    ⟨[.val false [⟨(.sl (.sl (.int .i64))), .sh, x2⟩], .dead, .dead, .val false [⟨(.int .i64), .sh, i3⟩], .dead, .dead, .dead, .dead, .dead, .val false [⟨(.sl (.sl (.int .i64))), .sh, x4⟩], .val false [⟨(.int .i64), .sh, i5⟩], .val false [⟨(.int .i64), .sh, i6⟩]] ++ deads 24, []⟩
noncomputable def slices_Concat_Lint64_int64.l11 (k : Nat) (x7 : List (List Int)) (i8 : Int) (i9 : Int) (x10 : List Int) : Option ((List Int × Unit) × (Unit)) :=
  Go.Vm.runT slices_Concat_Lint64_int64.cfg slices_Concat_Lint64_int64.fin k [.inLoop (sub [1, 1, 1, 1, 0, 1, 0, 0] slices_Concat_Lint64_int64.code), .inBlock 2, .code (sub [1, 1, 1, 1, 1] slices_Concat_Lint64_int64.code)]
    ⟨[.dead, .dead, .dead, .dead, .dead, .dead, .view 24 (.root 0) 1 false, .dead, .dead, .dead, .dead, .dead, .dead, .dead, .dead, .dead, .dead, .dead, .dead, .dead, .dead, .dead, .dead, .dead, .dead, .val false [⟨(.sl (.sl (.int .i64))), .sh, x7⟩], .val false [⟨(.int .i64), .sh, i8⟩], .val false [⟨(.int .i64), .sh, i9⟩]] ++ deads 8, [(24, ⟨false, [⟨(.sl (.int .i64)), .deep, x10⟩]⟩)]⟩
theorem slices_Concat_Lint64_int64.l3_eq (k : Nat) (x2 : List (List Int)) (i3 : Int) (x4 : List (List Int)) (i5 : Int) (i6 : Int) : slices_Concat_Lint64_int64.l3 (k + 1) x2 i3 x4 i5 i6 =
  if (decide (i6 < i5)) = true then
    if 0 ≤ i6 ∧ i6 < (x4.length : Int) then
      if (decide ((IntKind.i64.wrap (i3 + ((x4.getD i6.toNat ([] : List Int)).length : Int))) < (0 : Int))) = true then
        none
      else
        slices_Concat_Lint64_int64.l3 k x2 (IntKind.i64.wrap (i3 + ((x4.getD i6.toNat ([] : List Int)).length : Int))) x4 i5 (IntKind.i64.wrap (i6 + (1 : Int)))
    else
      none
  else
    if 0 ≤ i3 ∧ i3 ≤ (bigN : Int) then
      slices_Concat_Lint64_int64.l11 k x2 (x2.length : Int) (0 : Int) ([] : List Int)
    else
      none := by kernel_rfl
theorem slices_Concat_Lint64_int64.l11_eq (k : Nat) (x7 : List (List Int)) (i8 : Int) (i9 : Int) (x10 : List Int) : slices_Concat_Lint64_int64.l11 (k + 1) x7 i8 i9 x10 =
  if (decide (i9 < i8)) = true then
    if 0 ≤ i9 ∧ i9 < (x7.length : Int) then
      if x10.length + (x7.getD i9.toNat ([] : List Int)).length ≤ bigA then
        slices_Concat_Lint64_int64.l11 k x7 i8 (IntKind.i64.wrap (i9 + (1 : Int))) (x10 ++ (x7.getD i9.toNat ([] : List Int)))
      else
        none
    else
      none
  else
    some ((x10, ()), ()) := by kernel_rfl
noncomputable def slices_Concat_Lint64_int64.T (k : Nat) (slices_1 : List (List Int)) : Option ((List Int × Unit) × (Unit)) :=
  slices_Concat_Lint64_int64.l3 k slices_1 (0 : Int) slices_1 (slices_1.length : Int) (0 : Int)
theorem slices_Concat_Lint64_int64.run (k : Nat) (slices_1 : List (List Int)) : runFn slices_Concat_Lint64_int64.cfg slices_Concat_Lint64_int64.fin slices_Concat_Lint64_int64.code (initSt slices_Concat_Lint64_int64.sig.ps (slices_1, ()) 36) k = slices_Concat_Lint64_int64.T k slices_1 := by kernel_rfl
theorem slices_Concat_Lint64_int64.of (slices_1 : List (List Int)) {r : (List Int × Unit) × (Unit)} (h : Ev (fun k => slices_Concat_Lint64_int64.T k slices_1) r) : slices_Concat_Lint64_int64.F (slices_1, ()) = some r := Ev.run (fun k => slices_Concat_Lint64_int64.run k slices_1) h
theorem slices_Concat_Lint64_int64.ok : CtxOK Go.Proofs.Tryz.prog slices_Concat_Lint64_int64.ctx := ⟨List.forall_mem_nil _, mixed_ok, tab_ok tab_good, List.forall_mem_nil _, List.forall_mem_nil _, List.forall_mem_cons.2 ⟨slices_Grow_Lint64_int64.growOK, List.forall_mem_nil _⟩⟩
theorem slices_Concat_Lint64_int64.S : Sound Go.Proofs.Tryz.prog ⟨187, slices_Concat_Lint64_int64.sig, slices_Concat_Lint64_int64.F⟩ := sound_any (fn := Go.Proofs.Tryz.f187) (code := slices_Concat_Lint64_int64.code) (g := slices_Concat_Lint64_int64.cfg) (res := [.tmp 2]) Go.Proofs.Tryz.func187 (by kernel_rfl) (by kernel_rfl) slices_Concat_Lint64_int64.ok (by kernel_rfl) (by kernel_rfl) (Nat.le_of_ble_eq_true (by kernel_rfl)) (by kernel_rfl)
/-! ### impl_facesOf -/
noncomputable def impl_facesOf.sig : Sig := ⟨[.val false (.sl (.int .i64))], [(.val false, (.sl (.sl (.int .i64))), .deep)]⟩
noncomputable def impl_facesOf.ctx : Ctx := ⟨tabOf tabl, [⟨187, slices_Concat_Lint64_int64.sig, slices_Concat_Lint64_int64.F⟩], [], [], [], []⟩
noncomputable def impl_facesOf.cfg : Cfg := ⟨impl_facesOf.ctx, [], [], fun id => match id with | 3 => ([0, 3, 6, 7], [12]) | _ => ([], []), fun _ => []⟩
noncomputable def impl_facesOf.code : Code := (Go.Proofs.Tryz.f157).body.getD .skip
noncomputable def impl_facesOf.fin := finK impl_facesOf.ctx impl_facesOf.sig [.tmp 2]
noncomputable def impl_facesOf.F (d : List Int × Unit) : Option ((List (List Int) × Unit) × (Unit)) := anyK (runFn impl_facesOf.cfg impl_facesOf.fin impl_facesOf.code (initSt impl_facesOf.sig.ps d 27))
noncomputable def impl_facesOf.l3 (k : Nat) (x2 : List Int) (i3 : Int) (i4 : Int) (x5 : List (List Int)) : Option ((List (List Int) × Unit) × (Unit)) :=
  Go.Vm.runT impl_facesOf.cfg impl_facesOf.fin k [.inLoop (sub [1, 1, 0, 1, 0, 0] impl_facesOf.code), .inBlock 0, .code (sub [1, 1, 1] impl_facesOf.code)]
    ⟨[.val false [⟨(.sl (.int .i64)), .sh, x2⟩], .dead, .dead, .view 12 (.root 0) 1 false, .dead, .dead, .val false [⟨(.int .i64), .sh, i3⟩], .val false [⟨(.int .i64), .sh, i4⟩]] ++ deads 19, [(12, ⟨false, [⟨(.sl (.sl (.int .i64))), .deep, x5⟩]⟩)]⟩
theorem impl_facesOf.l3_eq (k : Nat) (x2 : List Int) (i3 : Int) (i4 : Int) (x5 : List (List Int)) : impl_facesOf.l3 (k + 1) x2 i3 i4 x5 =
  if (decide (i4 < i3)) = true then
    if (decide ((x2.length : Int) > (1 : Int))) = true then
      if 0 ≤ (0 : Int) ∧ (0 : Int) ≤ i4 ∧ i4 ≤ (x2.length : Int) then
        if 0 ≤ (IntKind.i64.wrap (i4 + (1 : Int))) ∧ (IntKind.i64.wrap (i4 + (1 : Int))) ≤ (x2.length : Int) ∧ (x2.length : Int) ≤ (x2.length : Int) then
          (slices_Concat_Lint64_int64.F ([cutL x2 (0 : Int) i4, cutL x2 (IntKind.i64.wrap (i4 + (1 : Int))) (x2.length : Int)], ())).bind fun r6 =>
            if x5.length + ([r6.1.1] : List (List Int)).length ≤ bigA then
              impl_facesOf.l3 k x2 i3 (IntKind.i64.wrap (i4 + (1 : Int))) (x5 ++ ([r6.1.1]))
            else
              none
        else
          none
      else
        none
    else
      impl_facesOf.l3 k x2 i3 (IntKind.i64.wrap (i4 + (1 : Int))) x5
  else
    some ((x5, ()), ()) := by kernel_rfl
noncomputable def impl_facesOf.T (k : Nat) (s_1 : List Int) : Option ((List (List Int) × Unit) × (Unit)) :=
  impl_facesOf.l3 k s_1 (s_1.length : Int) (0 : Int) ([])
theorem impl_facesOf.run (k : Nat) (s_1 : List Int) : runFn impl_facesOf.cfg impl_facesOf.fin impl_facesOf.code (initSt impl_facesOf.sig.ps (s_1, ()) 27) k = impl_facesOf.T k s_1 := by kernel_rfl
theorem impl_facesOf.of (s_1 : List Int) {r : (List (List Int) × Unit) × (Unit)} (h : Ev (fun k => impl_facesOf.T k s_1) r) : impl_facesOf.F (s_1, ()) = some r := Ev.run (fun k => impl_facesOf.run k s_1) h
theorem impl_facesOf.ok : CtxOK Go.Proofs.Tryz.prog impl_facesOf.ctx := ⟨List.forall_mem_nil _, mixed_ok, tab_ok tab_good, List.forall_mem_cons.2 ⟨slices_Concat_Lint64_int64.S, List.forall_mem_nil _⟩, List.forall_mem_nil _, List.forall_mem_nil _⟩
theorem impl_facesOf.S : Sound Go.Proofs.Tryz.prog ⟨157, impl_facesOf.sig, impl_facesOf.F⟩ := sound_any (fn := Go.Proofs.Tryz.f157) (code := impl_facesOf.code) (g := impl_facesOf.cfg) (res := [.tmp 2]) Go.Proofs.Tryz.func157 (by kernel_rfl) (by kernel_rfl) impl_facesOf.ok (by kernel_rfl) (by kernel_rfl) (Nat.le_of_ble_eq_true (by kernel_rfl)) (by kernel_rfl)
/-! ### slices_BinarySearchFunc_LLint64_Lint64_Lint64 -/
noncomputable def slices_BinarySearchFunc_LLint64_Lint64_Lint64.sig : Sig := ⟨[.val false (.sl (.sl (.int .i64))), .val false (.sl (.int .i64)), .fnx ⟨[(false, (.sl (.int .i64))), (false, (.sl (.int .i64)))], [(.val false, (.int .i64), .deep)]⟩], [(.val false, (.int .i64), .deep), (.val false, .bool, .deep)]⟩
noncomputable def slices_BinarySearchFunc_LLint64_Lint64_Lint64.ctx : Ctx := ⟨tabOf tabl, [], [], [], [], []⟩
noncomputable def slices_BinarySearchFunc_LLint64_Lint64_Lint64.cfg : Cfg := ⟨slices_BinarySearchFunc_LLint64_Lint64_Lint64.ctx, [], [], fun id => match id with | 3 => ([0, 1, 2, 8, 9, 10], []) | _ => ([], []), fun _ => []⟩
noncomputable def slices_BinarySearchFunc_LLint64_Lint64_Lint64.code : Code := (Go.Proofs.Tryz.f219).body.getD .skip
noncomputable def slices_BinarySearchFunc_LLint64_Lint64_Lint64.fin := finK slices_BinarySearchFunc_LLint64_Lint64_Lint64.ctx slices_BinarySearchFunc_LLint64_Lint64_Lint64.sig [.tmp 6, .tmp 7]
noncomputable def slices_BinarySearchFunc_LLint64_Lint64_Lint64.F (d : List (List Int) × List Int × ((List Int × List Int × Unit) → Option (Int × Unit)) × Unit) : Option ((Int × Bool × Unit) × (Unit)) := anyK (runFn slices_BinarySearchFunc_LLint64_Lint64_Lint64.cfg slices_BinarySearchFunc_LLint64_Lint64_Lint64.fin slices_BinarySearchFunc_LLint64_Lint64_Lint64.code (initSt slices_BinarySearchFunc_LLint64_Lint64_Lint64.sig.ps d 49))
noncomputable def slices_BinarySearchFunc_LLint64_Lint64_Lint64.l3 (k : Nat) (x4 : List (List Int)) (x5 : List Int) (f6 : (List Int × List Int × Unit) → Option (Int × Unit)) (i7 : Int) (i8 : Int) (i9 : Int) : Option ((Int × Bool × Unit) × (Unit)) :=
  Go.Vm.runT slices_BinarySearchFunc_LLint64_Lint64_Lint64.cfg slices_BinarySearchFunc_LLint64_Lint64_Lint64.fin k [.inLoop (sub [1, 1, 1, 0, 0, 0] slices_BinarySearchFunc_LLint64_Lint64_Lint64.code), .inBlock 0, .code (sub [1, 1, 1, 1] slices_BinarySearchFunc_LLint64_Lint64_Lint64.code)]
    ⟨[.val false [⟨(.sl (.sl (.int .i64))), .sh, x4⟩], .val false [⟨(.sl (.int .i64)), .sh, x5⟩], .fnx ⟨[(false, (.sl (.int .i64))), (false, (.sl (.int .i64)))], [(.val false, (.int .i64), .deep)]⟩ f6, .dead, .dead, .dead, .dead, .dead, .val false [⟨(.int .i64), .sh, i7⟩], .val false [⟨(.int .i64), .sh, i8⟩], .val false [⟨(.int .i64), .sh, i9⟩]] ++ deads 38, []⟩
theorem slices_BinarySearchFunc_LLint64_Lint64_Lint64.l3_eq (k : Nat) (x4 : List (List Int)) (x5 : List Int) (f6 : (List Int × List Int × Unit) → Option (Int × Unit)) (i7 : Int) (i8 : Int) (i9 : Int) : slices_BinarySearchFunc_LLint64_Lint64_Lint64.l3 (k + 1) x4 x5 f6 i7 i8 i9 =
  if (decide (i8 < i9)) = true then
    if (1 : Int) < 0 then
      none
    else
      if 0 ≤ (IntKind.i64.wrap ((IntKind.u64.wrap (IntKind.i64.wrap (i8 + i9))).fdiv (2 ^ (min (1 : Int).toNat IntKind.u64.bits)))) ∧ (IntKind.i64.wrap ((IntKind.u64.wrap (IntKind.i64.wrap (i8 + i9))).fdiv (2 ^ (min (1 : Int).toNat IntKind.u64.bits)))) < (x4.length : Int) then
        (f6 (x4.getD (IntKind.i64.wrap ((IntKind.u64.wrap (IntKind.i64.wrap (i8 + i9))).fdiv (2 ^ (min (1 : Int).toNat IntKind.u64.bits)))).toNat ([] : List Int), x5, ())).bind fun r10 =>
          if (decide ((r10.1 : Int) < (0 : Int))) = true then
            slices_BinarySearchFunc_LLint64_Lint64_Lint64.l3 k x4 x5 f6 i7 (IntKind.i64.wrap ((IntKind.i64.wrap ((IntKind.u64.wrap (IntKind.i64.wrap (i8 + i9))).fdiv (2 ^ (min (1 : Int).toNat IntKind.u64.bits)))) + (1 : Int))) i9
          else
            slices_BinarySearchFunc_LLint64_Lint64_Lint64.l3 k x4 x5 f6 i7 i8 (IntKind.i64.wrap ((IntKind.u64.wrap (IntKind.i64.wrap (i8 + i9))).fdiv (2 ^ (min (1 : Int).toNat IntKind.u64.bits))))
      else
        none
  else
    if (decide (i8 < i7)) = true then
      if 0 ≤ i8 ∧ i8 < (x4.length : Int) then
        (f6 (x4.getD i8.toNat ([] : List Int), x5, ())).bind fun r11 =>
          some ((i8, ((r11.1 : Int) == (0 : Int), ())), ())
      else
        none
    else
      some ((i8, (false, ())), ()) := by kernel_rfl
noncomputable def slices_BinarySearchFunc_LLint64_Lint64_Lint64.T (k : Nat) (x_1 : List (List Int)) (target_2 : List Int) (f_3 : (List Int × List Int × Unit) → Option (Int × Unit)) : Option ((Int × Bool × Unit) × (Unit)) :=
  slices_BinarySearchFunc_LLint64_Lint64_Lint64.l3 k x_1 target_2 f_3 (x_1.length : Int) (0 : Int) (x_1.length : Int)
theorem slices_BinarySearchFunc_LLint64_Lint64_Lint64.run (k : Nat) (x_1 : List (List Int)) (target_2 : List Int) (f_3 : (List Int × List Int × Unit) → Option (Int × Unit)) : runFn slices_BinarySearchFunc_LLint64_Lint64_Lint64.cfg slices_BinarySearchFunc_LLint64_Lint64_Lint64.fin slices_BinarySearchFunc_LLint64_Lint64_Lint64.code (initSt slices_BinarySearchFunc_LLint64_Lint64_Lint64.sig.ps (x_1, target_2, f_3, ()) 49) k = slices_BinarySearchFunc_LLint64_Lint64_Lint64.T k x_1 target_2 f_3 := by kernel_rfl
theorem slices_BinarySearchFunc_LLint64_Lint64_Lint64.of (x_1 : List (List Int)) (target_2 : List Int) (f_3 : (List Int × List Int × Unit) → Option (Int × Unit)) {r : (Int × Bool × Unit) × (Unit)} (h : Ev (fun k => slices_BinarySearchFunc_LLint64_Lint64_Lint64.T k x_1 target_2 f_3) r) : slices_BinarySearchFunc_LLint64_Lint64_Lint64.F (x_1, target_2, f_3, ()) = some r := Ev.run (fun k => slices_BinarySearchFunc_LLint64_Lint64_Lint64.run k x_1 target_2 f_3) h
theorem slices_BinarySearchFunc_LLint64_Lint64_Lint64.ok : CtxOK Go.Proofs.Tryz.prog slices_BinarySearchFunc_LLint64_Lint64_Lint64.ctx := ⟨List.forall_mem_nil _, mixed_ok, tab_ok tab_good, List.forall_mem_nil _, List.forall_mem_nil _, List.forall_mem_nil _⟩
theorem slices_BinarySearchFunc_LLint64_Lint64_Lint64.S : Sound Go.Proofs.Tryz.prog ⟨219, slices_BinarySearchFunc_LLint64_Lint64_Lint64.sig, slices_BinarySearchFunc_LLint64_Lint64_Lint64.F⟩ := sound_any (fn := Go.Proofs.Tryz.f219) (code := slices_BinarySearchFunc_LLint64_Lint64_Lint64.code) (g := slices_BinarySearchFunc_LLint64_Lint64_Lint64.cfg) (res := [.tmp 6, .tmp 7]) Go.Proofs.Tryz.func219 (by kernel_rfl) (by kernel_rfl) slices_BinarySearchFunc_LLint64_Lint64_Lint64.ok (by kernel_rfl) (by kernel_rfl) (Nat.le_of_ble_eq_true (by kernel_rfl)) (by kernel_rfl)
/-! ### impl_indexOf -/
noncomputable def impl_indexOf.sig : Sig := ⟨[.val true (.sl (.sl (.int .i64))), .val false (.sl (.int .i64))], [(.val false, (.int .i64), .deep)]⟩
noncomputable def impl_indexOf.ctx : Ctx := ⟨tabOf tabl, [⟨219, slices_BinarySearchFunc_LLint64_Lint64_Lint64.sig, slices_BinarySearchFunc_LLint64_Lint64_Lint64.F⟩], [impl_compareSimplices.clo], [], [], []⟩
noncomputable def impl_indexOf.cfg : Cfg := ⟨impl_indexOf.ctx, [], [], fun _ => ([], []), fun _ => []⟩
noncomputable def impl_indexOf.code : Code := (Go.Proofs.Tryz.f159).body.getD .skip
noncomputable def impl_indexOf.fin := finK impl_indexOf.ctx impl_indexOf.sig [.tmp 4]
noncomputable def impl_indexOf.F (d : List (List Int) × List Int × Unit) : Option ((Int × Unit) × (Unit)) := anyK (runFn impl_indexOf.cfg impl_indexOf.fin impl_indexOf.code (initSt impl_indexOf.sig.ps d 17))
noncomputable def impl_indexOf.T (c_1 : List (List Int)) (s_2 : List Int) : Option ((Int × Unit) × (Unit)) :=
  (slices_BinarySearchFunc_LLint64_Lint64_Lint64.F (c_1, s_2, impl_compareSimplices.cloG (()), ())).bind fun r3 =>
    if (!(r3.1.2.1 : Bool)) = true then
      some (((-1 : Int), ()), ())
    else
      some (((r3.1.1 : Int), ()), ())
theorem impl_indexOf.run (k : Nat) (c_1 : List (List Int)) (s_2 : List Int) : runFn impl_indexOf.cfg impl_indexOf.fin impl_indexOf.code (initSt impl_indexOf.sig.ps (c_1, s_2, ()) 17) k = impl_indexOf.T c_1 s_2 := by kernel_rfl
theorem impl_indexOf.eq (c_1 : List (List Int)) (s_2 : List Int) : impl_indexOf.F (c_1, s_2, ()) = impl_indexOf.T c_1 s_2 := (congrArg anyK (funext fun k => impl_indexOf.run k c_1 s_2)).trans (anyK_const _)
theorem impl_indexOf.ok : CtxOK Go.Proofs.Tryz.prog impl_indexOf.ctx := ⟨List.forall_mem_nil _, mixed_ok, tab_ok tab_good, List.forall_mem_cons.2 ⟨slices_BinarySearchFunc_LLint64_Lint64_Lint64.S, List.forall_mem_nil _⟩, List.forall_mem_cons.2 ⟨impl_compareSimplices.cloS, List.forall_mem_nil _⟩, List.forall_mem_nil _⟩
theorem impl_indexOf.S : Sound Go.Proofs.Tryz.prog ⟨159, impl_indexOf.sig, impl_indexOf.F⟩ := sound_any (fn := Go.Proofs.Tryz.f159) (code := impl_indexOf.code) (g := impl_indexOf.cfg) (res := [.tmp 4]) Go.Proofs.Tryz.func159 (by kernel_rfl) (by kernel_rfl) impl_indexOf.ok (by kernel_rfl) (by kernel_rfl) (Nat.le_of_ble_eq_true (by kernel_rfl)) (by kernel_rfl)
/-! ### impl_ValidComplex_1 -/
noncomputable def impl_ValidComplex_1.sig : Sig := ⟨[.val false (.sl (.int .i64)), .rptr (.sl (.sl (.int .i64))), .rptr (.int .i64)], [(.val false, .bool, .deep)]⟩
noncomputable def impl_ValidComplex_1.ctx : Ctx := ⟨tabOf tabl, [⟨159, impl_indexOf.sig, impl_indexOf.F⟩], [], [], [], []⟩
noncomputable def impl_ValidComplex_1.cfg : Cfg := ⟨impl_ValidComplex_1.ctx, [], [], fun _ => ([], []), fun _ => []⟩
noncomputable def impl_ValidComplex_1.code : Code := (Go.Proofs.Tryz.f158).body.getD .skip
noncomputable def impl_ValidComplex_1.fin := finK impl_ValidComplex_1.ctx impl_ValidComplex_1.sig [.tmp 4]
noncomputable def impl_ValidComplex_1.F (d : List Int × List (List Int) × Int × Unit) : Option ((Bool × Unit) × (Unit)) := anyK (runFn impl_ValidComplex_1.cfg impl_ValidComplex_1.fin impl_ValidComplex_1.code (initSt impl_ValidComplex_1.sig.ps d 13))
noncomputable def impl_ValidComplex_1.T (f_1 : List Int) (a_2 : List (List Int)) (a_3 : Int) : Option ((Bool × Unit) × (Unit)) :=
  if 0 ≤ (0 : Int) ∧ (0 : Int) ≤ a_3 ∧ a_3 ≤ (a_2.length : Int) then
    (impl_indexOf.F (cutL a_2 (0 : Int) a_3, f_1, ())).bind fun r4 =>
      some ((decide ((r4.1.1 : Int) < (0 : Int)), ()), ())
  else
    none
theorem impl_ValidComplex_1.run (k : Nat) (f_1 : List Int) (a_2 : List (List Int)) (a_3 : Int) : runFn impl_ValidComplex_1.cfg impl_ValidComplex_1.fin impl_ValidComplex_1.code (initSt impl_ValidComplex_1.sig.ps (f_1, a_2, a_3, ()) 13) k = impl_ValidComplex_1.T f_1 a_2 a_3 := by kernel_rfl
theorem impl_ValidComplex_1.eq (f_1 : List Int) (a_2 : List (List Int)) (a_3 : Int) : impl_ValidComplex_1.F (f_1, a_2, a_3, ()) = impl_ValidComplex_1.T f_1 a_2 a_3 := (congrArg anyK (funext fun k => impl_ValidComplex_1.run k f_1 a_2 a_3)).trans (anyK_const _)
theorem impl_ValidComplex_1.ok : CtxOK Go.Proofs.Tryz.prog impl_ValidComplex_1.ctx := ⟨List.forall_mem_nil _, mixed_ok, tab_ok tab_good, List.forall_mem_cons.2 ⟨impl_indexOf.S, List.forall_mem_nil _⟩, List.forall_mem_nil _, List.forall_mem_nil _⟩
theorem impl_ValidComplex_1.S : Sound Go.Proofs.Tryz.prog ⟨158, impl_ValidComplex_1.sig, impl_ValidComplex_1.F⟩ := sound_any (fn := Go.Proofs.Tryz.f158) (code := impl_ValidComplex_1.code) (g := impl_ValidComplex_1.cfg) (res := [.tmp 4]) Go.Proofs.Tryz.func158 (by kernel_rfl) (by kernel_rfl) impl_ValidComplex_1.ok (by kernel_rfl) (by kernel_rfl) (Nat.le_of_ble_eq_true (by kernel_rfl)) (by kernel_rfl)
noncomputable def impl_ValidComplex_1.cloG (y : List (List Int) × Int × Unit) (d : List Int × Unit) : Option (Bool × Unit) := (impl_ValidComplex_1.F (joinIns [.rptr (.sl (.sl (.int .i64))), .rptr (.int .i64)] [(false, (.sl (.int .i64)))] d y)).map (·.1)
noncomputable def impl_ValidComplex_1.clo : Clo := ⟨158, ⟨[(false, (.sl (.int .i64)))], [(.val false, .bool, .deep)]⟩, [.rptr (.sl (.sl (.int .i64))), .rptr (.int .i64)], impl_ValidComplex_1.cloG⟩
theorem impl_ValidComplex_1.cloS : SoundClo Go.Proofs.Tryz.prog impl_ValidComplex_1.clo := sound_clo (s := ⟨[(false, (.sl (.int .i64)))], [(.val false, .bool, .deep)]⟩) (caps := [.rptr (.sl (.sl (.int .i64))), .rptr (.int .i64)]) rfl impl_ValidComplex_1.S
/-! ### impl_ValidComplex -/
noncomputable def impl_ValidComplex.sig : Sig := ⟨[.val true (.sl (.sl (.int .i64)))], [(.val false, .bool, .deep)]⟩
noncomputable def impl_ValidComplex.ctx : Ctx := ⟨tabOf tabl, [⟨154, impl_ValidSimplex.sig, impl_ValidSimplex.F⟩, ⟨155, impl_compareSimplices.sig, impl_compareSimplices.F⟩, ⟨156, slices_ContainsFunc_LLint64_Lint64.sig, slices_ContainsFunc_LLint64_Lint64.F⟩, ⟨157, impl_facesOf.sig, impl_facesOf.F⟩], [impl_ValidComplex_1.clo], [], [], []⟩
noncomputable def impl_ValidComplex.cfg : Cfg := ⟨impl_ValidComplex.ctx, [], [], fun id => match id with | 2 => ([1, 6, 7, 8], [4]) | _ => ([], []), fun _ => []⟩
noncomputable def impl_ValidComplex.code : Code := (Go.Proofs.Tryz.f84).body.getD .skip
noncomputable def impl_ValidComplex.fin := finK impl_ValidComplex.ctx impl_ValidComplex.sig [.tmp 2]
noncomputable def impl_ValidComplex.F (d : List (List Int) × Unit) : Option ((Bool × Unit) × (Unit)) := anyK (runFn impl_ValidComplex.cfg impl_ValidComplex.fin impl_ValidComplex.code (initSt impl_ValidComplex.sig.ps d 40))
noncomputable def impl_ValidComplex.l2 (k : Nat) (x2 : List (List Int)) (i3 : Int) (i4 : Int) (x5 : List (List Int)) : Option ((Bool × Unit) × (Unit)) :=
  Go.Vm.runT impl_ValidComplex.cfg impl_ValidComplex.fin k [.inLoop (sub [1, 0, 1, 0, 0] impl_ValidComplex.code), .inBlock 0, .code (sub [1, 1] impl_ValidComplex.code)]
    ⟨[.dead, .ref 4 (.root 0), .dead, .dead, .dead, .dead, .val false [⟨(.sl (.sl (.int .i64))), .sh, x2⟩], .val false [⟨(.int .i64), .sh, i3⟩], .val false [⟨(.int .i64), .sh, i4⟩]] ++ deads 31, [(4, ⟨true, [⟨(.sl (.sl (.int .i64))), .sh, x5⟩]⟩)]⟩
theorem impl_ValidComplex.l2_eq (k : Nat) (x2 : List (List Int)) (i3 : Int) (i4 : Int) (x5 : List (List Int)) : impl_ValidComplex.l2 (k + 1) x2 i3 i4 x5 =
  if (decide (i4 < i3)) = true then
    if 0 ≤ i4 ∧ i4 < (x2.length : Int) then
      (impl_ValidSimplex.F (x2.getD i4.toNat ([] : List Int), ())).bind fun r6 =>
        if (!(r6.1.1 : Bool)) = true then
          some ((false, ()), ())
        else
          if (decide (i4 > (0 : Int))) = true then
            if 0 ≤ (IntKind.i64.wrap (i4 - (1 : Int))) ∧ (IntKind.i64.wrap (i4 - (1 : Int))) < (x5.length : Int) then
              (impl_compareSimplices.F (x5.getD (IntKind.i64.wrap (i4 - (1 : Int))).toNat ([] : List Int), x2.getD i4.toNat ([] : List Int), ())).bind fun r7 =>
                if (decide ((r7.1.1 : Int) ≥ (0 : Int))) = true then
                  some ((false, ()), ())
                else
                  (impl_facesOf.F (x2.getD i4.toNat ([] : List Int), ())).bind fun r8 =>
                    (slices_ContainsFunc_LLint64_Lint64.F (r8.1.1, impl_ValidComplex_1.cloG (x5, i4, ()), ())).bind fun r9 =>
                      if (r9.1.1 : Bool) = true then
                        some ((false, ()), ())
                      else
                        impl_ValidComplex.l2 k x2 i3 (IntKind.i64.wrap (i4 + (1 : Int))) x5
            else
              none
          else
            (impl_facesOf.F (x2.getD i4.toNat ([] : List Int), ())).bind fun r10 =>
              (slices_ContainsFunc_LLint64_Lint64.F (r10.1.1, impl_ValidComplex_1.cloG (x5, i4, ()), ())).bind fun r11 =>
                if (r11.1.1 : Bool) = true then
                  some ((false, ()), ())
                else
                  impl_ValidComplex.l2 k x2 i3 (IntKind.i64.wrap (i4 + (1 : Int))) x5
    else
      none
  else
    some ((decide ((x5.length : Int) ≤ (48 : Int)), ()), ()) := by kernel_rfl
noncomputable def impl_ValidComplex.T (k : Nat) (c_1 : List (List Int)) : Option ((Bool × Unit) × (Unit)) :=
  impl_ValidComplex.l2 k c_1 (c_1.length : Int) (0 : Int) c_1
theorem impl_ValidComplex.run (k : Nat) (c_1 : List (List Int)) : runFn impl_ValidComplex.cfg impl_ValidComplex.fin impl_ValidComplex.code (initSt impl_ValidComplex.sig.ps (c_1, ()) 40) k = impl_ValidComplex.T k c_1 := by kernel_rfl
theorem impl_ValidComplex.of (c_1 : List (List Int)) {r : (Bool × Unit) × (Unit)} (h : Ev (fun k => impl_ValidComplex.T k c_1) r) : impl_ValidComplex.F (c_1, ()) = some r := Ev.run (fun k => impl_ValidComplex.run k c_1) h
theorem impl_ValidComplex.ok : CtxOK Go.Proofs.Tryz.prog impl_ValidComplex.ctx := ⟨List.forall_mem_nil _, mixed_ok, tab_ok tab_good, List.forall_mem_cons.2 ⟨impl_ValidSimplex.S, List.forall_mem_cons.2 ⟨impl_compareSimplices.S, List.forall_mem_cons.2 ⟨slices_ContainsFunc_LLint64_Lint64.S, List.forall_mem_cons.2 ⟨impl_facesOf.S, List.forall_mem_nil _⟩⟩⟩⟩, List.forall_mem_cons.2 ⟨impl_ValidComplex_1.cloS, List.forall_mem_nil _⟩, List.forall_mem_nil _⟩
theorem impl_ValidComplex.S : Sound Go.Proofs.Tryz.prog ⟨84, impl_ValidComplex.sig, impl_ValidComplex.F⟩ := sound_any (fn := Go.Proofs.Tryz.f84) (code := impl_ValidComplex.code) (g := impl_ValidComplex.cfg) (res := [.tmp 2]) Go.Proofs.Tryz.func84 (by kernel_rfl) (by kernel_rfl) impl_ValidComplex.ok (by kernel_rfl) (by kernel_rfl) (Nat.le_of_ble_eq_true (by kernel_rfl)) (by kernel_rfl)
/-! ### impl_size_Lint64 -/
noncomputable def impl_size_Lint64.sig : Sig := ⟨[.val false (.sl (.sl (.int .i64)))], [(.val false, (.int .i64), .deep)]⟩
noncomputable def impl_size_Lint64.ctx : Ctx := ⟨tabOf tabl, [], [], [], [], []⟩
noncomputable def impl_size_Lint64.cfg : Cfg := ⟨impl_size_Lint64.ctx, [], [], fun _ => ([], []), fun _ => []⟩
noncomputable def impl_size_Lint64.code : Code := (Go.Proofs.Tryz.f183).body.getD .skip
noncomputable def impl_size_Lint64.fin := finK impl_size_Lint64.ctx impl_size_Lint64.sig [.tmp 2]
noncomputable def impl_size_Lint64.F (d : List (List Int) × Unit) : Option ((Int × Unit) × (Unit)) := anyK (runFn impl_size_Lint64.cfg impl_size_Lint64.fin impl_size_Lint64.code (initSt impl_size_Lint64.sig.ps d 5))
noncomputable def impl_size_Lint64.T (list_1 : List (List Int)) : Option ((Int × Unit) × (Unit)) :=
  some (((list_1.length : Int), ()), ())
theorem impl_size_Lint64.run (k : Nat) (list_1 : List (List Int)) : runFn impl_size_Lint64.cfg impl_size_Lint64.fin impl_size_Lint64.code (initSt impl_size_Lint64.sig.ps (list_1, ()) 5) k = impl_size_Lint64.T list_1 := by kernel_rfl
theorem impl_size_Lint64.eq (list_1 : List (List Int)) : impl_size_Lint64.F (list_1, ()) = impl_size_Lint64.T list_1 := (congrArg anyK (funext fun k => impl_size_Lint64.run k list_1)).trans (anyK_const _)
theorem impl_size_Lint64.ok : CtxOK Go.Proofs.Tryz.prog impl_size_Lint64.ctx := ⟨List.forall_mem_nil _, mixed_ok, tab_ok tab_good, List.forall_mem_nil _, List.forall_mem_nil _, List.forall_mem_nil _⟩
theorem impl_size_Lint64.S : Sound Go.Proofs.Tryz.prog ⟨183, impl_size_Lint64.sig, impl_size_Lint64.F⟩ := sound_any (fn := Go.Proofs.Tryz.f183) (code := impl_size_Lint64.code) (g := impl_size_Lint64.cfg) (res := [.tmp 2]) Go.Proofs.Tryz.func183 (by kernel_rfl) (by kernel_rfl) impl_size_Lint64.ok (by kernel_rfl) (by kernel_rfl) (Nat.le_of_ble_eq_true (by kernel_rfl)) (by kernel_rfl)
/-! ### impl_faceIndices -/
noncomputable def impl_faceIndices.sig : Sig := ⟨[.val true (.sl (.sl (.int .i64))), .val false (.int .i64)], [(.val false, (.sl (.int .i64)), .deep)]⟩
noncomputable def impl_faceIndices.ctx : Ctx := ⟨tabOf tabl, [⟨157, impl_facesOf.sig, impl_facesOf.F⟩, ⟨159, impl_indexOf.sig, impl_indexOf.F⟩], [], [], [], []⟩
noncomputable def impl_faceIndices.cfg : Cfg := ⟨impl_faceIndices.ctx, [], [], fun id => match id with | 3 => ([2, 5, 13, 14, 15], [8, 20, 52]) | _ => ([], []), fun _ => []⟩
noncomputable def impl_faceIndices.code : Code := (Go.Proofs.Tryz.f184).body.getD .skip
noncomputable def impl_faceIndices.fin := finK impl_faceIndices.ctx impl_faceIndices.sig [.tmp 4]
noncomputable def impl_faceIndices.F (d : List (List Int) × Int × Unit) : Option ((List Int × Unit) × (Unit)) := anyK (runFn impl_faceIndices.cfg impl_faceIndices.fin impl_faceIndices.code (initSt impl_faceIndices.sig.ps d 27))
noncomputable def impl_faceIndices.l3 (k : Nat) (i4 : Int) (i5 : Int) (x6 : List (List Int)) (x7 : List Int) (x8 : List (List Int)) : Option ((List Int × Unit) × (Unit)) :=
  Go.Vm.runT impl_faceIndices.cfg impl_faceIndices.fin k [.inLoop (sub [1, 1, 0, 1, 0, 0] impl_faceIndices.code), .inBlock 0, .code (sub [1, 1, 1] impl_faceIndices.code)]
    ⟨[.dead, .dead, .ref 8 (.root 0), .dead, .dead, .view 20 (.root 0) 1 false, .dead, .dead, .dead, .dead, .dead, .dead, .dead, .view 52 (.root 0) 1 false, .val false [⟨(.int .i64), .sh, i4⟩], .val false [⟨(.int .i64), .sh, i5⟩]] ++ deads 11, [(8, ⟨true, [⟨(.sl (.sl (.int .i64))), .sh, x6⟩]⟩), (20, ⟨false, [⟨(.sl (.int .i64)), .deep, x7⟩]⟩), (52, ⟨false, [⟨(.sl (.sl (.int .i64))), .deep, x8⟩]⟩)]⟩
theorem impl_faceIndices.l3_eq (k : Nat) (i4 : Int) (i5 : Int) (x6 : List (List Int)) (x7 : List Int) (x8 : List (List Int)) : impl_faceIndices.l3 (k + 1) i4 i5 x6 x7 x8 =
  if (decide (i5 < i4)) = true then
    if 0 ≤ i5 ∧ i5 < (x8.length : Int) then
      (impl_indexOf.F (x6, x8.getD i5.toNat ([] : List Int), ())).bind fun r9 =>
        if x7.length + ([(r9.1.1 : Int)] : List Int).length ≤ bigA then
          impl_faceIndices.l3 k i4 (IntKind.i64.wrap (i5 + (1 : Int))) x6 (x7 ++ ([(r9.1.1 : Int)])) x8
        else
          none
    else
      none
  else
    some ((x7, ()), ()) := by kernel_rfl
noncomputable def impl_faceIndices.T (k : Nat) (c_1 : List (List Int)) (k_2 : Int) : Option ((List Int × Unit) × (Unit)) :=
  if 0 ≤ k_2 ∧ k_2 < (c_1.length : Int) then
    (impl_facesOf.F (c_1.getD k_2.toNat ([] : List Int), ())).bind fun r3 =>
      impl_faceIndices.l3 k (r3.1.1.length : Int) (0 : Int) c_1 ([]) r3.1.1
  else
    none
theorem impl_faceIndices.run (k : Nat) (c_1 : List (List Int)) (k_2 : Int) : runFn impl_faceIndices.cfg impl_faceIndices.fin impl_faceIndices.code (initSt impl_faceIndices.sig.ps (c_1, k_2, ()) 27) k = impl_faceIndices.T k c_1 k_2 := by kernel_rfl
theorem impl_faceIndices.of (c_1 : List (List Int)) (k_2 : Int) {r : (List Int × Unit) × (Unit)} (h : Ev (fun k => impl_faceIndices.T k c_1 k_2) r) : impl_faceIndices.F (c_1, k_2, ()) = some r := Ev.run (fun k => impl_faceIndices.run k c_1 k_2) h
theorem impl_faceIndices.ok : CtxOK Go.Proofs.Tryz.prog impl_faceIndices.ctx := ⟨List.forall_mem_nil _, mixed_ok, tab_ok tab_good, List.forall_mem_cons.2 ⟨impl_facesOf.S, List.forall_mem_cons.2 ⟨impl_indexOf.S, List.forall_mem_nil _⟩⟩, List.forall_mem_nil _, List.forall_mem_nil _⟩
theorem impl_faceIndices.S : Sound Go.Proofs.Tryz.prog ⟨184, impl_faceIndices.sig, impl_faceIndices.F⟩ := sound_any (fn := Go.Proofs.Tryz.f184) (code := impl_faceIndices.code) (g := impl_faceIndices.cfg) (res := [.tmp 4]) Go.Proofs.Tryz.func184 (by kernel_rfl) (by kernel_rfl) impl_faceIndices.ok (by kernel_rfl) (by kernel_rfl) (Nat.le_of_ble_eq_true (by kernel_rfl)) (by kernel_rfl)
/-! ### impl_arrows -/
noncomputable def impl_arrows.sig : Sig := ⟨[.val true (.sl (.sl (.int .i64)))], [(.val false, (.sl TEdge), .deep)]⟩
noncomputable def impl_arrows.ctx : Ctx := ⟨tabOf tabl, [⟨183, impl_size_Lint64.sig, impl_size_Lint64.F⟩, ⟨184, impl_faceIndices.sig, impl_faceIndices.F⟩], [], [], [], []⟩
noncomputable def impl_arrows.cfg : Cfg := ⟨impl_arrows.ctx, [], [], fun id => match id with | 3 => ([1, 3, 9, 10], [4, 12]) | 6 => ([1, 3, 4, 9, 10, 15, 16, 17], [4, 12, 60]) | _ => ([], []), fun _ => []⟩
noncomputable def impl_arrows.code : Code := (Go.Proofs.Tryz.f109).body.getD .skip
noncomputable def impl_arrows.fin := finK impl_arrows.ctx impl_arrows.sig [.tmp 2]
noncomputable def impl_arrows.F (d : List (List Int) × Unit) : Option ((List (Int × Int × Int) × Unit) × (Unit)) := anyK (runFn impl_arrows.cfg impl_arrows.fin impl_arrows.code (initSt impl_arrows.sig.ps d 32))
noncomputable def impl_arrows.l3 (k : Nat) (i3 : Int) (i4 : Int) (x5 : List (List Int)) (x6 : List (Int × Int × Int)) : Option ((List (Int × Int × Int) × Unit) × (Unit)) :=
  Go.Vm.runT impl_arrows.cfg impl_arrows.fin k [.inLoop (sub [1, 1, 0, 1, 0, 0] impl_arrows.code), .inBlock 0, .code (sub [1, 1, 1] impl_arrows.code)]
    ⟨[.dead, .ref 4 (.root 0), .dead, .view 12 (.root 0) 1 false, .dead, .dead, .dead, .dead, .dead, .val false [⟨(.int .i64), .sh, i3⟩], .val false [⟨(.int .i64), .sh, i4⟩]] ++ deads 21, [(4, ⟨true, [⟨(.sl (.sl (.int .i64))), .sh, x5⟩]⟩), (12, ⟨false, [⟨(.sl TEdge), .deep, x6⟩]⟩)]⟩
noncomputable def impl_arrows.l6 (k : Nat) (i8 : Int) (i9 : Int) (i10 : Int) (i11 : Int) (i12 : Int) (x13 : List (List Int)) (x14 : List (Int × Int × Int)) (x15 : List Int) : Option ((List (Int × Int × Int) × Unit) × (Unit)) :=
  Go.Vm.runT impl_arrows.cfg impl_arrows.fin k [.inLoop (sub [1, 1, 0, 1, 0, 0, 1, 1, 0, 0, 1, 1, 0, 0] impl_arrows.code), .inBlock 2, .inBlock 1, .code (sub [1, 1, 0, 1, 0, 0, 1, 1, 1] impl_arrows.code), .inLoop (sub [1, 1, 0, 1, 0, 0] impl_arrows.code), .inBlock 0, .code (sub [1, 1, 1] impl_arrows.code)]
    ⟨[.dead, .ref 4 (.root 0), .dead, .view 12 (.root 0) 1 false, .val false [⟨(.int .i64), .sh, i8⟩], .dead, .dead, .dead, .dead, .val false [⟨(.int .i64), .sh, i9⟩], .val false [⟨(.int .i64), .sh, i10⟩], .dead, .dead, .dead, .dead, .view 60 (.root 0) 1 false, .val false [⟨(.int .i64), .sh, i11⟩], .val false [⟨(.int .i64), .sh, i12⟩]] ++ deads 14, [(4, ⟨true, [⟨(.sl (.sl (.int .i64))), .sh, x13⟩]⟩), (12, ⟨false, [⟨(.sl TEdge), .deep, x14⟩]⟩), (60, ⟨false, [⟨(.sl (.int .i64)), .deep, x15⟩]⟩)]⟩
theorem impl_arrows.l3_eq (k : Nat) (i3 : Int) (i4 : Int) (x5 : List (List Int)) (x6 : List (Int × Int × Int)) : impl_arrows.l3 (k + 1) i3 i4 x5 x6 =
  if (decide (i4 < i3)) = true then
    (impl_faceIndices.F (x5, i4, ())).bind fun r7 =>
      impl_arrows.l6 k i4 i3 i4 (r7.1.1.length : Int) (0 : Int) x5 x6 r7.1.1
  else
    some ((x6, ()), ()) := by kernel_rfl
theorem impl_arrows.l6_eq (k : Nat) (i8 : Int) (i9 : Int) (i10 : Int) (i11 : Int) (i12 : Int) (x13 : List (List Int)) (x14 : List (Int × Int × Int)) (x15 : List Int) : impl_arrows.l6 (k + 1) i8 i9 i10 i11 i12 x13 x14 x15 =
  if (decide (i12 < i11)) = true then
    if 0 ≤ i12 ∧ i12 < (x15.length : Int) then
      if x14.length + ([(i8, (i12, (x15.getD i12.toNat 0 : Int)))] : List (Int × Int × Int)).length ≤ bigA then
        impl_arrows.l6 k i8 i9 i10 i11 (IntKind.i64.wrap (i12 + (1 : Int))) x13 (x14 ++ ([(i8, (i12, (x15.getD i12.toNat 0 : Int)))])) x15
      else
        none
    else
      none
  else
    impl_arrows.l3 k i9 (IntKind.i64.wrap (i10 + (1 : Int))) x13 x14 := by kernel_rfl
noncomputable def impl_arrows.T (k : Nat) (c_1 : List (List Int)) : Option ((List (Int × Int × Int) × Unit) × (Unit)) :=
  (impl_size_Lint64.F (c_1, ())).bind fun r2 =>
    impl_arrows.l3 k (r2.1.1 : Int) (0 : Int) c_1 ([])
theorem impl_arrows.run (k : Nat) (c_1 : List (List Int)) : runFn impl_arrows.cfg impl_arrows.fin impl_arrows.code (initSt impl_arrows.sig.ps (c_1, ()) 32) k = impl_arrows.T k c_1 := by kernel_rfl
theorem impl_arrows.of (c_1 : List (List Int)) {r : (List (Int × Int × Int) × Unit) × (Unit)} (h : Ev (fun k => impl_arrows.T k c_1) r) : impl_arrows.F (c_1, ()) = some r := Ev.run (fun k => impl_arrows.run k c_1) h
theorem impl_arrows.ok : CtxOK Go.Proofs.Tryz.prog impl_arrows.ctx := ⟨List.forall_mem_nil _, mixed_ok, tab_ok tab_good, List.forall_mem_cons.2 ⟨impl_size_Lint64.S, List.forall_mem_cons.2 ⟨impl_faceIndices.S, List.forall_mem_nil _⟩⟩, List.forall_mem_nil _, List.forall_mem_nil _⟩
theorem impl_arrows.S : Sound Go.Proofs.Tryz.prog ⟨109, impl_arrows.sig, impl_arrows.F⟩ := sound_any (fn := Go.Proofs.Tryz.f109) (code := impl_arrows.code) (g := impl_arrows.cfg) (res := [.tmp 2]) Go.Proofs.Tryz.func109 (by kernel_rfl) (by kernel_rfl) impl_arrows.ok (by kernel_rfl) (by kernel_rfl) (Nat.le_of_ble_eq_true (by kernel_rfl)) (by kernel_rfl)
/-! ### impl_size_int64 -/
noncomputable def impl_size_int64.sig : Sig := ⟨[.val false (.sl (.int .i64))], [(.val false, (.int .i64), .deep)]⟩
noncomputable def impl_size_int64.ctx : Ctx := ⟨tabOf tabl, [], [], [], [], []⟩
noncomputable def impl_size_int64.cfg : Cfg := ⟨impl_size_int64.ctx, [], [], fun _ => ([], []), fun _ => []⟩
noncomputable def impl_size_int64.code : Code := (Go.Proofs.Tryz.f161).body.getD .skip
noncomputable def impl_size_int64.fin := finK impl_size_int64.ctx impl_size_int64.sig [.tmp 2]
noncomputable def impl_size_int64.F (d : List Int × Unit) : Option ((Int × Unit) × (Unit)) := anyK (runFn impl_size_int64.cfg impl_size_int64.fin impl_size_int64.code (initSt impl_size_int64.sig.ps d 5))
noncomputable def impl_size_int64.T (list_1 : List Int) : Option ((Int × Unit) × (Unit)) :=
  some (((list_1.length : Int), ()), ())
theorem impl_size_int64.run (k : Nat) (list_1 : List Int) : runFn impl_size_int64.cfg impl_size_int64.fin impl_size_int64.code (initSt impl_size_int64.sig.ps (list_1, ()) 5) k = impl_size_int64.T list_1 := by kernel_rfl
theorem impl_size_int64.eq (list_1 : List Int) : impl_size_int64.F (list_1, ()) = impl_size_int64.T list_1 := (congrArg anyK (funext fun k => impl_size_int64.run k list_1)).trans (anyK_const _)
theorem impl_size_int64.ok : CtxOK Go.Proofs.Tryz.prog impl_size_int64.ctx := ⟨List.forall_mem_nil _, mixed_ok, tab_ok tab_good, List.forall_mem_nil _, List.forall_mem_nil _, List.forall_mem_nil _⟩
theorem impl_size_int64.S : Sound Go.Proofs.Tryz.prog ⟨161, impl_size_int64.sig, impl_size_int64.F⟩ := sound_any (fn := Go.Proofs.Tryz.f161) (code := impl_size_int64.code) (g := impl_size_int64.cfg) (res := [.tmp 2]) Go.Proofs.Tryz.func161 (by kernel_rfl) (by kernel_rfl) impl_size_int64.ok (by kernel_rfl) (by kernel_rfl) (Nat.le_of_ble_eq_true (by kernel_rfl)) (by kernel_rfl)
/-! ### impl_isElement -/
noncomputable def impl_isElement.sig : Sig := ⟨[.val false (.int .i64), .val false (.int .i64)], [(.val false, .bool, .deep)]⟩
noncomputable def impl_isElement.ctx : Ctx := ⟨tabOf tabl, [⟨160, impl_within.sig, impl_within.F⟩], [], [], [], []⟩
noncomputable def impl_isElement.cfg : Cfg := ⟨impl_isElement.ctx, [], [], fun _ => ([], []), fun _ => []⟩
noncomputable def impl_isElement.code : Code := (Go.Proofs.Tryz.f221).body.getD .skip
noncomputable def impl_isElement.fin := finK impl_isElement.ctx impl_isElement.sig [.tmp 4]
noncomputable def impl_isElement.F (d : Int × Int × Unit) : Option ((Bool × Unit) × (Unit)) := anyK (runFn impl_isElement.cfg impl_isElement.fin impl_isElement.code (initSt impl_isElement.sig.ps d 9))
noncomputable def impl_isElement.T (a_1 : Int) (p_2 : Int) : Option ((Bool × Unit) × (Unit)) :=
  (impl_within.F (a_1, (0 : Int), IntKind.i64.wrap (p_2 - (1 : Int)), ())).bind fun r3 =>
    some (((r3.1.1 : Bool), ()), ())
theorem impl_isElement.run (k : Nat) (a_1 : Int) (p_2 : Int) : runFn impl_isElement.cfg impl_isElement.fin impl_isElement.code (initSt impl_isElement.sig.ps (a_1, p_2, ()) 9) k = impl_isElement.T a_1 p_2 := by kernel_rfl
theorem impl_isElement.eq (a_1 : Int) (p_2 : Int) : impl_isElement.F (a_1, p_2, ()) = impl_isElement.T a_1 p_2 := (congrArg anyK (funext fun k => impl_isElement.run k a_1 p_2)).trans (anyK_const _)
theorem impl_isElement.ok : CtxOK Go.Proofs.Tryz.prog impl_isElement.ctx := ⟨List.forall_mem_nil _, mixed_ok, tab_ok tab_good, List.forall_mem_cons.2 ⟨impl_within.S, List.forall_mem_nil _⟩, List.forall_mem_nil _, List.forall_mem_nil _⟩
theorem impl_isElement.S : Sound Go.Proofs.Tryz.prog ⟨221, impl_isElement.sig, impl_isElement.F⟩ := sound_any (fn := Go.Proofs.Tryz.f221) (code := impl_isElement.code) (g := impl_isElement.cfg) (res := [.tmp 4]) Go.Proofs.Tryz.func221 (by kernel_rfl) (by kernel_rfl) impl_isElement.ok (by kernel_rfl) (by kernel_rfl) (Nat.le_of_ble_eq_true (by kernel_rfl)) (by kernel_rfl)
/-! ### impl_areElements_1 -/
noncomputable def impl_areElements_1.sig : Sig := ⟨[.val false (.int .i64), .rptr (.int .i64)], [(.val false, .bool, .deep)]⟩
noncomputable def impl_areElements_1.ctx : Ctx := ⟨tabOf tabl, [⟨221, impl_isElement.sig, impl_isElement.F⟩], [], [], [], []⟩
noncomputable def impl_areElements_1.cfg : Cfg := ⟨impl_areElements_1.ctx, [], [], fun _ => ([], []), fun _ => []⟩
noncomputable def impl_areElements_1.code : Code := (Go.Proofs.Tryz.f220).body.getD .skip
noncomputable def impl_areElements_1.fin := finK impl_areElements_1.ctx impl_areElements_1.sig [.tmp 3]
noncomputable def impl_areElements_1.F (d : Int × Int × Unit) : Option ((Bool × Unit) × (Unit)) := anyK (runFn impl_areElements_1.cfg impl_areElements_1.fin impl_areElements_1.code (initSt impl_areElements_1.sig.ps d 8))
noncomputable def impl_areElements_1.T (a_1 : Int) (a_2 : Int) : Option ((Bool × Unit) × (Unit)) :=
  (impl_isElement.F (a_1, a_2, ())).bind fun r3 =>
    some ((!(r3.1.1 : Bool), ()), ())
theorem impl_areElements_1.run (k : Nat) (a_1 : Int) (a_2 : Int) : runFn impl_areElements_1.cfg impl_areElements_1.fin impl_areElements_1.code (initSt impl_areElements_1.sig.ps (a_1, a_2, ()) 8) k = impl_areElements_1.T a_1 a_2 := by kernel_rfl
theorem impl_areElements_1.eq (a_1 : Int) (a_2 : Int) : impl_areElements_1.F (a_1, a_2, ()) = impl_areElements_1.T a_1 a_2 := (congrArg anyK (funext fun k => impl_areElements_1.run k a_1 a_2)).trans (anyK_const _)
theorem impl_areElements_1.ok : CtxOK Go.Proofs.Tryz.prog impl_areElements_1.ctx := ⟨List.forall_mem_nil _, mixed_ok, tab_ok tab_good, List.forall_mem_cons.2 ⟨impl_isElement.S, List.forall_mem_nil _⟩, List.forall_mem_nil _, List.forall_mem_nil _⟩
theorem impl_areElements_1.S : Sound Go.Proofs.Tryz.prog ⟨220, impl_areElements_1.sig, impl_areElements_1.F⟩ := sound_any (fn := Go.Proofs.Tryz.f220) (code := impl_areElements_1.code) (g := impl_areElements_1.cfg) (res := [.tmp 3]) Go.Proofs.Tryz.func220 (by kernel_rfl) (by kernel_rfl) impl_areElements_1.ok (by kernel_rfl) (by kernel_rfl) (Nat.le_of_ble_eq_true (by kernel_rfl)) (by kernel_rfl)
noncomputable def impl_areElements_1.cloG (y : Int × Unit) (d : Int × Unit) : Option (Bool × Unit) := (impl_areElements_1.F (joinIns [.rptr (.int .i64)] [(false, (.int .i64))] d y)).map (·.1)
noncomputable def impl_areElements_1.clo : Clo := ⟨220, ⟨[(false, (.int .i64))], [(.val false, .bool, .deep)]⟩, [.rptr (.int .i64)], impl_areElements_1.cloG⟩
theorem impl_areElements_1.cloS : SoundClo Go.Proofs.Tryz.prog impl_areElements_1.clo := sound_clo (s := ⟨[(false, (.int .i64))], [(.val false, .bool, .deep)]⟩) (caps := [.rptr (.int .i64)]) rfl impl_areElements_1.S
/-! ### impl_areElements -/
noncomputable def impl_areElements.sig : Sig := ⟨[.val false (.sl (.int .i64)), .val false (.int .i64)], [(.val false, .bool, .deep)]⟩
noncomputable def impl_areElements.ctx : Ctx := ⟨tabOf tabl, [⟨212, slices_ContainsFunc_Lint64_int64.sig, slices_ContainsFunc_Lint64_int64.F⟩], [impl_areElements_1.clo], [], [], []⟩
noncomputable def impl_areElements.cfg : Cfg := ⟨impl_areElements.ctx, [], [], fun _ => ([], []), fun _ => []⟩
noncomputable def impl_areElements.code : Code := (Go.Proofs.Tryz.f162).body.getD .skip
noncomputable def impl_areElements.fin := finK impl_areElements.ctx impl_areElements.sig [.tmp 4]
noncomputable def impl_areElements.F (d : List Int × Int × Unit) : Option ((Bool × Unit) × (Unit)) := anyK (runFn impl_areElements.cfg impl_areElements.fin impl_areElements.code (initSt impl_areElements.sig.ps d 9))
noncomputable def impl_areElements.T (list_1 : List Int) (p_2 : Int) : Option ((Bool × Unit) × (Unit)) :=
  (slices_ContainsFunc_Lint64_int64.F (list_1, impl_areElements_1.cloG (p_2, ()), ())).bind fun r3 =>
    some ((!(r3.1.1 : Bool), ()), ())
theorem impl_areElements.run (k : Nat) (list_1 : List Int) (p_2 : Int) : runFn impl_areElements.cfg impl_areElements.fin impl_areElements.code (initSt impl_areElements.sig.ps (list_1, p_2, ()) 9) k = impl_areElements.T list_1 p_2 := by kernel_rfl
theorem impl_areElements.eq (list_1 : List Int) (p_2 : Int) : impl_areElements.F (list_1, p_2, ()) = impl_areElements.T list_1 p_2 := (congrArg anyK (funext fun k => impl_areElements.run k list_1 p_2)).trans (anyK_const _)
theorem impl_areElements.ok : CtxOK Go.Proofs.Tryz.prog impl_areElements.ctx := ⟨List.forall_mem_nil _, mixed_ok, tab_ok tab_good, List.forall_mem_cons.2 ⟨slices_ContainsFunc_Lint64_int64.S, List.forall_mem_nil _⟩, List.forall_mem_cons.2 ⟨impl_areElements_1.cloS, List.forall_mem_nil _⟩, List.forall_mem_nil _⟩
theorem impl_areElements.S : Sound Go.Proofs.Tryz.prog ⟨162, impl_areElements.sig, impl_areElements.F⟩ := sound_any (fn := Go.Proofs.Tryz.f162) (code := impl_areElements.code) (g := impl_areElements.cfg) (res := [.tmp 4]) Go.Proofs.Tryz.func162 (by kernel_rfl) (by kernel_rfl) impl_areElements.ok (by kernel_rfl) (by kernel_rfl) (Nat.le_of_ble_eq_true (by kernel_rfl)) (by kernel_rfl)
/-! ### impl_ValidPrime -/
noncomputable def impl_ValidPrime.sig : Sig := ⟨[.val false (.int .i64)], [(.val false, .bool, .deep)]⟩
noncomputable def impl_ValidPrime.ctx : Ctx := ⟨tabOf tabl, [⟨160, impl_within.sig, impl_within.F⟩], [], [], [], []⟩
noncomputable def impl_ValidPrime.cfg : Cfg := ⟨impl_ValidPrime.ctx, [], [], fun id => match id with | 4 => ([0, 3], []) | _ => ([], []), fun _ => []⟩
noncomputable def impl_ValidPrime.code : Code := (Go.Proofs.Tryz.f196).body.getD .skip
noncomputable def impl_ValidPrime.fin := finK impl_ValidPrime.ctx impl_ValidPrime.sig [.tmp 2]
noncomputable def impl_ValidPrime.F (d : Int × Unit) : Option ((Bool × Unit) × (Unit)) := anyK (runFn impl_ValidPrime.cfg impl_ValidPrime.fin impl_ValidPrime.code (initSt impl_ValidPrime.sig.ps d 18))
noncomputable def impl_ValidPrime.l4 (k : Nat) (i3 : Int) (i4 : Int) : Option ((Bool × Unit) × (Unit)) :=
  Go.Vm.runT impl_ValidPrime.cfg impl_ValidPrime.fin k [.inLoop (sub [1, 1, 0, 1, 0, 0] impl_ValidPrime.code), .inBlock 0, .code (sub [1, 1, 1] impl_ValidPrime.code)]
    ⟨[.val false [⟨(.int .i64), .sh, i3⟩], .dead, .dead, .val false [⟨(.int .i64), .sh, i4⟩]] ++ deads 14, []⟩
theorem impl_ValidPrime.l4_eq (k : Nat) (i3 : Int) (i4 : Int) : impl_ValidPrime.l4 (k + 1) i3 i4 =
  if (decide ((IntKind.i64.wrap (i4 * i4)) ≤ i3)) = true then
    if i4 = 0 then
      none
    else
      if ((i3.tmod i4) == (0 : Int)) = true then
        some ((false, ()), ())
      else
        impl_ValidPrime.l4 k i3 (IntKind.i64.wrap (i4 + (1 : Int)))
  else
    some ((true, ()), ()) := by kernel_rfl
noncomputable def impl_ValidPrime.T (k : Nat) (p_1 : Int) : Option ((Bool × Unit) × (Unit)) :=
  (impl_within.F (p_1, (2 : Int), (251 : Int), ())).bind fun r2 =>
    if (!(r2.1.1 : Bool)) = true then
      some ((false, ()), ())
    else
      impl_ValidPrime.l4 k p_1 (2 : Int)
theorem impl_ValidPrime.run (k : Nat) (p_1 : Int) : runFn impl_ValidPrime.cfg impl_ValidPrime.fin impl_ValidPrime.code (initSt impl_ValidPrime.sig.ps (p_1, ()) 18) k = impl_ValidPrime.T k p_1 := by kernel_rfl
theorem impl_ValidPrime.of (p_1 : Int) {r : (Bool × Unit) × (Unit)} (h : Ev (fun k => impl_ValidPrime.T k p_1) r) : impl_ValidPrime.F (p_1, ()) = some r := Ev.run (fun k => impl_ValidPrime.run k p_1) h
theorem impl_ValidPrime.ok : CtxOK Go.Proofs.Tryz.prog impl_ValidPrime.ctx := ⟨List.forall_mem_nil _, mixed_ok, tab_ok tab_good, List.forall_mem_cons.2 ⟨impl_within.S, List.forall_mem_nil _⟩, List.forall_mem_nil _, List.forall_mem_nil _⟩
theorem impl_ValidPrime.S : Sound Go.Proofs.Tryz.prog ⟨196, impl_ValidPrime.sig, impl_ValidPrime.F⟩ := sound_any (fn := Go.Proofs.Tryz.f196) (code := impl_ValidPrime.code) (g := impl_ValidPrime.cfg) (res := [.tmp 2]) Go.Proofs.Tryz.func196 (by kernel_rfl) (by kernel_rfl) impl_ValidPrime.ok (by kernel_rfl) (by kernel_rfl) (Nat.le_of_ble_eq_true (by kernel_rfl)) (by kernel_rfl)
/-! ### impl_isSide -/
noncomputable def impl_isSide.sig : Sig := ⟨[.val false (.int .i64)], [(.val false, .bool, .deep)]⟩
noncomputable def impl_isSide.ctx : Ctx := ⟨tabOf tabl, [⟨160, impl_within.sig, impl_within.F⟩], [], [], [], []⟩
noncomputable def impl_isSide.cfg : Cfg := ⟨impl_isSide.ctx, [], [], fun _ => ([], []), fun _ => []⟩
noncomputable def impl_isSide.code : Code := (Go.Proofs.Tryz.f197).body.getD .skip
noncomputable def impl_isSide.fin := finK impl_isSide.ctx impl_isSide.sig [.tmp 2]
noncomputable def impl_isSide.F (d : Int × Unit) : Option ((Bool × Unit) × (Unit)) := anyK (runFn impl_isSide.cfg impl_isSide.fin impl_isSide.code (initSt impl_isSide.sig.ps d 5))
noncomputable def impl_isSide.T (n_1 : Int) : Option ((Bool × Unit) × (Unit)) :=
  (impl_within.F (n_1, (0 : Int), (32 : Int), ())).bind fun r2 =>
    some (((r2.1.1 : Bool), ()), ())
theorem impl_isSide.run (k : Nat) (n_1 : Int) : runFn impl_isSide.cfg impl_isSide.fin impl_isSide.code (initSt impl_isSide.sig.ps (n_1, ()) 5) k = impl_isSide.T n_1 := by kernel_rfl
theorem impl_isSide.eq (n_1 : Int) : impl_isSide.F (n_1, ()) = impl_isSide.T n_1 := (congrArg anyK (funext fun k => impl_isSide.run k n_1)).trans (anyK_const _)
theorem impl_isSide.ok : CtxOK Go.Proofs.Tryz.prog impl_isSide.ctx := ⟨List.forall_mem_nil _, mixed_ok, tab_ok tab_good, List.forall_mem_cons.2 ⟨impl_within.S, List.forall_mem_nil _⟩, List.forall_mem_nil _, List.forall_mem_nil _⟩
theorem impl_isSide.S : Sound Go.Proofs.Tryz.prog ⟨197, impl_isSide.sig, impl_isSide.F⟩ := sound_any (fn := Go.Proofs.Tryz.f197) (code := impl_isSide.code) (g := impl_isSide.cfg) (res := [.tmp 2]) Go.Proofs.Tryz.func197 (by kernel_rfl) (by kernel_rfl) impl_isSide.ok (by kernel_rfl) (by kernel_rfl) (Nat.le_of_ble_eq_true (by kernel_rfl)) (by kernel_rfl)
/-! ### impl_ValidMatrix -/
noncomputable def impl_ValidMatrix.sig : Sig := ⟨[.val true TMatrix], [(.val false, .bool, .deep)]⟩
noncomputable def impl_ValidMatrix.ctx : Ctx := ⟨tabOf tabl, [⟨161, impl_size_int64.sig, impl_size_int64.F⟩, ⟨162, impl_areElements.sig, impl_areElements.F⟩, ⟨196, impl_ValidPrime.sig, impl_ValidPrime.F⟩, ⟨197, impl_isSide.sig, impl_isSide.F⟩], [], [], [], []⟩
noncomputable def impl_ValidMatrix.cfg : Cfg := ⟨impl_ValidMatrix.ctx, [], [], fun _ => ([], []), fun _ => []⟩
noncomputable def impl_ValidMatrix.code : Code := (Go.Proofs.Tryz.f128).body.getD .skip
noncomputable def impl_ValidMatrix.fin := finK impl_ValidMatrix.ctx impl_ValidMatrix.sig [.tmp 2]
noncomputable def impl_ValidMatrix.F (d : (Int × Int × Int × List Int) × Unit) : Option ((Bool × Unit) × (Unit)) := anyK (runFn impl_ValidMatrix.cfg impl_ValidMatrix.fin impl_ValidMatrix.code (initSt impl_ValidMatrix.sig.ps d 34))
noncomputable def impl_ValidMatrix.T (m_1 : Int) (m_2 : Int) (m_3 : Int) (m_4 : List Int) : Option ((Bool × Unit) × (Unit)) :=
  (impl_ValidPrime.F (m_1, ())).bind fun r5 =>
    if (r5.1.1 : Bool) = true then
      (impl_isSide.F (m_2, ())).bind fun r6 =>
        if (r6.1.1 : Bool) = true then
          (impl_isSide.F (m_3, ())).bind fun r7 =>
            if (r7.1.1 : Bool) = true then
              (impl_size_int64.F (m_4, ())).bind fun r8 =>
                if ((r8.1.1 : Int) == (IntKind.i64.wrap (m_2 * m_3))) = true then
                  (impl_areElements.F (m_4, m_1, ())).bind fun r9 =>
                    some (((r9.1.1 : Bool), ()), ())
                else
                  some ((false, ()), ())
            else
              some ((false, ()), ())
        else
          some ((false, ()), ())
    else
      some ((false, ()), ())
theorem impl_ValidMatrix.run (k : Nat) (m_1 : Int) (m_2 : Int) (m_3 : Int) (m_4 : List Int) : runFn impl_ValidMatrix.cfg impl_ValidMatrix.fin impl_ValidMatrix.code (initSt impl_ValidMatrix.sig.ps ((m_1, (m_2, (m_3, m_4))), ()) 34) k = impl_ValidMatrix.T m_1 m_2 m_3 m_4 := by kernel_rfl
theorem impl_ValidMatrix.eq (m_1 : Int) (m_2 : Int) (m_3 : Int) (m_4 : List Int) : impl_ValidMatrix.F ((m_1, (m_2, (m_3, m_4))), ()) = impl_ValidMatrix.T m_1 m_2 m_3 m_4 := (congrArg anyK (funext fun k => impl_ValidMatrix.run k m_1 m_2 m_3 m_4)).trans (anyK_const _)
theorem impl_ValidMatrix.ok : CtxOK Go.Proofs.Tryz.prog impl_ValidMatrix.ctx := ⟨List.forall_mem_nil _, mixed_ok, tab_ok tab_good, List.forall_mem_cons.2 ⟨impl_size_int64.S, List.forall_mem_cons.2 ⟨impl_areElements.S, List.forall_mem_cons.2 ⟨impl_ValidPrime.S, List.forall_mem_cons.2 ⟨impl_isSide.S, List.forall_mem_nil _⟩⟩⟩⟩, List.forall_mem_nil _, List.forall_mem_nil _⟩
theorem impl_ValidMatrix.S : Sound Go.Proofs.Tryz.prog ⟨128, impl_ValidMatrix.sig, impl_ValidMatrix.F⟩ := sound_any (fn := Go.Proofs.Tryz.f128) (code := impl_ValidMatrix.code) (g := impl_ValidMatrix.cfg) (res := [.tmp 2]) Go.Proofs.Tryz.func128 (by kernel_rfl) (by kernel_rfl) impl_ValidMatrix.ok (by kernel_rfl) (by kernel_rfl) (Nat.le_of_ble_eq_true (by kernel_rfl)) (by kernel_rfl)
/-! ### impl_isBetween -/
noncomputable def impl_isBetween.sig : Sig := ⟨[.val true TMatrix, .val false (.int .i64), .val false (.int .i64), .val false (.int .i64)], [(.val false, .bool, .deep)]⟩
noncomputable def impl_isBetween.ctx : Ctx := ⟨tabOf tabl, [⟨128, impl_ValidMatrix.sig, impl_ValidMatrix.F⟩], [], [], [], []⟩
noncomputable def impl_isBetween.cfg : Cfg := ⟨impl_isBetween.ctx, [], [], fun _ => ([], []), fun _ => []⟩
noncomputable def impl_isBetween.code : Code := (Go.Proofs.Tryz.f141).body.getD .skip
noncomputable def impl_isBetween.fin := finK impl_isBetween.ctx impl_isBetween.sig [.tmp 8]
noncomputable def impl_isBetween.F (d : (Int × Int × Int × List Int) × Int × Int × Int × Unit) : Option ((Bool × Unit) × (Unit)) := anyK (runFn impl_isBetween.cfg impl_isBetween.fin impl_isBetween.code (initSt impl_isBetween.sig.ps d 29))
noncomputable def impl_isBetween.T (m_1 : Int) (m_2 : Int) (m_3 : Int) (m_4 : List Int) (p_5 : Int) (from_6 : Int) (to_7 : Int) : Option ((Bool × Unit) × (Unit)) :=
  (impl_ValidMatrix.F ((m_1, (m_2, (m_3, m_4))), ())).bind fun r8 =>
    if (r8.1.1 : Bool) = true then
      if (m_1 == p_5) = true then
        if (m_2 == to_7) = true then
          some ((m_3 == from_6, ()), ())
        else
          some ((false, ()), ())
      else
        some ((false, ()), ())
    else
      some ((false, ()), ())
theorem impl_isBetween.run (k : Nat) (m_1 : Int) (m_2 : Int) (m_3 : Int) (m_4 : List Int) (p_5 : Int) (from_6 : Int) (to_7 : Int) : runFn impl_isBetween.cfg impl_isBetween.fin impl_isBetween.code (initSt impl_isBetween.sig.ps ((m_1, (m_2, (m_3, m_4))), p_5, from_6, to_7, ()) 29) k = impl_isBetween.T m_1 m_2 m_3 m_4 p_5 from_6 to_7 := by kernel_rfl
theorem impl_isBetween.eq (m_1 : Int) (m_2 : Int) (m_3 : Int) (m_4 : List Int) (p_5 : Int) (from_6 : Int) (to_7 : Int) : impl_isBetween.F ((m_1, (m_2, (m_3, m_4))), p_5, from_6, to_7, ()) = impl_isBetween.T m_1 m_2 m_3 m_4 p_5 from_6 to_7 := (congrArg anyK (funext fun k => impl_isBetween.run k m_1 m_2 m_3 m_4 p_5 from_6 to_7)).trans (anyK_const _)
theorem impl_isBetween.ok : CtxOK Go.Proofs.Tryz.prog impl_isBetween.ctx := ⟨List.forall_mem_nil _, mixed_ok, tab_ok tab_good, List.forall_mem_cons.2 ⟨impl_ValidMatrix.S, List.forall_mem_nil _⟩, List.forall_mem_nil _, List.forall_mem_nil _⟩
theorem impl_isBetween.S : Sound Go.Proofs.Tryz.prog ⟨141, impl_isBetween.sig, impl_isBetween.F⟩ := sound_any (fn := Go.Proofs.Tryz.f141) (code := impl_isBetween.code) (g := impl_isBetween.cfg) (res := [.tmp 8]) Go.Proofs.Tryz.func141 (by kernel_rfl) (by kernel_rfl) impl_isBetween.ok (by kernel_rfl) (by kernel_rfl) (Nat.le_of_ble_eq_true (by kernel_rfl)) (by kernel_rfl)
/-! ### impl_simplicesOf -/
noncomputable def impl_simplicesOf.sig : Sig := ⟨[.val true (.sl (.sl (.int .i64))), .val false (.int .i64)], [(.val false, (.sl (.int .i64)), .deep)]⟩
noncomputable def impl_simplicesOf.ctx : Ctx := ⟨tabOf tabl, [⟨161, impl_size_int64.sig, impl_size_int64.F⟩], [], [], [], []⟩
noncomputable def impl_simplicesOf.cfg : Cfg := ⟨impl_simplicesOf.ctx, [], [], fun id => match id with | 3 => ([1, 5, 9, 10, 11], [20]) | _ => ([], []), fun _ => []⟩
noncomputable def impl_simplicesOf.code : Code := (Go.Proofs.Tryz.f163).body.getD .skip
noncomputable def impl_simplicesOf.fin := finK impl_simplicesOf.ctx impl_simplicesOf.sig [.tmp 4]
noncomputable def impl_simplicesOf.F (d : List (List Int) × Int × Unit) : Option ((List Int × Unit) × (Unit)) := anyK (runFn impl_simplicesOf.cfg impl_simplicesOf.fin impl_simplicesOf.code (initSt impl_simplicesOf.sig.ps d 27))
noncomputable def impl_simplicesOf.l3 (k : Nat) (i3 : Int) (x4 : List (List Int)) (i5 : Int) (i6 : Int) (x7 : List Int) : Option ((List Int × Unit) × (Unit)) :=
  Go.Vm.runT impl_simplicesOf.cfg impl_simplicesOf.fin k [.inLoop (sub [1, 1, 0, 1, 0, 0] impl_simplicesOf.code), .inBlock 0, .code (sub [1, 1, 1] impl_simplicesOf.code)]
    ⟨[.dead, .val false [⟨(.int .i64), .sh, i3⟩], .dead, .dead, .dead, .view 20 (.root 0) 1 false, .dead, .dead, .dead, .val false [⟨(.sl (.sl (.int .i64))), .sh, x4⟩], .val false [⟨(.int .i64), .sh, i5⟩], .val false [⟨(.int .i64), .sh, i6⟩]] ++ deads 15, [(20, ⟨false, [⟨(.sl (.int .i64)), .deep, x7⟩]⟩)]⟩
theorem impl_simplicesOf.l3_eq (k : Nat) (i3 : Int) (x4 : List (List Int)) (i5 : Int) (i6 : Int) (x7 : List Int) : impl_simplicesOf.l3 (k + 1) i3 x4 i5 i6 x7 =
  if (decide (i6 < i5)) = true then
    if 0 ≤ i6 ∧ i6 < (x4.length : Int) then
      (impl_size_int64.F (x4.getD i6.toNat ([] : List Int), ())).bind fun r8 =>
        if ((r8.1.1 : Int) == (IntKind.i64.wrap (i3 + (1 : Int)))) = true then
          if x7.length + ([i6] : List Int).length ≤ bigA then
            impl_simplicesOf.l3 k i3 x4 i5 (IntKind.i64.wrap (i6 + (1 : Int))) (x7 ++ ([i6]))
          else
            none
        else
          impl_simplicesOf.l3 k i3 x4 i5 (IntKind.i64.wrap (i6 + (1 : Int))) x7
    else
      none
  else
    some ((x7, ()), ()) := by kernel_rfl
noncomputable def impl_simplicesOf.T (k : Nat) (c_1 : List (List Int)) (dimension_2 : Int) : Option ((List Int × Unit) × (Unit)) :=
  impl_simplicesOf.l3 k dimension_2 c_1 (c_1.length : Int) (0 : Int) ([])
theorem impl_simplicesOf.run (k : Nat) (c_1 : List (List Int)) (dimension_2 : Int) : runFn impl_simplicesOf.cfg impl_simplicesOf.fin impl_simplicesOf.code (initSt impl_simplicesOf.sig.ps (c_1, dimension_2, ()) 27) k = impl_simplicesOf.T k c_1 dimension_2 := by kernel_rfl
theorem impl_simplicesOf.of (c_1 : List (List Int)) (dimension_2 : Int) {r : (List Int × Unit) × (Unit)} (h : Ev (fun k => impl_simplicesOf.T k c_1 dimension_2) r) : impl_simplicesOf.F (c_1, dimension_2, ()) = some r := Ev.run (fun k => impl_simplicesOf.run k c_1 dimension_2) h
theorem impl_simplicesOf.ok : CtxOK Go.Proofs.Tryz.prog impl_simplicesOf.ctx := ⟨List.forall_mem_nil _, mixed_ok, tab_ok tab_good, List.forall_mem_cons.2 ⟨impl_size_int64.S, List.forall_mem_nil _⟩, List.forall_mem_nil _, List.forall_mem_nil _⟩
theorem impl_simplicesOf.S : Sound Go.Proofs.Tryz.prog ⟨163, impl_simplicesOf.sig, impl_simplicesOf.F⟩ := sound_any (fn := Go.Proofs.Tryz.f163) (code := impl_simplicesOf.code) (g := impl_simplicesOf.cfg) (res := [.tmp 4]) Go.Proofs.Tryz.func163 (by kernel_rfl) (by kernel_rfl) impl_simplicesOf.ok (by kernel_rfl) (by kernel_rfl) (Nat.le_of_ble_eq_true (by kernel_rfl)) (by kernel_rfl)
/-! ### impl_stalkSum -/
noncomputable def impl_stalkSum.sig : Sig := ⟨[.val true TSheaf, .val false (.int .i64)], [(.val false, (.int .i64), .deep)]⟩
noncomputable def impl_stalkSum.ctx : Ctx := ⟨tabOf tabl, [⟨163, impl_simplicesOf.sig, impl_simplicesOf.F⟩], [], [], [], []⟩
noncomputable def impl_stalkSum.cfg : Cfg := ⟨impl_stalkSum.ctx, [], [], fun id => match id with | 3 => ([2, 5, 11, 12, 13], [8, 44]) | _ => ([], []), fun _ => []⟩
noncomputable def impl_stalkSum.code : Code := (Go.Proofs.Tryz.f87).body.getD .skip
noncomputable def impl_stalkSum.fin := finK impl_stalkSum.ctx impl_stalkSum.sig [.tmp 4]
noncomputable def impl_stalkSum.F (d : (List (List Int) × Int × List Int × List (Int × Int × Int × List Int)) × Int × Unit) : Option ((Int × Unit) × (Unit)) := anyK (runFn impl_stalkSum.cfg impl_stalkSum.fin impl_stalkSum.code (initSt impl_stalkSum.sig.ps d 26))
noncomputable def impl_stalkSum.l3 (k : Nat) (i7 : Int) (i8 : Int) (i9 : Int) (x10 : List (List Int)) (i11 : Int) (x12 : List Int) (x13 : List (Int × Int × Int × List Int)) (x14 : List Int) : Option ((Int × Unit) × (Unit)) :=
  Go.Vm.runT impl_stalkSum.cfg impl_stalkSum.fin k [.inLoop (sub [1, 1, 0, 1, 0, 0] impl_stalkSum.code), .inBlock 0, .code (sub [1, 1, 1] impl_stalkSum.code)]
    ⟨[.dead, .dead, .ref 8 (.root 0), .dead, .dead, .val false [⟨(.int .i64), .sh, i7⟩], .dead, .dead, .dead, .dead, .dead, .view 44 (.root 0) 1 false, .val false [⟨(.int .i64), .sh, i8⟩], .val false [⟨(.int .i64), .sh, i9⟩]] ++ deads 12, [(8, ⟨true, [⟨(.sl (.sl (.int .i64))), .sh, x10⟩, ⟨(.int .i64), .sh, i11⟩, ⟨(.sl (.int .i64)), .sh, x12⟩, ⟨(.sl TMatrix), .sh, x13⟩]⟩), (44, ⟨false, [⟨(.sl (.int .i64)), .deep, x14⟩]⟩)]⟩
theorem impl_stalkSum.l3_eq (k : Nat) (i7 : Int) (i8 : Int) (i9 : Int) (x10 : List (List Int)) (i11 : Int) (x12 : List Int) (x13 : List (Int × Int × Int × List Int)) (x14 : List Int) : impl_stalkSum.l3 (k + 1) i7 i8 i9 x10 i11 x12 x13 x14 =
  if (decide (i9 < i8)) = true then
    if 0 ≤ i9 ∧ i9 < (x14.length : Int) then
      if 0 ≤ (x14.getD i9.toNat 0 : Int) ∧ (x14.getD i9.toNat 0 : Int) < (x12.length : Int) then
        impl_stalkSum.l3 k (IntKind.i64.wrap (i7 + (x12.getD (x14.getD i9.toNat 0 : Int).toNat 0))) i8 (IntKind.i64.wrap (i9 + (1 : Int))) x10 i11 x12 x13 x14
      else
        none
    else
      none
  else
    some ((i7, ()), ()) := by kernel_rfl
noncomputable def impl_stalkSum.T (k : Nat) (s_1 : List (List Int)) (s_2 : Int) (s_3 : List Int) (s_4 : List (Int × Int × Int × List Int)) (k_5 : Int) : Option ((Int × Unit) × (Unit)) :=
  (impl_simplicesOf.F (s_1, k_5, ())).bind fun r6 =>
    impl_stalkSum.l3 k (0 : Int) (r6.1.1.length : Int) (0 : Int) s_1 s_2 s_3 s_4 r6.1.1
theorem impl_stalkSum.run (k : Nat) (s_1 : List (List Int)) (s_2 : Int) (s_3 : List Int) (s_4 : List (Int × Int × Int × List Int)) (k_5 : Int) : runFn impl_stalkSum.cfg impl_stalkSum.fin impl_stalkSum.code (initSt impl_stalkSum.sig.ps ((s_1, (s_2, (s_3, s_4))), k_5, ()) 26) k = impl_stalkSum.T k s_1 s_2 s_3 s_4 k_5 := by kernel_rfl
theorem impl_stalkSum.of (s_1 : List (List Int)) (s_2 : Int) (s_3 : List Int) (s_4 : List (Int × Int × Int × List Int)) (k_5 : Int) {r : (Int × Unit) × (Unit)} (h : Ev (fun k => impl_stalkSum.T k s_1 s_2 s_3 s_4 k_5) r) : impl_stalkSum.F ((s_1, (s_2, (s_3, s_4))), k_5, ()) = some r := Ev.run (fun k => impl_stalkSum.run k s_1 s_2 s_3 s_4 k_5) h
theorem impl_stalkSum.ok : CtxOK Go.Proofs.Tryz.prog impl_stalkSum.ctx := ⟨List.forall_mem_nil _, mixed_ok, tab_ok tab_good, List.forall_mem_cons.2 ⟨impl_simplicesOf.S, List.forall_mem_nil _⟩, List.forall_mem_nil _, List.forall_mem_nil _⟩
theorem impl_stalkSum.S : Sound Go.Proofs.Tryz.prog ⟨87, impl_stalkSum.sig, impl_stalkSum.F⟩ := sound_any (fn := Go.Proofs.Tryz.f87) (code := impl_stalkSum.code) (g := impl_stalkSum.cfg) (res := [.tmp 4]) Go.Proofs.Tryz.func87 (by kernel_rfl) (by kernel_rfl) impl_stalkSum.ok (by kernel_rfl) (by kernel_rfl) (Nat.le_of_ble_eq_true (by kernel_rfl)) (by kernel_rfl)
/-! ### impl_areStalks_1 -/
noncomputable def impl_areStalks_1.sig : Sig := ⟨[.val false (.int .i64)], [(.val false, .bool, .deep)]⟩
noncomputable def impl_areStalks_1.ctx : Ctx := ⟨tabOf tabl, [⟨160, impl_within.sig, impl_within.F⟩], [], [], [], []⟩
noncomputable def impl_areStalks_1.cfg : Cfg := ⟨impl_areStalks_1.ctx, [], [], fun _ => ([], []), fun _ => []⟩
noncomputable def impl_areStalks_1.code : Code := (Go.Proofs.Tryz.f236).body.getD .skip
noncomputable def impl_areStalks_1.fin := finK impl_areStalks_1.ctx impl_areStalks_1.sig [.tmp 2]
noncomputable def impl_areStalks_1.F (d : Int × Unit) : Option ((Bool × Unit) × (Unit)) := anyK (runFn impl_areStalks_1.cfg impl_areStalks_1.fin impl_areStalks_1.code (initSt impl_areStalks_1.sig.ps d 6))
noncomputable def impl_areStalks_1.T (n_1 : Int) : Option ((Bool × Unit) × (Unit)) :=
  (impl_within.F (n_1, (0 : Int), (3 : Int), ())).bind fun r2 =>
    some ((!(r2.1.1 : Bool), ()), ())
theorem impl_areStalks_1.run (k : Nat) (n_1 : Int) : runFn impl_areStalks_1.cfg impl_areStalks_1.fin impl_areStalks_1.code (initSt impl_areStalks_1.sig.ps (n_1, ()) 6) k = impl_areStalks_1.T n_1 := by kernel_rfl
theorem impl_areStalks_1.eq (n_1 : Int) : impl_areStalks_1.F (n_1, ()) = impl_areStalks_1.T n_1 := (congrArg anyK (funext fun k => impl_areStalks_1.run k n_1)).trans (anyK_const _)
theorem impl_areStalks_1.ok : CtxOK Go.Proofs.Tryz.prog impl_areStalks_1.ctx := ⟨List.forall_mem_nil _, mixed_ok, tab_ok tab_good, List.forall_mem_cons.2 ⟨impl_within.S, List.forall_mem_nil _⟩, List.forall_mem_nil _, List.forall_mem_nil _⟩
theorem impl_areStalks_1.S : Sound Go.Proofs.Tryz.prog ⟨236, impl_areStalks_1.sig, impl_areStalks_1.F⟩ := sound_any (fn := Go.Proofs.Tryz.f236) (code := impl_areStalks_1.code) (g := impl_areStalks_1.cfg) (res := [.tmp 2]) Go.Proofs.Tryz.func236 (by kernel_rfl) (by kernel_rfl) impl_areStalks_1.ok (by kernel_rfl) (by kernel_rfl) (Nat.le_of_ble_eq_true (by kernel_rfl)) (by kernel_rfl)
noncomputable def impl_areStalks_1.cloG (y : Unit) (d : Int × Unit) : Option (Bool × Unit) := (impl_areStalks_1.F (joinIns [] [(false, (.int .i64))] d y)).map (·.1)
noncomputable def impl_areStalks_1.clo : Clo := ⟨236, ⟨[(false, (.int .i64))], [(.val false, .bool, .deep)]⟩, [], impl_areStalks_1.cloG⟩
theorem impl_areStalks_1.cloS : SoundClo Go.Proofs.Tryz.prog impl_areStalks_1.clo := sound_clo (s := ⟨[(false, (.int .i64))], [(.val false, .bool, .deep)]⟩) (caps := []) rfl impl_areStalks_1.S
/-! ### impl_areStalks -/
noncomputable def impl_areStalks.sig : Sig := ⟨[.val true (.sl (.sl (.int .i64))), .val false (.sl (.int .i64))], [(.val false, .bool, .deep)]⟩
noncomputable def impl_areStalks.ctx : Ctx := ⟨tabOf tabl, [⟨87, impl_stalkSum.sig, impl_stalkSum.F⟩, ⟨212, slices_ContainsFunc_Lint64_int64.sig, slices_ContainsFunc_Lint64_int64.F⟩], [impl_areStalks_1.clo], [], [], []⟩
noncomputable def impl_areStalks.cfg : Cfg := ⟨impl_areStalks.ctx, [], [], fun id => match id with | 4 => ([1, 2, 16], [8]) | _ => ([], []), fun _ => []⟩
noncomputable def impl_areStalks.code : Code := (Go.Proofs.Tryz.f198).body.getD .skip
noncomputable def impl_areStalks.fin := finK impl_areStalks.ctx impl_areStalks.sig [.tmp 4]
noncomputable def impl_areStalks.F (d : List (List Int) × List Int × Unit) : Option ((Bool × Unit) × (Unit)) := anyK (runFn impl_areStalks.cfg impl_areStalks.fin impl_areStalks.code (initSt impl_areStalks.sig.ps d 26))
noncomputable def impl_areStalks.l4 (k : Nat) (x4 : List Int) (i5 : Int) (x6 : List (List Int)) : Option ((Bool × Unit) × (Unit)) :=
  Go.Vm.runT impl_areStalks.cfg impl_areStalks.fin k [.inLoop (sub [1, 1, 0, 1, 0, 0] impl_areStalks.code), .inBlock 0, .code (sub [1, 1, 1] impl_areStalks.code)]
    ⟨[.dead, .val false [⟨(.sl (.int .i64)), .sh, x4⟩], .ref 8 (.root 0), .dead, .dead, .dead, .dead, .dead, .dead, .dead, .dead, .dead, .dead, .dead, .dead, .dead, .val false [⟨(.int .i64), .sh, i5⟩]] ++ deads 9, [(8, ⟨true, [⟨(.sl (.sl (.int .i64))), .sh, x6⟩]⟩)]⟩
theorem impl_areStalks.l4_eq (k : Nat) (x4 : List Int) (i5 : Int) (x6 : List (List Int)) : impl_areStalks.l4 (k + 1) x4 i5 x6 =
  if (decide (i5 < (4 : Int))) = true then
    (impl_stalkSum.F ((x6, (0, (x4, []))), i5, ())).bind fun r7 =>
      if (decide ((r7.1.1 : Int) > (32 : Int))) = true then
        some ((false, ()), ())
      else
        impl_areStalks.l4 k x4 (IntKind.i64.wrap (i5 + (1 : Int))) x6
  else
    some ((true, ()), ()) := by kernel_rfl
noncomputable def impl_areStalks.T (k : Nat) (c_1 : List (List Int)) (stalks_2 : List Int) : Option ((Bool × Unit) × (Unit)) :=
  if ((stalks_2.length : Int) != (c_1.length : Int)) = true then
    some ((false, ()), ())
  else
    (slices_ContainsFunc_Lint64_int64.F (stalks_2, impl_areStalks_1.cloG (()), ())).bind fun r3 =>
      if (r3.1.1 : Bool) = true then
        some ((false, ()), ())
      else
        impl_areStalks.l4 k stalks_2 (0 : Int) c_1
theorem impl_areStalks.run (k : Nat) (c_1 : List (List Int)) (stalks_2 : List Int) : runFn impl_areStalks.cfg impl_areStalks.fin impl_areStalks.code (initSt impl_areStalks.sig.ps (c_1, stalks_2, ()) 26) k = impl_areStalks.T k c_1 stalks_2 := by kernel_rfl
theorem impl_areStalks.of (c_1 : List (List Int)) (stalks_2 : List Int) {r : (Bool × Unit) × (Unit)} (h : Ev (fun k => impl_areStalks.T k c_1 stalks_2) r) : impl_areStalks.F (c_1, stalks_2, ()) = some r := Ev.run (fun k => impl_areStalks.run k c_1 stalks_2) h
theorem impl_areStalks.ok : CtxOK Go.Proofs.Tryz.prog impl_areStalks.ctx := ⟨List.forall_mem_nil _, mixed_ok, tab_ok tab_good, List.forall_mem_cons.2 ⟨impl_stalkSum.S, List.forall_mem_cons.2 ⟨slices_ContainsFunc_Lint64_int64.S, List.forall_mem_nil _⟩⟩, List.forall_mem_cons.2 ⟨impl_areStalks_1.cloS, List.forall_mem_nil _⟩, List.forall_mem_nil _⟩
theorem impl_areStalks.S : Sound Go.Proofs.Tryz.prog ⟨198, impl_areStalks.sig, impl_areStalks.F⟩ := sound_any (fn := Go.Proofs.Tryz.f198) (code := impl_areStalks.code) (g := impl_areStalks.cfg) (res := [.tmp 4]) Go.Proofs.Tryz.func198 (by kernel_rfl) (by kernel_rfl) impl_areStalks.ok (by kernel_rfl) (by kernel_rfl) (Nat.le_of_ble_eq_true (by kernel_rfl)) (by kernel_rfl)
/-! ### impl_ValidSheaf -/
noncomputable def impl_ValidSheaf.sig : Sig := ⟨[.val true TSheaf], [(.val false, .bool, .deep)]⟩
noncomputable def impl_ValidSheaf.ctx : Ctx := ⟨tabOf tabl, [⟨84, impl_ValidComplex.sig, impl_ValidComplex.F⟩, ⟨109, impl_arrows.sig, impl_arrows.F⟩, ⟨141, impl_isBetween.sig, impl_isBetween.F⟩, ⟨196, impl_ValidPrime.sig, impl_ValidPrime.F⟩, ⟨198, impl_areStalks.sig, impl_areStalks.F⟩], [], [], [], []⟩
noncomputable def impl_ValidSheaf.cfg : Cfg := ⟨impl_ValidSheaf.ctx, [], [], fun id => match id with | 5 => ([1, 3, 27, 28, 29], [4, 12]) | _ => ([], []), fun _ => []⟩
noncomputable def impl_ValidSheaf.code : Code := (Go.Proofs.Tryz.f129).body.getD .skip
noncomputable def impl_ValidSheaf.fin := finK impl_ValidSheaf.ctx impl_ValidSheaf.sig [.tmp 2]
noncomputable def impl_ValidSheaf.F (d : (List (List Int) × Int × List Int × List (Int × Int × Int × List Int)) × Unit) : Option ((Bool × Unit) × (Unit)) := anyK (runFn impl_ValidSheaf.cfg impl_ValidSheaf.fin impl_ValidSheaf.code (initSt impl_ValidSheaf.sig.ps d 69))
noncomputable def impl_ValidSheaf.l5 (k : Nat) (i9 : Int) (i10 : Int) (x11 : List (List Int)) (i12 : Int) (x13 : List Int) (x14 : List (Int × Int × Int × List Int)) (x15 : List (Int × Int × Int)) : Option ((Bool × Unit) × (Unit)) :=
  Go.Vm.runT impl_ValidSheaf.cfg impl_ValidSheaf.fin k [.inLoop (sub [1, 1, 1, 0, 1, 0, 0] impl_ValidSheaf.code), .inBlock 0, .code (sub [1, 1, 1, 1] impl_ValidSheaf.code)]
    ⟨[.dead, .ref 4 (.root 0), .dead, .view 12 (.root 0) 1 false, .dead, .dead, .dead, .dead, .dead, .dead, .dead, .dead, .dead, .dead, .dead, .dead, .dead, .dead, .dead, .dead, .dead, .dead, .dead, .dead, .dead, .dead, .dead, .view 12 (.root 0) 1 false, .val false [⟨(.int .i64), .sh, i9⟩], .val false [⟨(.int .i64), .sh, i10⟩]] ++ deads 39, [(4, ⟨true, [⟨(.sl (.sl (.int .i64))), .sh, x11⟩, ⟨(.int .i64), .sh, i12⟩, ⟨(.sl (.int .i64)), .sh, x13⟩, ⟨(.sl TMatrix), .sh, x14⟩]⟩), (12, ⟨false, [⟨(.sl TEdge), .deep, x15⟩]⟩)]⟩
theorem impl_ValidSheaf.l5_eq (k : Nat) (i9 : Int) (i10 : Int) (x11 : List (List Int)) (i12 : Int) (x13 : List Int) (x14 : List (Int × Int × Int × List Int)) (x15 : List (Int × Int × Int)) : impl_ValidSheaf.l5 (k + 1) i9 i10 x11 i12 x13 x14 x15 =
  if (decide (i10 < i9)) = true then
    if 0 ≤ i10 ∧ i10 < (x15.length : Int) then
      if (decide (i10 ≥ (x14.length : Int))) = true then
        some ((false, ()), ())
      else
        if 0 ≤ i10 ∧ i10 < (x14.length : Int) then
          if 0 ≤ (((x15.getD i10.toNat (0, 0, 0)).2).2 : Int) ∧ (((x15.getD i10.toNat (0, 0, 0)).2).2 : Int) < (x13.length : Int) then
            if 0 ≤ ((x15.getD i10.toNat (0, 0, 0)).1 : Int) ∧ ((x15.getD i10.toNat (0, 0, 0)).1 : Int) < (x13.length : Int) then
              (impl_isBetween.F (x14.getD i10.toNat (0, 0, 0, ([] : List Int)), i12, x13.getD (((x15.getD i10.toNat (0, 0, 0)).2).2 : Int).toNat 0, x13.getD ((x15.getD i10.toNat (0, 0, 0)).1 : Int).toNat 0, ())).bind fun r16 =>
                if (!(r16.1.1 : Bool)) = true then
                  some ((false, ()), ())
                else
                  impl_ValidSheaf.l5 k i9 (IntKind.i64.wrap (i10 + (1 : Int))) x11 i12 x13 x14 x15
            else
              none
          else
            none
        else
          none
    else
      none
  else
    some (((x15.length : Int) == (x14.length : Int), ()), ()) := by kernel_rfl
noncomputable def impl_ValidSheaf.T (k : Nat) (toArray_1 : List (List Int)) (toArray_2 : Int) (toArray_3 : List Int) (toArray_4 : List (Int × Int × Int × List Int)) : Option ((Bool × Unit) × (Unit)) :=
  (impl_ValidComplex.F (toArray_1, ())).bind fun r5 =>
    if (!(r5.1.1 : Bool)) = true then
      some ((false, ()), ())
    else
      (impl_ValidPrime.F (toArray_2, ())).bind fun r6 =>
        if (!(r6.1.1 : Bool)) = true then
          some ((false, ()), ())
        else
          (impl_areStalks.F (toArray_1, toArray_3, ())).bind fun r7 =>
            if (!(r7.1.1 : Bool)) = true then
              some ((false, ()), ())
            else
              (impl_arrows.F (toArray_1, ())).bind fun r8 =>
                impl_ValidSheaf.l5 k (r8.1.1.length : Int) (0 : Int) toArray_1 toArray_2 toArray_3 toArray_4 r8.1.1
theorem impl_ValidSheaf.run (k : Nat) (toArray_1 : List (List Int)) (toArray_2 : Int) (toArray_3 : List Int) (toArray_4 : List (Int × Int × Int × List Int)) : runFn impl_ValidSheaf.cfg impl_ValidSheaf.fin impl_ValidSheaf.code (initSt impl_ValidSheaf.sig.ps ((toArray_1, (toArray_2, (toArray_3, toArray_4))), ()) 69) k = impl_ValidSheaf.T k toArray_1 toArray_2 toArray_3 toArray_4 := by kernel_rfl
theorem impl_ValidSheaf.of (toArray_1 : List (List Int)) (toArray_2 : Int) (toArray_3 : List Int) (toArray_4 : List (Int × Int × Int × List Int)) {r : (Bool × Unit) × (Unit)} (h : Ev (fun k => impl_ValidSheaf.T k toArray_1 toArray_2 toArray_3 toArray_4) r) : impl_ValidSheaf.F ((toArray_1, (toArray_2, (toArray_3, toArray_4))), ()) = some r := Ev.run (fun k => impl_ValidSheaf.run k toArray_1 toArray_2 toArray_3 toArray_4) h
theorem impl_ValidSheaf.ok : CtxOK Go.Proofs.Tryz.prog impl_ValidSheaf.ctx := ⟨List.forall_mem_nil _, mixed_ok, tab_ok tab_good, List.forall_mem_cons.2 ⟨impl_ValidComplex.S, List.forall_mem_cons.2 ⟨impl_arrows.S, List.forall_mem_cons.2 ⟨impl_isBetween.S, List.forall_mem_cons.2 ⟨impl_ValidPrime.S, List.forall_mem_cons.2 ⟨impl_areStalks.S, List.forall_mem_nil _⟩⟩⟩⟩⟩, List.forall_mem_nil _, List.forall_mem_nil _⟩
theorem impl_ValidSheaf.S : Sound Go.Proofs.Tryz.prog ⟨129, impl_ValidSheaf.sig, impl_ValidSheaf.F⟩ := sound_any (fn := Go.Proofs.Tryz.f129) (code := impl_ValidSheaf.code) (g := impl_ValidSheaf.cfg) (res := [.tmp 2]) Go.Proofs.Tryz.func129 (by kernel_rfl) (by kernel_rfl) impl_ValidSheaf.ok (by kernel_rfl) (by kernel_rfl) (Nat.le_of_ble_eq_true (by kernel_rfl)) (by kernel_rfl)
/-! ### impl_filled -/
noncomputable def impl_filled.sig : Sig := ⟨[.val false (.int .i64), .val false (.int .i64), .val false (.int .i64), .fnx ⟨[(false, (.int .i64)), (false, (.int .i64))], [(.val false, (.int .i64), .deep)]⟩], [(.val true, TMatrix, .deep)]⟩
noncomputable def impl_filled.ctx : Ctx := ⟨tabOf tabl, [], [], [], [], []⟩
noncomputable def impl_filled.cfg : Cfg := ⟨impl_filled.ctx, [], [], fun id => match id with | 3 => ([2, 3, 8, 9, 16, 17], [32, 36]) | 6 => ([2, 3, 8, 9, 10, 16, 17, 20, 21], [32, 36]) | _ => ([], []), fun _ => []⟩
noncomputable def impl_filled.code : Code := (Go.Proofs.Tryz.f144).body.getD .skip
noncomputable def impl_filled.fin := finK impl_filled.ctx impl_filled.sig [.cell 8 65]
noncomputable def impl_filled.F (d : Int × Int × Int × ((Int × Int × Unit) → Option (Int × Unit)) × Unit) : Option (((Int × Int × Int × List Int) × Unit) × (Unit)) := anyK (runFn impl_filled.cfg impl_filled.fin impl_filled.code (initSt impl_filled.sig.ps d 36))
noncomputable def impl_filled.l3 (k : Nat) (i5 : Int) (f6 : (Int × Int × Unit) → Option (Int × Unit)) (i7 : Int) (i8 : Int) (i9 : Int) (i10 : Int) (i11 : Int) (x12 : List Int) (i13 : Int) (i14 : Int) (i15 : Int) (x16 : List Int) : Option (((Int × Int × Int × List Int) × Unit) × (Unit)) :=
  Go.Vm.runT impl_filled.cfg impl_filled.fin k [.inLoop (sub [1, 1, 0, 1, 0, 0] impl_filled.code), .inBlock 0, .code (sub [1, 1, 1] impl_filled.code)]
    ⟨[.dead, .dead, .val false [⟨(.int .i64), .sh, i5⟩], .fnx ⟨[(false, (.int .i64)), (false, (.int .i64))], [(.val false, (.int .i64), .deep)]⟩ f6, .dead, .dead, .dead, .dead, .ref 32 (.root 0), .ref 36 (.root 0), .dead, .dead, .dead, .dead, .dead, .dead, .val false [⟨(.int .i64), .sh, i7⟩], .val false [⟨(.int .i64), .sh, i8⟩]] ++ deads 18, [(32, ⟨true, [⟨(.int .i64), .sh, i9⟩, ⟨(.int .i64), .sh, i10⟩, ⟨(.int .i64), .sh, i11⟩, ⟨(.sl (.int .i64)), .deep, x12⟩]⟩), (36, ⟨true, [⟨(.int .i64), .sh, i13⟩, ⟨(.int .i64), .sh, i14⟩, ⟨(.int .i64), .sh, i15⟩, ⟨(.sl (.int .i64)), .deep, x16⟩]⟩)]⟩
noncomputable def impl_filled.l6 (k : Nat) (i17 : Int) (f18 : (Int × Int × Unit) → Option (Int × Unit)) (i19 : Int) (i20 : Int) (i21 : Int) (i22 : Int) (i23 : Int) (i24 : Int) (i25 : Int) (i26 : Int) (x27 : List Int) (i28 : Int) (i29 : Int) (i30 : Int) (x31 : List Int) : Option (((Int × Int × Int × List Int) × Unit) × (Unit)) :=
  Go.Vm.runT impl_filled.cfg impl_filled.fin k [.inLoop (sub [1, 1, 0, 1, 0, 0, 1, 1, 0, 0, 1, 1, 0, 0] impl_filled.code), .inBlock 2, .inBlock 1, .code (sub [1, 1, 0, 1, 0, 0, 1, 1, 1] impl_filled.code), .inLoop (sub [1, 1, 0, 1, 0, 0] impl_filled.code), .inBlock 0, .code (sub [1, 1, 1] impl_filled.code)]
    ⟨[.dead, .dead, .val false [⟨(.int .i64), .sh, i17⟩], .fnx ⟨[(false, (.int .i64)), (false, (.int .i64))], [(.val false, (.int .i64), .deep)]⟩ f18, .dead, .dead, .dead, .dead, .ref 32 (.root 0), .ref 36 (.root 0), .val false [⟨(.int .i64), .sh, i19⟩], .dead, .dead, .dead, .dead, .dead, .val false [⟨(.int .i64), .sh, i20⟩], .val false [⟨(.int .i64), .sh, i21⟩], .dead, .dead, .val false [⟨(.int .i64), .sh, i22⟩], .val false [⟨(.int .i64), .sh, i23⟩]] ++ deads 14, [(32, ⟨true, [⟨(.int .i64), .sh, i24⟩, ⟨(.int .i64), .sh, i25⟩, ⟨(.int .i64), .sh, i26⟩, ⟨(.sl (.int .i64)), .deep, x27⟩]⟩), (36, ⟨true, [⟨(.int .i64), .sh, i28⟩, ⟨(.int .i64), .sh, i29⟩, ⟨(.int .i64), .sh, i30⟩, ⟨(.sl (.int .i64)), .deep, x31⟩]⟩)]⟩
theorem impl_filled.l3_eq (k : Nat) (i5 : Int) (f6 : (Int × Int × Unit) → Option (Int × Unit)) (i7 : Int) (i8 : Int) (i9 : Int) (i10 : Int) (i11 : Int) (x12 : List Int) (i13 : Int) (i14 : Int) (i15 : Int) (x16 : List Int) : impl_filled.l3 (k + 1) i5 f6 i7 i8 i9 i10 i11 x12 i13 i14 i15 x16 =
  if (decide (i8 < i7)) = true then
    impl_filled.l6 k i5 f6 i8 i7 i8 i5 (0 : Int) i9 i10 i11 x12 i13 i14 i15 x16
  else
    some (((i13, (i14, (i15, x16))), ()), ()) := by kernel_rfl
theorem impl_filled.l6_eq (k : Nat) (i17 : Int) (f18 : (Int × Int × Unit) → Option (Int × Unit)) (i19 : Int) (i20 : Int) (i21 : Int) (i22 : Int) (i23 : Int) (i24 : Int) (i25 : Int) (i26 : Int) (x27 : List Int) (i28 : Int) (i29 : Int) (i30 : Int) (x31 : List Int) : impl_filled.l6 (k + 1) i17 f18 i19 i20 i21 i22 i23 i24 i25 i26 x27 i28 i29 i30 x31 =
  if (decide (i23 < i22)) = true then
    (f18 (i19, i23, ())).bind fun r32 =>
      if x31.length + ([(r32.1 : Int)] : List Int).length ≤ bigA then
        impl_filled.l6 k i17 f18 i19 i20 i21 i22 (IntKind.i64.wrap (i23 + (1 : Int))) i24 i25 i26 x27 i28 i29 i30 (x31 ++ ([(r32.1 : Int)]))
      else
        none
  else
    impl_filled.l3 k i17 f18 i20 (IntKind.i64.wrap (i21 + (1 : Int))) i24 i25 i26 x27 i28 i29 i30 x31 := by kernel_rfl
noncomputable def impl_filled.T (k : Nat) (p_1 : Int) (rows_2 : Int) (columns_3 : Int) (f_4 : (Int × Int × Unit) → Option (Int × Unit)) : Option (((Int × Int × Int × List Int) × Unit) × (Unit)) :=
  impl_filled.l3 k columns_3 f_4 rows_2 (0 : Int) 0 0 0 ([]) p_1 rows_2 columns_3 ([])
theorem impl_filled.run (k : Nat) (p_1 : Int) (rows_2 : Int) (columns_3 : Int) (f_4 : (Int × Int × Unit) → Option (Int × Unit)) : runFn impl_filled.cfg impl_filled.fin impl_filled.code (initSt impl_filled.sig.ps (p_1, rows_2, columns_3, f_4, ()) 36) k = impl_filled.T k p_1 rows_2 columns_3 f_4 := by kernel_rfl
theorem impl_filled.of (p_1 : Int) (rows_2 : Int) (columns_3 : Int) (f_4 : (Int × Int × Unit) → Option (Int × Unit)) {r : ((Int × Int × Int × List Int) × Unit) × (Unit)} (h : Ev (fun k => impl_filled.T k p_1 rows_2 columns_3 f_4) r) : impl_filled.F (p_1, rows_2, columns_3, f_4, ()) = some r := Ev.run (fun k => impl_filled.run k p_1 rows_2 columns_3 f_4) h
theorem impl_filled.ok : CtxOK Go.Proofs.Tryz.prog impl_filled.ctx := ⟨List.forall_mem_nil _, mixed_ok, tab_ok tab_good, List.forall_mem_nil _, List.forall_mem_nil _, List.forall_mem_nil _⟩
theorem impl_filled.S : Sound Go.Proofs.Tryz.prog ⟨144, impl_filled.sig, impl_filled.F⟩ := sound_any (fn := Go.Proofs.Tryz.f144) (code := impl_filled.code) (g := impl_filled.cfg) (res := [.cell 8 65]) Go.Proofs.Tryz.func144 (by kernel_rfl) (by kernel_rfl) impl_filled.ok (by kernel_rfl) (by kernel_rfl) (Nat.le_of_ble_eq_true (by kernel_rfl)) (by kernel_rfl)
/-! ### impl_Matrix_at -/
noncomputable def impl_Matrix_at.sig : Sig := ⟨[.val true TMatrix, .val false (.int .i64), .val false (.int .i64)], [(.val false, (.int .i64), .deep)]⟩
noncomputable def impl_Matrix_at.ctx : Ctx := ⟨tabOf tabl, [], [], [], [], []⟩
noncomputable def impl_Matrix_at.cfg : Cfg := ⟨impl_Matrix_at.ctx, [], [], fun _ => ([], []), fun _ => []⟩
noncomputable def impl_Matrix_at.code : Code := (Go.Proofs.Tryz.f110).body.getD .skip
noncomputable def impl_Matrix_at.fin := finK impl_Matrix_at.ctx impl_Matrix_at.sig [.tmp 6]
noncomputable def impl_Matrix_at.F (d : (Int × Int × Int × List Int) × Int × Int × Unit) : Option ((Int × Unit) × (Unit)) := anyK (runFn impl_Matrix_at.cfg impl_Matrix_at.fin impl_Matrix_at.code (initSt impl_Matrix_at.sig.ps d 17))
noncomputable def impl_Matrix_at.T (m_1 : Int) (m_2 : Int) (m_3 : Int) (m_4 : List Int) (i_5 : Int) (j_6 : Int) : Option ((Int × Unit) × (Unit)) :=
  if 0 ≤ (IntKind.i64.wrap ((IntKind.i64.wrap (i_5 * m_3)) + j_6)) ∧ (IntKind.i64.wrap ((IntKind.i64.wrap (i_5 * m_3)) + j_6)) < (m_4.length : Int) then
    some (((m_4.getD (IntKind.i64.wrap ((IntKind.i64.wrap (i_5 * m_3)) + j_6)).toNat 0 : Int), ()), ())
  else
    none
theorem impl_Matrix_at.run (k : Nat) (m_1 : Int) (m_2 : Int) (m_3 : Int) (m_4 : List Int) (i_5 : Int) (j_6 : Int) : runFn impl_Matrix_at.cfg impl_Matrix_at.fin impl_Matrix_at.code (initSt impl_Matrix_at.sig.ps ((m_1, (m_2, (m_3, m_4))), i_5, j_6, ()) 17) k = impl_Matrix_at.T m_1 m_2 m_3 m_4 i_5 j_6 := by kernel_rfl
theorem impl_Matrix_at.eq (m_1 : Int) (m_2 : Int) (m_3 : Int) (m_4 : List Int) (i_5 : Int) (j_6 : Int) : impl_Matrix_at.F ((m_1, (m_2, (m_3, m_4))), i_5, j_6, ()) = impl_Matrix_at.T m_1 m_2 m_3 m_4 i_5 j_6 := (congrArg anyK (funext fun k => impl_Matrix_at.run k m_1 m_2 m_3 m_4 i_5 j_6)).trans (anyK_const _)
theorem impl_Matrix_at.ok : CtxOK Go.Proofs.Tryz.prog impl_Matrix_at.ctx := ⟨List.forall_mem_nil _, mixed_ok, tab_ok tab_good, List.forall_mem_nil _, List.forall_mem_nil _, List.forall_mem_nil _⟩
theorem impl_Matrix_at.S : Sound Go.Proofs.Tryz.prog ⟨110, impl_Matrix_at.sig, impl_Matrix_at.F⟩ := sound_any (fn := Go.Proofs.Tryz.f110) (code := impl_Matrix_at.code) (g := impl_Matrix_at.cfg) (res := [.tmp 6]) Go.Proofs.Tryz.func110 (by kernel_rfl) (by kernel_rfl) impl_Matrix_at.ok (by kernel_rfl) (by kernel_rfl) (Nat.le_of_ble_eq_true (by kernel_rfl)) (by kernel_rfl)
/-! ### impl_transpose_1 -/
noncomputable def impl_transpose_1.sig : Sig := ⟨[.val false (.int .i64), .val false (.int .i64), .rptr TMatrix], [(.val false, (.int .i64), .deep)]⟩
noncomputable def impl_transpose_1.ctx : Ctx := ⟨tabOf tabl, [⟨110, impl_Matrix_at.sig, impl_Matrix_at.F⟩], [], [], [], []⟩
noncomputable def impl_transpose_1.cfg : Cfg := ⟨impl_transpose_1.ctx, [], [], fun _ => ([], []), fun _ => []⟩
noncomputable def impl_transpose_1.code : Code := (Go.Proofs.Tryz.f174).body.getD .skip
noncomputable def impl_transpose_1.fin := finK impl_transpose_1.ctx impl_transpose_1.sig [.tmp 5]
noncomputable def impl_transpose_1.F (d : Int × Int × (Int × Int × Int × List Int) × Unit) : Option ((Int × Unit) × (Unit)) := anyK (runFn impl_transpose_1.cfg impl_transpose_1.fin impl_transpose_1.code (initSt impl_transpose_1.sig.ps d 10))
noncomputable def impl_transpose_1.T (i_1 : Int) (j_2 : Int) (a_3 : Int) (a_4 : Int) (a_5 : Int) (a_6 : List Int) : Option ((Int × Unit) × (Unit)) :=
  (impl_Matrix_at.F ((a_3, (a_4, (a_5, a_6))), j_2, i_1, ())).bind fun r7 =>
    some (((r7.1.1 : Int), ()), ())
theorem impl_transpose_1.run (k : Nat) (i_1 : Int) (j_2 : Int) (a_3 : Int) (a_4 : Int) (a_5 : Int) (a_6 : List Int) : runFn impl_transpose_1.cfg impl_transpose_1.fin impl_transpose_1.code (initSt impl_transpose_1.sig.ps (i_1, j_2, (a_3, (a_4, (a_5, a_6))), ()) 10) k = impl_transpose_1.T i_1 j_2 a_3 a_4 a_5 a_6 := by kernel_rfl
theorem impl_transpose_1.eq (i_1 : Int) (j_2 : Int) (a_3 : Int) (a_4 : Int) (a_5 : Int) (a_6 : List Int) : impl_transpose_1.F (i_1, j_2, (a_3, (a_4, (a_5, a_6))), ()) = impl_transpose_1.T i_1 j_2 a_3 a_4 a_5 a_6 := (congrArg anyK (funext fun k => impl_transpose_1.run k i_1 j_2 a_3 a_4 a_5 a_6)).trans (anyK_const _)
theorem impl_transpose_1.ok : CtxOK Go.Proofs.Tryz.prog impl_transpose_1.ctx := ⟨List.forall_mem_nil _, mixed_ok, tab_ok tab_good, List.forall_mem_cons.2 ⟨impl_Matrix_at.S, List.forall_mem_nil _⟩, List.forall_mem_nil _, List.forall_mem_nil _⟩
theorem impl_transpose_1.S : Sound Go.Proofs.Tryz.prog ⟨174, impl_transpose_1.sig, impl_transpose_1.F⟩ := sound_any (fn := Go.Proofs.Tryz.f174) (code := impl_transpose_1.code) (g := impl_transpose_1.cfg) (res := [.tmp 5]) Go.Proofs.Tryz.func174 (by kernel_rfl) (by kernel_rfl) impl_transpose_1.ok (by kernel_rfl) (by kernel_rfl) (Nat.le_of_ble_eq_true (by kernel_rfl)) (by kernel_rfl)
noncomputable def impl_transpose_1.cloG (y : (Int × Int × Int × List Int) × Unit) (d : Int × Int × Unit) : Option (Int × Unit) := (impl_transpose_1.F (joinIns [.rptr TMatrix] [(false, (.int .i64)), (false, (.int .i64))] d y)).map (·.1)
noncomputable def impl_transpose_1.clo : Clo := ⟨174, ⟨[(false, (.int .i64)), (false, (.int .i64))], [(.val false, (.int .i64), .deep)]⟩, [.rptr TMatrix], impl_transpose_1.cloG⟩
theorem impl_transpose_1.cloS : SoundClo Go.Proofs.Tryz.prog impl_transpose_1.clo := sound_clo (s := ⟨[(false, (.int .i64)), (false, (.int .i64))], [(.val false, (.int .i64), .deep)]⟩) (caps := [.rptr TMatrix]) rfl impl_transpose_1.S
/-! ### impl_transpose -/
noncomputable def impl_transpose.sig : Sig := ⟨[.val true TMatrix], [(.val true, TMatrix, .deep)]⟩
noncomputable def impl_transpose.ctx : Ctx := ⟨tabOf tabl, [⟨144, impl_filled.sig, impl_filled.F⟩], [impl_transpose_1.clo], [], [], []⟩
noncomputable def impl_transpose.cfg : Cfg := ⟨impl_transpose.ctx, [], [], fun _ => ([], []), fun _ => []⟩
noncomputable def impl_transpose.code : Code := (Go.Proofs.Tryz.f97).body.getD .skip
noncomputable def impl_transpose.fin := finK impl_transpose.ctx impl_transpose.sig [.cell 2 65]
noncomputable def impl_transpose.F (d : (Int × Int × Int × List Int) × Unit) : Option (((Int × Int × Int × List Int) × Unit) × (Unit)) := anyK (runFn impl_transpose.cfg impl_transpose.fin impl_transpose.code (initSt impl_transpose.sig.ps d 11))
noncomputable def impl_transpose.T (m_1 : Int) (m_2 : Int) (m_3 : Int) (m_4 : List Int) : Option (((Int × Int × Int × List Int) × Unit) × (Unit)) :=
  (impl_filled.F (m_1, m_3, m_2, impl_transpose_1.cloG ((m_1, (m_2, (m_3, m_4))), ()), ())).bind fun r5 =>
    some ((r5.1.1, ()), ())
theorem impl_transpose.run (k : Nat) (m_1 : Int) (m_2 : Int) (m_3 : Int) (m_4 : List Int) : runFn impl_transpose.cfg impl_transpose.fin impl_transpose.code (initSt impl_transpose.sig.ps ((m_1, (m_2, (m_3, m_4))), ()) 11) k = impl_transpose.T m_1 m_2 m_3 m_4 := by kernel_rfl
theorem impl_transpose.eq (m_1 : Int) (m_2 : Int) (m_3 : Int) (m_4 : List Int) : impl_transpose.F ((m_1, (m_2, (m_3, m_4))), ()) = impl_transpose.T m_1 m_2 m_3 m_4 := (congrArg anyK (funext fun k => impl_transpose.run k m_1 m_2 m_3 m_4)).trans (anyK_const _)
theorem impl_transpose.ok : CtxOK Go.Proofs.Tryz.prog impl_transpose.ctx := ⟨List.forall_mem_nil _, mixed_ok, tab_ok tab_good, List.forall_mem_cons.2 ⟨impl_filled.S, List.forall_mem_nil _⟩, List.forall_mem_cons.2 ⟨impl_transpose_1.cloS, List.forall_mem_nil _⟩, List.forall_mem_nil _⟩
theorem impl_transpose.S : Sound Go.Proofs.Tryz.prog ⟨97, impl_transpose.sig, impl_transpose.F⟩ := sound_any (fn := Go.Proofs.Tryz.f97) (code := impl_transpose.code) (g := impl_transpose.cfg) (res := [.cell 2 65]) Go.Proofs.Tryz.func97 (by kernel_rfl) (by kernel_rfl) impl_transpose.ok (by kernel_rfl) (by kernel_rfl) (Nat.le_of_ble_eq_true (by kernel_rfl)) (by kernel_rfl)
/-! ### slices_Clone_Lint64_int64 -/
noncomputable def slices_Clone_Lint64_int64.sig : Sig := ⟨[.val false (.sl (.int .i64))], [(.val false, (.sl (.int .i64)), .deep)]⟩
noncomputable def slices_Clone_Lint64_int64.ctx : Ctx := ⟨tabOf tabl, [], [], [], [], []⟩
noncomputable def slices_Clone_Lint64_int64.cfg : Cfg := ⟨slices_Clone_Lint64_int64.ctx, [], [], fun _ => ([], []), fun _ => []⟩
noncomputable def slices_Clone_Lint64_int64.code : Code := (Go.Proofs.Tryz.f132).body.getD .skip
noncomputable def slices_Clone_Lint64_int64.fin := finK slices_Clone_Lint64_int64.ctx slices_Clone_Lint64_int64.sig [.tmp 2]
noncomputable def slices_Clone_Lint64_int64.F (d : List Int × Unit) : Option ((List Int × Unit) × (Unit)) := anyK (runFn slices_Clone_Lint64_int64.cfg slices_Clone_Lint64_int64.fin slices_Clone_Lint64_int64.code (initSt slices_Clone_Lint64_int64.sig.ps d 8))
noncomputable def slices_Clone_Lint64_int64.T (s_1 : List Int) : Option ((List Int × Unit) × (Unit)) :=
  if 0 < s_1.length then
    if ([] : List Int).length + s_1.length ≤ bigA then
      some ((([] : List Int) ++ s_1, ()), ())
    else
      none
  else
    both (
      some (([], ()), ())
    ) (
      if ([] : List Int).length + s_1.length ≤ bigA then
        some ((([] : List Int) ++ s_1, ()), ())
      else
        none
    )
theorem slices_Clone_Lint64_int64.run (k : Nat) (s_1 : List Int) : runFn slices_Clone_Lint64_int64.cfg slices_Clone_Lint64_int64.fin slices_Clone_Lint64_int64.code (initSt slices_Clone_Lint64_int64.sig.ps (s_1, ()) 8) k = slices_Clone_Lint64_int64.T s_1 := by kernel_rfl
theorem slices_Clone_Lint64_int64.eq (s_1 : List Int) : slices_Clone_Lint64_int64.F (s_1, ()) = slices_Clone_Lint64_int64.T s_1 := (congrArg anyK (funext fun k => slices_Clone_Lint64_int64.run k s_1)).trans (anyK_const _)
theorem slices_Clone_Lint64_int64.ok : CtxOK Go.Proofs.Tryz.prog slices_Clone_Lint64_int64.ctx := ⟨List.forall_mem_nil _, mixed_ok, tab_ok tab_good, List.forall_mem_nil _, List.forall_mem_nil _, List.forall_mem_nil _⟩
theorem slices_Clone_Lint64_int64.S : Sound Go.Proofs.Tryz.prog ⟨132, slices_Clone_Lint64_int64.sig, slices_Clone_Lint64_int64.F⟩ := sound_any (fn := Go.Proofs.Tryz.f132) (code := slices_Clone_Lint64_int64.code) (g := slices_Clone_Lint64_int64.cfg) (res := [.tmp 2]) Go.Proofs.Tryz.func132 (by kernel_rfl) (by kernel_rfl) slices_Clone_Lint64_int64.ok (by kernel_rfl) (by kernel_rfl) (Nat.le_of_ble_eq_true (by kernel_rfl)) (by kernel_rfl)
/-! ### impl_Matrix_row -/
noncomputable def impl_Matrix_row.sig : Sig := ⟨[.val true TMatrix, .val false (.int .i64)], [(.val false, (.sl (.int .i64)), .sh)]⟩
noncomputable def impl_Matrix_row.ctx : Ctx := ⟨tabOf tabl, [], [], [], [], []⟩
noncomputable def impl_Matrix_row.cfg : Cfg := ⟨impl_Matrix_row.ctx, [], [], fun _ => ([], []), fun _ => []⟩
noncomputable def impl_Matrix_row.code : Code := (Go.Proofs.Tryz.f178).body.getD .skip
noncomputable def impl_Matrix_row.fin := finK impl_Matrix_row.ctx impl_Matrix_row.sig [.tmp 4]
noncomputable def impl_Matrix_row.F (d : (Int × Int × Int × List Int) × Int × Unit) : Option ((List Int × Unit) × (Unit)) := anyK (runFn impl_Matrix_row.cfg impl_Matrix_row.fin impl_Matrix_row.code (initSt impl_Matrix_row.sig.ps d 17))
noncomputable def impl_Matrix_row.T (m_1 : Int) (m_2 : Int) (m_3 : Int) (m_4 : List Int) (i_5 : Int) : Option ((List Int × Unit) × (Unit)) :=
  if 0 ≤ (IntKind.i64.wrap (i_5 * m_3)) ∧ (IntKind.i64.wrap (i_5 * m_3)) ≤ (IntKind.i64.wrap ((IntKind.i64.wrap (i_5 + (1 : Int))) * m_3)) ∧ (IntKind.i64.wrap ((IntKind.i64.wrap (i_5 + (1 : Int))) * m_3)) ≤ (m_4.length : Int) then
    some ((cutL m_4 (IntKind.i64.wrap (i_5 * m_3)) (IntKind.i64.wrap ((IntKind.i64.wrap (i_5 + (1 : Int))) * m_3)), ()), ())
  else
    none
theorem impl_Matrix_row.run (k : Nat) (m_1 : Int) (m_2 : Int) (m_3 : Int) (m_4 : List Int) (i_5 : Int) : runFn impl_Matrix_row.cfg impl_Matrix_row.fin impl_Matrix_row.code (initSt impl_Matrix_row.sig.ps ((m_1, (m_2, (m_3, m_4))), i_5, ()) 17) k = impl_Matrix_row.T m_1 m_2 m_3 m_4 i_5 := by kernel_rfl
theorem impl_Matrix_row.eq (m_1 : Int) (m_2 : Int) (m_3 : Int) (m_4 : List Int) (i_5 : Int) : impl_Matrix_row.F ((m_1, (m_2, (m_3, m_4))), i_5, ()) = impl_Matrix_row.T m_1 m_2 m_3 m_4 i_5 := (congrArg anyK (funext fun k => impl_Matrix_row.run k m_1 m_2 m_3 m_4 i_5)).trans (anyK_const _)
theorem impl_Matrix_row.ok : CtxOK Go.Proofs.Tryz.prog impl_Matrix_row.ctx := ⟨List.forall_mem_nil _, mixed_ok, tab_ok tab_good, List.forall_mem_nil _, List.forall_mem_nil _, List.forall_mem_nil _⟩
theorem impl_Matrix_row.S : Sound Go.Proofs.Tryz.prog ⟨178, impl_Matrix_row.sig, impl_Matrix_row.F⟩ := sound_any (fn := Go.Proofs.Tryz.f178) (code := impl_Matrix_row.code) (g := impl_Matrix_row.cfg) (res := [.tmp 4]) Go.Proofs.Tryz.func178 (by kernel_rfl) (by kernel_rfl) impl_Matrix_row.ok (by kernel_rfl) (by kernel_rfl) (Nat.le_of_ble_eq_true (by kernel_rfl)) (by kernel_rfl)
/-! ### impl_rowsOf -/
noncomputable def impl_rowsOf.sig : Sig := ⟨[.val true TMatrix], [(.val false, (.sl (.sl (.int .i64))), .deep)]⟩
noncomputable def impl_rowsOf.ctx : Ctx := ⟨tabOf tabl, [⟨132, slices_Clone_Lint64_int64.sig, slices_Clone_Lint64_int64.F⟩, ⟨178, impl_Matrix_row.sig, impl_Matrix_row.F⟩], [], [], [], []⟩
noncomputable def impl_rowsOf.cfg : Cfg := ⟨impl_rowsOf.ctx, [], [], fun id => match id with | 3 => ([1, 3, 6, 7], [4, 12]) | _ => ([], []), fun _ => []⟩
noncomputable def impl_rowsOf.code : Code := (Go.Proofs.Tryz.f186).body.getD .skip
noncomputable def impl_rowsOf.fin := finK impl_rowsOf.ctx impl_rowsOf.sig [.tmp 2]
noncomputable def impl_rowsOf.F (d : (Int × Int × Int × List Int) × Unit) : Option ((List (List Int) × Unit) × (Unit)) := anyK (runFn impl_rowsOf.cfg impl_rowsOf.fin impl_rowsOf.code (initSt impl_rowsOf.sig.ps d 19))
noncomputable def impl_rowsOf.l3 (k : Nat) (i5 : Int) (i6 : Int) (i7 : Int) (i8 : Int) (i9 : Int) (x10 : List Int) (x11 : List (List Int)) : Option ((List (List Int) × Unit) × (Unit)) :=
  Go.Vm.runT impl_rowsOf.cfg impl_rowsOf.fin k [.inLoop (sub [1, 1, 0, 1, 0, 0] impl_rowsOf.code), .inBlock 0, .code (sub [1, 1, 1] impl_rowsOf.code)]
    ⟨[.dead, .ref 4 (.root 0), .dead, .view 12 (.root 0) 1 false, .dead, .dead, .val false [⟨(.int .i64), .sh, i5⟩], .val false [⟨(.int .i64), .sh, i6⟩]] ++ deads 11, [(4, ⟨true, [⟨(.int .i64), .sh, i7⟩, ⟨(.int .i64), .sh, i8⟩, ⟨(.int .i64), .sh, i9⟩, ⟨(.sl (.int .i64)), .sh, x10⟩]⟩), (12, ⟨false, [⟨(.sl (.sl (.int .i64))), .deep, x11⟩]⟩)]⟩
theorem impl_rowsOf.l3_eq (k : Nat) (i5 : Int) (i6 : Int) (i7 : Int) (i8 : Int) (i9 : Int) (x10 : List Int) (x11 : List (List Int)) : impl_rowsOf.l3 (k + 1) i5 i6 i7 i8 i9 x10 x11 =
  if (decide (i6 < i5)) = true then
    (impl_Matrix_row.F ((i7, (i8, (i9, x10))), i6, ())).bind fun r12 =>
      (slices_Clone_Lint64_int64.F (r12.1.1, ())).bind fun r13 =>
        if x11.length + ([r13.1.1] : List (List Int)).length ≤ bigA then
          impl_rowsOf.l3 k i5 (IntKind.i64.wrap (i6 + (1 : Int))) i7 i8 i9 x10 (x11 ++ ([r13.1.1]))
        else
          none
  else
    some ((x11, ()), ()) := by kernel_rfl
noncomputable def impl_rowsOf.T (k : Nat) (m_1 : Int) (m_2 : Int) (m_3 : Int) (m_4 : List Int) : Option ((List (List Int) × Unit) × (Unit)) :=
  impl_rowsOf.l3 k m_2 (0 : Int) m_1 m_2 m_3 m_4 ([])
theorem impl_rowsOf.run (k : Nat) (m_1 : Int) (m_2 : Int) (m_3 : Int) (m_4 : List Int) : runFn impl_rowsOf.cfg impl_rowsOf.fin impl_rowsOf.code (initSt impl_rowsOf.sig.ps ((m_1, (m_2, (m_3, m_4))), ()) 19) k = impl_rowsOf.T k m_1 m_2 m_3 m_4 := by kernel_rfl
theorem impl_rowsOf.of (m_1 : Int) (m_2 : Int) (m_3 : Int) (m_4 : List Int) {r : (List (List Int) × Unit) × (Unit)} (h : Ev (fun k => impl_rowsOf.T k m_1 m_2 m_3 m_4) r) : impl_rowsOf.F ((m_1, (m_2, (m_3, m_4))), ()) = some r := Ev.run (fun k => impl_rowsOf.run k m_1 m_2 m_3 m_4) h
theorem impl_rowsOf.ok : CtxOK Go.Proofs.Tryz.prog impl_rowsOf.ctx := ⟨List.forall_mem_nil _, mixed_ok, tab_ok tab_good, List.forall_mem_cons.2 ⟨slices_Clone_Lint64_int64.S, List.forall_mem_cons.2 ⟨impl_Matrix_row.S, List.forall_mem_nil _⟩⟩, List.forall_mem_nil _, List.forall_mem_nil _⟩
theorem impl_rowsOf.S : Sound Go.Proofs.Tryz.prog ⟨186, impl_rowsOf.sig, impl_rowsOf.F⟩ := sound_any (fn := Go.Proofs.Tryz.f186) (code := impl_rowsOf.code) (g := impl_rowsOf.cfg) (res := [.tmp 2]) Go.Proofs.Tryz.func186 (by kernel_rfl) (by kernel_rfl) impl_rowsOf.ok (by kernel_rfl) (by kernel_rfl) (Nat.le_of_ble_eq_true (by kernel_rfl)) (by kernel_rfl)
/-! ### impl_columnsOf -/
noncomputable def impl_columnsOf.sig : Sig := ⟨[.val true TMatrix], [(.val false, (.sl (.sl (.int .i64))), .deep)]⟩
noncomputable def impl_columnsOf.ctx : Ctx := ⟨tabOf tabl, [⟨97, impl_transpose.sig, impl_transpose.F⟩, ⟨186, impl_rowsOf.sig, impl_rowsOf.F⟩], [], [], [], []⟩
noncomputable def impl_columnsOf.cfg : Cfg := ⟨impl_columnsOf.ctx, [], [], fun _ => ([], []), fun _ => []⟩
noncomputable def impl_columnsOf.code : Code := (Go.Proofs.Tryz.f123).body.getD .skip
noncomputable def impl_columnsOf.fin := finK impl_columnsOf.ctx impl_columnsOf.sig [.tmp 2]
noncomputable def impl_columnsOf.F (d : (Int × Int × Int × List Int) × Unit) : Option ((List (List Int) × Unit) × (Unit)) := anyK (runFn impl_columnsOf.cfg impl_columnsOf.fin impl_columnsOf.code (initSt impl_columnsOf.sig.ps d 6))
noncomputable def impl_columnsOf.T (m_1 : Int) (m_2 : Int) (m_3 : Int) (m_4 : List Int) : Option ((List (List Int) × Unit) × (Unit)) :=
  (impl_transpose.F ((m_1, (m_2, (m_3, m_4))), ())).bind fun r5 =>
    (impl_rowsOf.F (r5.1.1, ())).bind fun r6 =>
      some ((r6.1.1, ()), ())
theorem impl_columnsOf.run (k : Nat) (m_1 : Int) (m_2 : Int) (m_3 : Int) (m_4 : List Int) : runFn impl_columnsOf.cfg impl_columnsOf.fin impl_columnsOf.code (initSt impl_columnsOf.sig.ps ((m_1, (m_2, (m_3, m_4))), ()) 6) k = impl_columnsOf.T m_1 m_2 m_3 m_4 := by kernel_rfl
theorem impl_columnsOf.eq (m_1 : Int) (m_2 : Int) (m_3 : Int) (m_4 : List Int) : impl_columnsOf.F ((m_1, (m_2, (m_3, m_4))), ()) = impl_columnsOf.T m_1 m_2 m_3 m_4 := (congrArg anyK (funext fun k => impl_columnsOf.run k m_1 m_2 m_3 m_4)).trans (anyK_const _)
theorem impl_columnsOf.ok : CtxOK Go.Proofs.Tryz.prog impl_columnsOf.ctx := ⟨List.forall_mem_nil _, mixed_ok, tab_ok tab_good, List.forall_mem_cons.2 ⟨impl_transpose.S, List.forall_mem_cons.2 ⟨impl_rowsOf.S, List.forall_mem_nil _⟩⟩, List.forall_mem_nil _, List.forall_mem_nil _⟩
theorem impl_columnsOf.S : Sound Go.Proofs.Tryz.prog ⟨123, impl_columnsOf.sig, impl_columnsOf.F⟩ := sound_any (fn := Go.Proofs.Tryz.f123) (code := impl_columnsOf.code) (g := impl_columnsOf.cfg) (res := [.tmp 2]) Go.Proofs.Tryz.func123 (by kernel_rfl) (by kernel_rfl) impl_columnsOf.ok (by kernel_rfl) (by kernel_rfl) (Nat.le_of_ble_eq_true (by kernel_rfl)) (by kernel_rfl)
/-! ### impl_dot -/
noncomputable def impl_dot.sig : Sig := ⟨[.val false (.sl (.int .i64)), .val false (.sl (.int .i64)), .val false (.int .i64)], [(.val false, (.int .i64), .deep)]⟩
noncomputable def impl_dot.ctx : Ctx := ⟨tabOf tabl, [], [], [], [], []⟩
noncomputable def impl_dot.cfg : Cfg := ⟨impl_dot.ctx, [], [], fun id => match id with | 3 => ([0, 1, 2, 7, 10, 11], []) | _ => ([], []), fun _ => []⟩
noncomputable def impl_dot.code : Code := (Go.Proofs.Tryz.f177).body.getD .skip
noncomputable def impl_dot.fin := finK impl_dot.ctx impl_dot.sig [.tmp 6]
noncomputable def impl_dot.F (d : List Int × List Int × Int × Unit) : Option ((Int × Unit) × (Unit)) := anyK (runFn impl_dot.cfg impl_dot.fin impl_dot.code (initSt impl_dot.sig.ps d 29))
noncomputable def impl_dot.l3 (k : Nat) (x4 : List Int) (x5 : List Int) (i6 : Int) (i7 : Int) (i8 : Int) (i9 : Int) : Option ((Int × Unit) × (Unit)) :=
  Go.Vm.runT impl_dot.cfg impl_dot.fin k [.inLoop (sub [1, 1, 0, 1, 0, 0] impl_dot.code), .inBlock 0, .code (sub [1, 1, 1] impl_dot.code)]
    ⟨[.val false [⟨(.sl (.int .i64)), .sh, x4⟩], .val false [⟨(.sl (.int .i64)), .sh, x5⟩], .val false [⟨(.int .i64), .sh, i6⟩], .dead, .dead, .dead, .dead, .val false [⟨(.int .i64), .sh, i7⟩], .dead, .dead, .val false [⟨(.int .i64), .sh, i8⟩], .val false [⟨(.int .i64), .sh, i9⟩]] ++ deads 17, []⟩
theorem impl_dot.l3_eq (k : Nat) (x4 : List Int) (x5 : List Int) (i6 : Int) (i7 : Int) (i8 : Int) (i9 : Int) : impl_dot.l3 (k + 1) x4 x5 i6 i7 i8 i9 =
  if (decide (i9 < i8)) = true then
    if 0 ≤ i9 ∧ i9 < (x4.length : Int) then
      if 0 ≤ i9 ∧ i9 < (x5.length : Int) then
        if i6 = 0 then
          none
        else
          impl_dot.l3 k x4 x5 i6 ((IntKind.i64.wrap (i7 + (IntKind.i64.wrap ((x4.getD i9.toNat 0 : Int) * (x5.getD i9.toNat 0 : Int))))).tmod i6) i8 (IntKind.i64.wrap (i9 + (1 : Int)))
      else
        none
    else
      none
  else
    some ((i7, ()), ()) := by kernel_rfl
noncomputable def impl_dot.T (k : Nat) (a_1 : List Int) (b_2 : List Int) (p_3 : Int) : Option ((Int × Unit) × (Unit)) :=
  impl_dot.l3 k a_1 b_2 p_3 (0 : Int) (a_1.length : Int) (0 : Int)
theorem impl_dot.run (k : Nat) (a_1 : List Int) (b_2 : List Int) (p_3 : Int) : runFn impl_dot.cfg impl_dot.fin impl_dot.code (initSt impl_dot.sig.ps (a_1, b_2, p_3, ()) 29) k = impl_dot.T k a_1 b_2 p_3 := by kernel_rfl
theorem impl_dot.of (a_1 : List Int) (b_2 : List Int) (p_3 : Int) {r : (Int × Unit) × (Unit)} (h : Ev (fun k => impl_dot.T k a_1 b_2 p_3) r) : impl_dot.F (a_1, b_2, p_3, ()) = some r := Ev.run (fun k => impl_dot.run k a_1 b_2 p_3) h
theorem impl_dot.ok : CtxOK Go.Proofs.Tryz.prog impl_dot.ctx := ⟨List.forall_mem_nil _, mixed_ok, tab_ok tab_good, List.forall_mem_nil _, List.forall_mem_nil _, List.forall_mem_nil _⟩
theorem impl_dot.S : Sound Go.Proofs.Tryz.prog ⟨177, impl_dot.sig, impl_dot.F⟩ := sound_any (fn := Go.Proofs.Tryz.f177) (code := impl_dot.code) (g := impl_dot.cfg) (res := [.tmp 6]) Go.Proofs.Tryz.func177 (by kernel_rfl) (by kernel_rfl) impl_dot.ok (by kernel_rfl) (by kernel_rfl) (Nat.le_of_ble_eq_true (by kernel_rfl)) (by kernel_rfl)
/-! ### impl_product_1 -/
noncomputable def impl_product_1.sig : Sig := ⟨[.val false (.int .i64), .val false (.int .i64), .rptr TMatrix, .rptr (.sl (.sl (.int .i64)))], [(.val false, (.int .i64), .deep)]⟩
noncomputable def impl_product_1.ctx : Ctx := ⟨tabOf tabl, [⟨177, impl_dot.sig, impl_dot.F⟩, ⟨178, impl_Matrix_row.sig, impl_Matrix_row.F⟩], [], [], [], []⟩
noncomputable def impl_product_1.cfg : Cfg := ⟨impl_product_1.ctx, [], [], fun _ => ([], []), fun _ => []⟩
noncomputable def impl_product_1.code : Code := (Go.Proofs.Tryz.f176).body.getD .skip
noncomputable def impl_product_1.fin := finK impl_product_1.ctx impl_product_1.sig [.tmp 6]
noncomputable def impl_product_1.F (d : Int × Int × (Int × Int × Int × List Int) × List (List Int) × Unit) : Option ((Int × Unit) × (Unit)) := anyK (runFn impl_product_1.cfg impl_product_1.fin impl_product_1.code (initSt impl_product_1.sig.ps d 17))
noncomputable def impl_product_1.T (i_1 : Int) (j_2 : Int) (a_3 : Int) (a_4 : Int) (a_5 : Int) (a_6 : List Int) (a_7 : List (List Int)) : Option ((Int × Unit) × (Unit)) :=
  (impl_Matrix_row.F ((a_3, (a_4, (a_5, a_6))), i_1, ())).bind fun r8 =>
    if 0 ≤ j_2 ∧ j_2 < (a_7.length : Int) then
      (impl_dot.F (r8.1.1, a_7.getD j_2.toNat ([] : List Int), a_3, ())).bind fun r9 =>
        some (((r9.1.1 : Int), ()), ())
    else
      none
theorem impl_product_1.run (k : Nat) (i_1 : Int) (j_2 : Int) (a_3 : Int) (a_4 : Int) (a_5 : Int) (a_6 : List Int) (a_7 : List (List Int)) : runFn impl_product_1.cfg impl_product_1.fin impl_product_1.code (initSt impl_product_1.sig.ps (i_1, j_2, (a_3, (a_4, (a_5, a_6))), a_7, ()) 17) k = impl_product_1.T i_1 j_2 a_3 a_4 a_5 a_6 a_7 := by kernel_rfl
theorem impl_product_1.eq (i_1 : Int) (j_2 : Int) (a_3 : Int) (a_4 : Int) (a_5 : Int) (a_6 : List Int) (a_7 : List (List Int)) : impl_product_1.F (i_1, j_2, (a_3, (a_4, (a_5, a_6))), a_7, ()) = impl_product_1.T i_1 j_2 a_3 a_4 a_5 a_6 a_7 := (congrArg anyK (funext fun k => impl_product_1.run k i_1 j_2 a_3 a_4 a_5 a_6 a_7)).trans (anyK_const _)
theorem impl_product_1.ok : CtxOK Go.Proofs.Tryz.prog impl_product_1.ctx := ⟨List.forall_mem_nil _, mixed_ok, tab_ok tab_good, List.forall_mem_cons.2 ⟨impl_dot.S, List.forall_mem_cons.2 ⟨impl_Matrix_row.S, List.forall_mem_nil _⟩⟩, List.forall_mem_nil _, List.forall_mem_nil _⟩
theorem impl_product_1.S : Sound Go.Proofs.Tryz.prog ⟨176, impl_product_1.sig, impl_product_1.F⟩ := sound_any (fn := Go.Proofs.Tryz.f176) (code := impl_product_1.code) (g := impl_product_1.cfg) (res := [.tmp 6]) Go.Proofs.Tryz.func176 (by kernel_rfl) (by kernel_rfl) impl_product_1.ok (by kernel_rfl) (by kernel_rfl) (Nat.le_of_ble_eq_true (by kernel_rfl)) (by kernel_rfl)
noncomputable def impl_product_1.cloG (y : (Int × Int × Int × List Int) × List (List Int) × Unit) (d : Int × Int × Unit) : Option (Int × Unit) := (impl_product_1.F (joinIns [.rptr TMatrix, .rptr (.sl (.sl (.int .i64)))] [(false, (.int .i64)), (false, (.int .i64))] d y)).map (·.1)
noncomputable def impl_product_1.clo : Clo := ⟨176, ⟨[(false, (.int .i64)), (false, (.int .i64))], [(.val false, (.int .i64), .deep)]⟩, [.rptr TMatrix, .rptr (.sl (.sl (.int .i64)))], impl_product_1.cloG⟩
theorem impl_product_1.cloS : SoundClo Go.Proofs.Tryz.prog impl_product_1.clo := sound_clo (s := ⟨[(false, (.int .i64)), (false, (.int .i64))], [(.val false, (.int .i64), .deep)]⟩) (caps := [.rptr TMatrix, .rptr (.sl (.sl (.int .i64)))]) rfl impl_product_1.S
/-! ### impl_product -/
noncomputable def impl_product.sig : Sig := ⟨[.val true TMatrix, .val true TMatrix], [(.val true, TMatrix, .deep)]⟩
noncomputable def impl_product.ctx : Ctx := ⟨tabOf tabl, [⟨123, impl_columnsOf.sig, impl_columnsOf.F⟩, ⟨144, impl_filled.sig, impl_filled.F⟩], [impl_product_1.clo], [], [], []⟩
noncomputable def impl_product.cfg : Cfg := ⟨impl_product.ctx, [], [], fun _ => ([], []), fun _ => []⟩
noncomputable def impl_product.code : Code := (Go.Proofs.Tryz.f101).body.getD .skip
noncomputable def impl_product.fin := finK impl_product.ctx impl_product.sig [.cell 4 65]
noncomputable def impl_product.F (d : (Int × Int × Int × List Int) × (Int × Int × Int × List Int) × Unit) : Option (((Int × Int × Int × List Int) × Unit) × (Unit)) := anyK (runFn impl_product.cfg impl_product.fin impl_product.code (initSt impl_product.sig.ps d 16))
noncomputable def impl_product.T (a_1 : Int) (a_2 : Int) (a_3 : Int) (a_4 : List Int) (b_5 : Int) (b_6 : Int) (b_7 : Int) (b_8 : List Int) : Option (((Int × Int × Int × List Int) × Unit) × (Unit)) :=
  (impl_columnsOf.F ((b_5, (b_6, (b_7, b_8))), ())).bind fun r9 =>
    (impl_filled.F (a_1, a_2, b_7, impl_product_1.cloG ((a_1, (a_2, (a_3, a_4))), r9.1.1, ()), ())).bind fun r10 =>
      some ((r10.1.1, ()), ())
theorem impl_product.run (k : Nat) (a_1 : Int) (a_2 : Int) (a_3 : Int) (a_4 : List Int) (b_5 : Int) (b_6 : Int) (b_7 : Int) (b_8 : List Int) : runFn impl_product.cfg impl_product.fin impl_product.code (initSt impl_product.sig.ps ((a_1, (a_2, (a_3, a_4))), (b_5, (b_6, (b_7, b_8))), ()) 16) k = impl_product.T a_1 a_2 a_3 a_4 b_5 b_6 b_7 b_8 := by kernel_rfl
theorem impl_product.eq (a_1 : Int) (a_2 : Int) (a_3 : Int) (a_4 : List Int) (b_5 : Int) (b_6 : Int) (b_7 : Int) (b_8 : List Int) : impl_product.F ((a_1, (a_2, (a_3, a_4))), (b_5, (b_6, (b_7, b_8))), ()) = impl_product.T a_1 a_2 a_3 a_4 b_5 b_6 b_7 b_8 := (congrArg anyK (funext fun k => impl_product.run k a_1 a_2 a_3 a_4 b_5 b_6 b_7 b_8)).trans (anyK_const _)
theorem impl_product.ok : CtxOK Go.Proofs.Tryz.prog impl_product.ctx := ⟨List.forall_mem_nil _, mixed_ok, tab_ok tab_good, List.forall_mem_cons.2 ⟨impl_columnsOf.S, List.forall_mem_cons.2 ⟨impl_filled.S, List.forall_mem_nil _⟩⟩, List.forall_mem_cons.2 ⟨impl_product_1.cloS, List.forall_mem_nil _⟩, List.forall_mem_nil _⟩
theorem impl_product.S : Sound Go.Proofs.Tryz.prog ⟨101, impl_product.sig, impl_product.F⟩ := sound_any (fn := Go.Proofs.Tryz.f101) (code := impl_product.code) (g := impl_product.cfg) (res := [.cell 4 65]) Go.Proofs.Tryz.func101 (by kernel_rfl) (by kernel_rfl) impl_product.ok (by kernel_rfl) (by kernel_rfl) (Nat.le_of_ble_eq_true (by kernel_rfl)) (by kernel_rfl)
/-! ### slices_Equal_Lint64_int64 -/
noncomputable def slices_Equal_Lint64_int64.sig : Sig := ⟨[.val false (.sl (.int .i64)), .val false (.sl (.int .i64))], [(.val false, .bool, .deep)]⟩
noncomputable def slices_Equal_Lint64_int64.ctx : Ctx := ⟨tabOf tabl, [], [], [], [], []⟩
noncomputable def slices_Equal_Lint64_int64.cfg : Cfg := ⟨slices_Equal_Lint64_int64.ctx, [], [], fun id => match id with | 4 => ([0, 1, 12, 13], []) | _ => ([], []), fun _ => []⟩
noncomputable def slices_Equal_Lint64_int64.code : Code := (Go.Proofs.Tryz.f203).body.getD .skip
noncomputable def slices_Equal_Lint64_int64.fin := finK slices_Equal_Lint64_int64.ctx slices_Equal_Lint64_int64.sig [.tmp 4]
noncomputable def slices_Equal_Lint64_int64.F (d : List Int × List Int × Unit) : Option ((Bool × Unit) × (Unit)) := anyK (runFn slices_Equal_Lint64_int64.cfg slices_Equal_Lint64_int64.fin slices_Equal_Lint64_int64.code (initSt slices_Equal_Lint64_int64.sig.ps d 26))
noncomputable def slices_Equal_Lint64_int64.l4 (k : Nat) (x3 : List Int) (x4 : List Int) (i5 : Int) (i6 : Int) : Option ((Bool × Unit) × (Unit)) :=
  Go.Vm.runT slices_Equal_Lint64_int64.cfg slices_Equal_Lint64_int64.fin k [.inLoop (sub [1, 1, 0, 1, 0, 0] slices_Equal_Lint64_int64.code), .inBlock 0, .code (sub [1, 1, 1] slices_Equal_Lint64_int64.code)]
    ⟨[.val false [⟨(.sl (.int .i64)), .sh, x3⟩], .val false [⟨(.sl (.int .i64)), .sh, x4⟩], .dead, .dead, .dead, .dead, .dead, .dead, .dead, .dead, .dead, .dead, .val false [⟨(.int .i64), .sh, i5⟩], .val false [⟨(.int .i64), .sh, i6⟩]] ++ deads 12, []⟩
theorem slices_Equal_Lint64_int64.l4_eq (k : Nat) (x3 : List Int) (x4 : List Int) (i5 : Int) (i6 : Int) : slices_Equal_Lint64_int64.l4 (k + 1) x3 x4 i5 i6 =
  if (decide (i6 < i5)) = true then
    if 0 ≤ i6 ∧ i6 < (x3.length : Int) then
      if 0 ≤ i6 ∧ i6 < (x4.length : Int) then
        if ((x3.getD i6.toNat 0 : Int) != (x4.getD i6.toNat 0 : Int)) = true then
          some ((false, ()), ())
        else
          slices_Equal_Lint64_int64.l4 k x3 x4 i5 (IntKind.i64.wrap (i6 + (1 : Int)))
      else
        none
    else
      none
  else
    some ((true, ()), ()) := by kernel_rfl
noncomputable def slices_Equal_Lint64_int64.T (k : Nat) (s1_1 : List Int) (s2_2 : List Int) : Option ((Bool × Unit) × (Unit)) :=
  if ((s1_1.length : Int) != (s2_2.length : Int)) = true then
    some ((false, ()), ())
  else
    slices_Equal_Lint64_int64.l4 k s1_1 s2_2 (s1_1.length : Int) (0 : Int)
theorem slices_Equal_Lint64_int64.run (k : Nat) (s1_1 : List Int) (s2_2 : List Int) : runFn slices_Equal_Lint64_int64.cfg slices_Equal_Lint64_int64.fin slices_Equal_Lint64_int64.code (initSt slices_Equal_Lint64_int64.sig.ps (s1_1, s2_2, ()) 26) k = slices_Equal_Lint64_int64.T k s1_1 s2_2 := by kernel_rfl
theorem slices_Equal_Lint64_int64.of (s1_1 : List Int) (s2_2 : List Int) {r : (Bool × Unit) × (Unit)} (h : Ev (fun k => slices_Equal_Lint64_int64.T k s1_1 s2_2) r) : slices_Equal_Lint64_int64.F (s1_1, s2_2, ()) = some r := Ev.run (fun k => slices_Equal_Lint64_int64.run k s1_1 s2_2) h
theorem slices_Equal_Lint64_int64.ok : CtxOK Go.Proofs.Tryz.prog slices_Equal_Lint64_int64.ctx := ⟨List.forall_mem_nil _, mixed_ok, tab_ok tab_good, List.forall_mem_nil _, List.forall_mem_nil _, List.forall_mem_nil _⟩
theorem slices_Equal_Lint64_int64.S : Sound Go.Proofs.Tryz.prog ⟨203, slices_Equal_Lint64_int64.sig, slices_Equal_Lint64_int64.F⟩ := sound_any (fn := Go.Proofs.Tryz.f203) (code := slices_Equal_Lint64_int64.code) (g := slices_Equal_Lint64_int64.cfg) (res := [.tmp 4]) Go.Proofs.Tryz.func203 (by kernel_rfl) (by kernel_rfl) slices_Equal_Lint64_int64.ok (by kernel_rfl) (by kernel_rfl) (Nat.le_of_ble_eq_true (by kernel_rfl)) (by kernel_rfl)
noncomputable def slices_Equal_Lint64_int64.cloG (y : Unit) (d : List Int × List Int × Unit) : Option (Bool × Unit) := (slices_Equal_Lint64_int64.F (joinIns [] [(false, (.sl (.int .i64))), (false, (.sl (.int .i64)))] d y)).map (·.1)
noncomputable def slices_Equal_Lint64_int64.clo : Clo := ⟨203, ⟨[(false, (.sl (.int .i64))), (false, (.sl (.int .i64)))], [(.val false, .bool, .deep)]⟩, [], slices_Equal_Lint64_int64.cloG⟩
theorem slices_Equal_Lint64_int64.cloS : SoundClo Go.Proofs.Tryz.prog slices_Equal_Lint64_int64.clo := sound_clo (s := ⟨[(false, (.sl (.int .i64))), (false, (.sl (.int .i64)))], [(.val false, .bool, .deep)]⟩) (caps := []) rfl slices_Equal_Lint64_int64.S
/-! ### impl_SameMatrix -/
noncomputable def impl_SameMatrix.sig : Sig := ⟨[.val true TMatrix, .val true TMatrix], [(.val false, .bool, .deep)]⟩
noncomputable def impl_SameMatrix.ctx : Ctx := ⟨tabOf tabl, [⟨203, slices_Equal_Lint64_int64.sig, slices_Equal_Lint64_int64.F⟩], [], [], [], []⟩
noncomputable def impl_SameMatrix.cfg : Cfg := ⟨impl_SameMatrix.ctx, [], [], fun _ => ([], []), fun _ => []⟩
noncomputable def impl_SameMatrix.code : Code := (Go.Proofs.Tryz.f142).body.getD .skip
noncomputable def impl_SameMatrix.fin := finK impl_SameMatrix.ctx impl_SameMatrix.sig [.tmp 4]
noncomputable def impl_SameMatrix.F (d : (Int × Int × Int × List Int) × (Int × Int × Int × List Int) × Unit) : Option ((Bool × Unit) × (Unit)) := anyK (runFn impl_SameMatrix.cfg impl_SameMatrix.fin impl_SameMatrix.code (initSt impl_SameMatrix.sig.ps d 31))
noncomputable def impl_SameMatrix.T (a_1 : Int) (a_2 : Int) (a_3 : Int) (a_4 : List Int) (b_5 : Int) (b_6 : Int) (b_7 : Int) (b_8 : List Int) : Option ((Bool × Unit) × (Unit)) :=
  if (a_1 == b_5) = true then
    if (a_2 == b_6) = true then
      if (a_3 == b_7) = true then
        (slices_Equal_Lint64_int64.F (a_4, b_8, ())).bind fun r9 =>
          some (((r9.1.1 : Bool), ()), ())
      else
        some ((false, ()), ())
    else
      some ((false, ()), ())
  else
    some ((false, ()), ())
theorem impl_SameMatrix.run (k : Nat) (a_1 : Int) (a_2 : Int) (a_3 : Int) (a_4 : List Int) (b_5 : Int) (b_6 : Int) (b_7 : Int) (b_8 : List Int) : runFn impl_SameMatrix.cfg impl_SameMatrix.fin impl_SameMatrix.code (initSt impl_SameMatrix.sig.ps ((a_1, (a_2, (a_3, a_4))), (b_5, (b_6, (b_7, b_8))), ()) 31) k = impl_SameMatrix.T a_1 a_2 a_3 a_4 b_5 b_6 b_7 b_8 := by kernel_rfl
theorem impl_SameMatrix.eq (a_1 : Int) (a_2 : Int) (a_3 : Int) (a_4 : List Int) (b_5 : Int) (b_6 : Int) (b_7 : Int) (b_8 : List Int) : impl_SameMatrix.F ((a_1, (a_2, (a_3, a_4))), (b_5, (b_6, (b_7, b_8))), ()) = impl_SameMatrix.T a_1 a_2 a_3 a_4 b_5 b_6 b_7 b_8 := (congrArg anyK (funext fun k => impl_SameMatrix.run k a_1 a_2 a_3 a_4 b_5 b_6 b_7 b_8)).trans (anyK_const _)
theorem impl_SameMatrix.ok : CtxOK Go.Proofs.Tryz.prog impl_SameMatrix.ctx := ⟨List.forall_mem_nil _, mixed_ok, tab_ok tab_good, List.forall_mem_cons.2 ⟨slices_Equal_Lint64_int64.S, List.forall_mem_nil _⟩, List.forall_mem_nil _, List.forall_mem_nil _⟩
theorem impl_SameMatrix.S : Sound Go.Proofs.Tryz.prog ⟨142, impl_SameMatrix.sig, impl_SameMatrix.F⟩ := sound_any (fn := Go.Proofs.Tryz.f142) (code := impl_SameMatrix.code) (g := impl_SameMatrix.cfg) (res := [.tmp 4]) Go.Proofs.Tryz.func142 (by kernel_rfl) (by kernel_rfl) impl_SameMatrix.ok (by kernel_rfl) (by kernel_rfl) (Nat.le_of_ble_eq_true (by kernel_rfl)) (by kernel_rfl)
/-! ### impl_firstMap -/
noncomputable def impl_firstMap.sig : Sig := ⟨[.val true TSheaf, .val false (.int .i64)], [(.val false, (.int .i64), .deep)]⟩
noncomputable def impl_firstMap.ctx : Ctx := ⟨tabOf tabl, [⟨161, impl_size_int64.sig, impl_size_int64.F⟩], [], [], [], []⟩
noncomputable def impl_firstMap.cfg : Cfg := ⟨impl_firstMap.ctx, [], [], fun id => match id with | 3 => ([5, 12, 13, 14], []) | _ => ([], []), fun _ => []⟩
noncomputable def impl_firstMap.code : Code := (Go.Proofs.Tryz.f233).body.getD .skip
noncomputable def impl_firstMap.fin := finK impl_firstMap.ctx impl_firstMap.sig [.tmp 4]
noncomputable def impl_firstMap.F (d : (List (List Int) × Int × List Int × List (Int × Int × Int × List Int)) × Int × Unit) : Option ((Int × Unit) × (Unit)) := anyK (runFn impl_firstMap.cfg impl_firstMap.fin impl_firstMap.code (initSt impl_firstMap.sig.ps d 27))
noncomputable def impl_firstMap.l3 (k : Nat) (i6 : Int) (x7 : List (List Int)) (i8 : Int) (i9 : Int) : Option ((Int × Unit) × (Unit)) :=
  Go.Vm.runT impl_firstMap.cfg impl_firstMap.fin k [.inLoop (sub [1, 1, 0, 1, 0, 0] impl_firstMap.code), .inBlock 0, .code (sub [1, 1, 1] impl_firstMap.code)]
    ⟨[.dead, .dead, .dead, .dead, .dead, .val false [⟨(.int .i64), .sh, i6⟩], .dead, .dead, .dead, .dead, .dead, .dead, .val false [⟨(.sl (.sl (.int .i64))), .sh, x7⟩], .val false [⟨(.int .i64), .sh, i8⟩], .val false [⟨(.int .i64), .sh, i9⟩]] ++ deads 12, []⟩
theorem impl_firstMap.l3_eq (k : Nat) (i6 : Int) (x7 : List (List Int)) (i8 : Int) (i9 : Int) : impl_firstMap.l3 (k + 1) i6 x7 i8 i9 =
  if (decide (i9 < i8)) = true then
    if 0 ≤ i9 ∧ i9 < (x7.length : Int) then
      if (decide (((x7.getD i9.toNat ([] : List Int)).length : Int) > (1 : Int))) = true then
        (impl_size_int64.F (x7.getD i9.toNat ([] : List Int), ())).bind fun r10 =>
          impl_firstMap.l3 k (IntKind.i64.wrap (i6 + (r10.1.1 : Int))) x7 i8 (IntKind.i64.wrap (i9 + (1 : Int)))
      else
        impl_firstMap.l3 k i6 x7 i8 (IntKind.i64.wrap (i9 + (1 : Int)))
    else
      none
  else
    some ((i6, ()), ()) := by kernel_rfl
noncomputable def impl_firstMap.T (k : Nat) (s_1 : List (List Int)) (s_2 : Int) (s_3 : List Int) (s_4 : List (Int × Int × Int × List Int)) (simplex_5 : Int) : Option ((Int × Unit) × (Unit)) :=
  if 0 ≤ (0 : Int) ∧ (0 : Int) ≤ simplex_5 ∧ simplex_5 ≤ (s_1.length : Int) then
    impl_firstMap.l3 k (0 : Int) (cutL s_1 (0 : Int) simplex_5) ((cutL s_1 (0 : Int) simplex_5).length : Int) (0 : Int)
  else
    none
theorem impl_firstMap.run (k : Nat) (s_1 : List (List Int)) (s_2 : Int) (s_3 : List Int) (s_4 : List (Int × Int × Int × List Int)) (simplex_5 : Int) : runFn impl_firstMap.cfg impl_firstMap.fin impl_firstMap.code (initSt impl_firstMap.sig.ps ((s_1, (s_2, (s_3, s_4))), simplex_5, ()) 27) k = impl_firstMap.T k s_1 s_2 s_3 s_4 simplex_5 := by kernel_rfl
theorem impl_firstMap.of (s_1 : List (List Int)) (s_2 : Int) (s_3 : List Int) (s_4 : List (Int × Int × Int × List Int)) (simplex_5 : Int) {r : (Int × Unit) × (Unit)} (h : Ev (fun k => impl_firstMap.T k s_1 s_2 s_3 s_4 simplex_5) r) : impl_firstMap.F ((s_1, (s_2, (s_3, s_4))), simplex_5, ()) = some r := Ev.run (fun k => impl_firstMap.run k s_1 s_2 s_3 s_4 simplex_5) h
theorem impl_firstMap.ok : CtxOK Go.Proofs.Tryz.prog impl_firstMap.ctx := ⟨List.forall_mem_nil _, mixed_ok, tab_ok tab_good, List.forall_mem_cons.2 ⟨impl_size_int64.S, List.forall_mem_nil _⟩, List.forall_mem_nil _, List.forall_mem_nil _⟩
theorem impl_firstMap.S : Sound Go.Proofs.Tryz.prog ⟨233, impl_firstMap.sig, impl_firstMap.F⟩ := sound_any (fn := Go.Proofs.Tryz.f233) (code := impl_firstMap.code) (g := impl_firstMap.cfg) (res := [.tmp 4]) Go.Proofs.Tryz.func233 (by kernel_rfl) (by kernel_rfl) impl_firstMap.ok (by kernel_rfl) (by kernel_rfl) (Nat.le_of_ble_eq_true (by kernel_rfl)) (by kernel_rfl)
/-! ### impl_direct -/
noncomputable def impl_direct.sig : Sig := ⟨[.val true TSheaf, .val false (.int .i64), .val false (.int .i64)], [(.val true, TMatrix, .sh)]⟩
noncomputable def impl_direct.ctx : Ctx := ⟨tabOf tabl, [⟨233, impl_firstMap.sig, impl_firstMap.F⟩], [], [], [], []⟩
noncomputable def impl_direct.cfg : Cfg := ⟨impl_direct.ctx, [], [], fun _ => ([], []), fun _ => []⟩
noncomputable def impl_direct.code : Code := (Go.Proofs.Tryz.f190).body.getD .skip
noncomputable def impl_direct.fin := finK impl_direct.ctx impl_direct.sig [.cell 6 65]
noncomputable def impl_direct.F (d : (List (List Int) × Int × List Int × List (Int × Int × Int × List Int)) × Int × Int × Unit) : Option (((Int × Int × Int × List Int) × Unit) × (Unit)) := anyK (runFn impl_direct.cfg impl_direct.fin impl_direct.code (initSt impl_direct.sig.ps d 16))
noncomputable def impl_direct.T (s_1 : List (List Int)) (s_2 : Int) (s_3 : List Int) (s_4 : List (Int × Int × Int × List Int)) (simplex_5 : Int) (place_6 : Int) : Option (((Int × Int × Int × List Int) × Unit) × (Unit)) :=
  (impl_firstMap.F ((s_1, (s_2, (s_3, s_4))), simplex_5, ())).bind fun r7 =>
    if 0 ≤ (IntKind.i64.wrap ((r7.1.1 : Int) + place_6)) ∧ (IntKind.i64.wrap ((r7.1.1 : Int) + place_6)) < (s_4.length : Int) then
      let y8 : Int := (s_4.getD (IntKind.i64.wrap ((r7.1.1 : Int) + place_6)).toNat (0, 0, 0, ([] : List Int))).1
      let y9 : Int := ((s_4.getD (IntKind.i64.wrap ((r7.1.1 : Int) + place_6)).toNat (0, 0, 0, ([] : List Int))).2).1
      let y10 : Int := (((s_4.getD (IntKind.i64.wrap ((r7.1.1 : Int) + place_6)).toNat (0, 0, 0, ([] : List Int))).2).2).1
      let y11 : List Int := (((s_4.getD (IntKind.i64.wrap ((r7.1.1 : Int) + place_6)).toNat (0, 0, 0, ([] : List Int))).2).2).2
      some (((y8, (y9, (y10, y11))), ()), ())
    else
      none
theorem impl_direct.run (k : Nat) (s_1 : List (List Int)) (s_2 : Int) (s_3 : List Int) (s_4 : List (Int × Int × Int × List Int)) (simplex_5 : Int) (place_6 : Int) : runFn impl_direct.cfg impl_direct.fin impl_direct.code (initSt impl_direct.sig.ps ((s_1, (s_2, (s_3, s_4))), simplex_5, place_6, ()) 16) k = impl_direct.T s_1 s_2 s_3 s_4 simplex_5 place_6 := by kernel_rfl
theorem impl_direct.eq (s_1 : List (List Int)) (s_2 : Int) (s_3 : List Int) (s_4 : List (Int × Int × Int × List Int)) (simplex_5 : Int) (place_6 : Int) : impl_direct.F ((s_1, (s_2, (s_3, s_4))), simplex_5, place_6, ()) = impl_direct.T s_1 s_2 s_3 s_4 simplex_5 place_6 := (congrArg anyK (funext fun k => impl_direct.run k s_1 s_2 s_3 s_4 simplex_5 place_6)).trans (anyK_const _)
theorem impl_direct.ok : CtxOK Go.Proofs.Tryz.prog impl_direct.ctx := ⟨List.forall_mem_nil _, mixed_ok, tab_ok tab_good, List.forall_mem_cons.2 ⟨impl_firstMap.S, List.forall_mem_nil _⟩, List.forall_mem_nil _, List.forall_mem_nil _⟩
theorem impl_direct.S : Sound Go.Proofs.Tryz.prog ⟨190, impl_direct.sig, impl_direct.F⟩ := sound_any (fn := Go.Proofs.Tryz.f190) (code := impl_direct.code) (g := impl_direct.cfg) (res := [.cell 6 65]) Go.Proofs.Tryz.func190 (by kernel_rfl) (by kernel_rfl) impl_direct.ok (by kernel_rfl) (by kernel_rfl) (Nat.le_of_ble_eq_true (by kernel_rfl)) (by kernel_rfl)
/-! ### impl_wrongSquare -/
noncomputable def impl_wrongSquare.sig : Sig := ⟨[.val true TSheaf], [(.val false, (.int .i64), .deep), (.val false, (.int .i64), .deep), (.val false, .bool, .deep)]⟩
noncomputable def impl_wrongSquare.ctx : Ctx := ⟨tabOf tabl, [⟨101, impl_product.sig, impl_product.F⟩, ⟨142, impl_SameMatrix.sig, impl_SameMatrix.F⟩, ⟨184, impl_faceIndices.sig, impl_faceIndices.F⟩, ⟨190, impl_direct.sig, impl_direct.F⟩], [], [], [], []⟩
noncomputable def impl_wrongSquare.cfg : Cfg := ⟨impl_wrongSquare.ctx, [], [], fun id => match id with | 2 => ([1, 15, 16, 17], [4]) | 8 => ([1, 6, 7, 8, 15, 16, 17, 31, 32], [4, 32]) | 11 => ([1, 6, 7, 8, 9, 10, 15, 16, 17, 31, 32], [4, 32]) | _ => ([], []), fun _ => []⟩
noncomputable def impl_wrongSquare.code : Code := (Go.Proofs.Tryz.f130).body.getD .skip
noncomputable def impl_wrongSquare.fin := finK impl_wrongSquare.ctx impl_wrongSquare.sig [.tmp 2, .tmp 3, .tmp 4]
noncomputable def impl_wrongSquare.F (d : (List (List Int) × Int × List Int × List (Int × Int × Int × List Int)) × Unit) : Option ((Int × Int × Bool × Unit) × (Unit)) := anyK (runFn impl_wrongSquare.cfg impl_wrongSquare.fin impl_wrongSquare.code (initSt impl_wrongSquare.sig.ps d 86))
noncomputable def impl_wrongSquare.l2 (k : Nat) (x5 : List (List Int)) (i6 : Int) (i7 : Int) (x8 : List (List Int)) (i9 : Int) (x10 : List Int) (x11 : List (Int × Int × Int × List Int)) : Option ((Int × Int × Bool × Unit) × (Unit)) :=
  Go.Vm.runT impl_wrongSquare.cfg impl_wrongSquare.fin k [.inLoop (sub [1, 0, 1, 0, 0] impl_wrongSquare.code), .inBlock 0, .code (sub [1, 1] impl_wrongSquare.code)]
    ⟨[.dead, .ref 4 (.root 0), .dead, .dead, .dead, .dead, .dead, .dead, .dead, .dead, .dead, .dead, .dead, .dead, .dead, .val false [⟨(.sl (.sl (.int .i64))), .sh, x5⟩], .val false [⟨(.int .i64), .sh, i6⟩], .val false [⟨(.int .i64), .sh, i7⟩]] ++ deads 68, [(4, ⟨true, [⟨(.sl (.sl (.int .i64))), .sh, x8⟩, ⟨(.int .i64), .sh, i9⟩, ⟨(.sl (.int .i64)), .sh, x10⟩, ⟨(.sl TMatrix), .sh, x11⟩]⟩)]⟩
noncomputable def impl_wrongSquare.l8 (k : Nat) (x13 : List Int) (i14 : Int) (x15 : List (List Int)) (i16 : Int) (i17 : Int) (i18 : Int) (i19 : Int) (x20 : List (List Int)) (i21 : Int) (x22 : List Int) (x23 : List (Int × Int × Int × List Int)) (x24 : List Int) : Option ((Int × Int × Bool × Unit) × (Unit)) :=
  Go.Vm.runT impl_wrongSquare.cfg impl_wrongSquare.fin k [.inLoop (sub [1, 0, 1, 0, 0, 1, 1, 0, 0, 1, 1, 1, 1, 1, 0, 0] impl_wrongSquare.code), .inBlock 2, .inBlock 1, .code (sub [1, 0, 1, 0, 0, 1, 1, 1] impl_wrongSquare.code), .inLoop (sub [1, 0, 1, 0, 0] impl_wrongSquare.code), .inBlock 0, .code (sub [1, 1] impl_wrongSquare.code)]
    ⟨[.dead, .ref 4 (.root 0), .dead, .dead, .dead, .dead, .val false [⟨(.sl (.int .i64)), .sh, x13⟩], .val false [⟨(.int .i64), .sh, i14⟩], .view 32 (.root 0) 1 false, .dead, .dead, .dead, .dead, .dead, .dead, .val false [⟨(.sl (.sl (.int .i64))), .sh, x15⟩], .val false [⟨(.int .i64), .sh, i16⟩], .val false [⟨(.int .i64), .sh, i17⟩], .dead, .dead, .dead, .dead, .dead, .dead, .dead, .dead, .dead, .dead, .dead, .dead, .dead, .val false [⟨(.int .i64), .sh, i18⟩], .val false [⟨(.int .i64), .sh, i19⟩]] ++ deads 53, [(4, ⟨true, [⟨(.sl (.sl (.int .i64))), .sh, x20⟩, ⟨(.int .i64), .sh, i21⟩, ⟨(.sl (.int .i64)), .sh, x22⟩, ⟨(.sl TMatrix), .sh, x23⟩]⟩), (32, ⟨false, [⟨(.sl (.int .i64)), .deep, x24⟩]⟩)]⟩
noncomputable def impl_wrongSquare.l11 (k : Nat) (x25 : List Int) (i26 : Int) (i27 : Int) (i28 : Int) (x29 : List (List Int)) (i30 : Int) (i31 : Int) (i32 : Int) (i33 : Int) (x34 : List (List Int)) (i35 : Int) (x36 : List Int) (x37 : List (Int × Int × Int × List Int)) (x38 : List Int) : Option ((Int × Int × Bool × Unit) × (Unit)) :=
  Go.Vm.runT impl_wrongSquare.cfg impl_wrongSquare.fin k [.inLoop (sub [1, 0, 1, 0, 0, 1, 1, 0, 0, 1, 1, 1, 1, 1, 0, 0, 1, 1, 0, 0, 1, 1, 0, 0] impl_wrongSquare.code), .inBlock 4, .inBlock 3, .code (sub [1, 0, 1, 0, 0, 1, 1, 0, 0, 1, 1, 1, 1, 1, 0, 0, 1, 1, 1] impl_wrongSquare.code), .inLoop (sub [1, 0, 1, 0, 0, 1, 1, 0, 0, 1, 1, 1, 1, 1, 0, 0] impl_wrongSquare.code), .inBlock 2, .inBlock 1, .code (sub [1, 0, 1, 0, 0, 1, 1, 1] impl_wrongSquare.code), .inLoop (sub [1, 0, 1, 0, 0] impl_wrongSquare.code), .inBlock 0, .code (sub [1, 1] impl_wrongSquare.code)]
    ⟨[.dead, .ref 4 (.root 0), .dead, .dead, .dead, .dead, .val false [⟨(.sl (.int .i64)), .sh, x25⟩], .val false [⟨(.int .i64), .sh, i26⟩], .view 32 (.root 0) 1 false, .val false [⟨(.int .i64), .sh, i27⟩], .val false [⟨(.int .i64), .sh, i28⟩], .dead, .dead, .dead, .dead, .val false [⟨(.sl (.sl (.int .i64))), .sh, x29⟩], .val false [⟨(.int .i64), .sh, i30⟩], .val false [⟨(.int .i64), .sh, i31⟩], .dead, .dead, .dead, .dead, .dead, .dead, .dead, .dead, .dead, .dead, .dead, .dead, .dead, .val false [⟨(.int .i64), .sh, i32⟩], .val false [⟨(.int .i64), .sh, i33⟩]] ++ deads 53, [(4, ⟨true, [⟨(.sl (.sl (.int .i64))), .sh, x34⟩, ⟨(.int .i64), .sh, i35⟩, ⟨(.sl (.int .i64)), .sh, x36⟩, ⟨(.sl TMatrix), .sh, x37⟩]⟩), (32, ⟨false, [⟨(.sl (.int .i64)), .deep, x38⟩]⟩)]⟩
theorem impl_wrongSquare.l2_eq (k : Nat) (x5 : List (List Int)) (i6 : Int) (i7 : Int) (x8 : List (List Int)) (i9 : Int) (x10 : List Int) (x11 : List (Int × Int × Int × List Int)) : impl_wrongSquare.l2 (k + 1) x5 i6 i7 x8 i9 x10 x11 =
  if (decide (i7 < i6)) = true then
    if 0 ≤ i7 ∧ i7 < (x5.length : Int) then
      if (decide (((x5.getD i7.toNat ([] : List Int)).length : Int) < (3 : Int))) = true then
        impl_wrongSquare.l2 k x5 i6 (IntKind.i64.wrap (i7 + (1 : Int))) x8 i9 x10 x11
      else
        (impl_faceIndices.F (x8, i7, ())).bind fun r12 =>
          impl_wrongSquare.l8 k (x5.getD i7.toNat ([] : List Int)) i7 x5 i6 i7 ((x5.getD i7.toNat ([] : List Int)).length : Int) (0 : Int) x8 i9 x10 x11 r12.1.1
    else
      none
  else
    some (((0 : Int), ((0 : Int), (false, ()))), ()) := by kernel_rfl
theorem impl_wrongSquare.l8_eq (k : Nat) (x13 : List Int) (i14 : Int) (x15 : List (List Int)) (i16 : Int) (i17 : Int) (i18 : Int) (i19 : Int) (x20 : List (List Int)) (i21 : Int) (x22 : List Int) (x23 : List (Int × Int × Int × List Int)) (x24 : List Int) : impl_wrongSquare.l8 (k + 1) x13 i14 x15 i16 i17 i18 i19 x20 i21 x22 x23 x24 =
  if (decide (i19 < i18)) = true then
    impl_wrongSquare.l11 k x13 i14 i19 (IntKind.i64.wrap (i19 + (1 : Int))) x15 i16 i17 i18 i19 x20 i21 x22 x23 x24
  else
    impl_wrongSquare.l2 k x15 i16 (IntKind.i64.wrap (i17 + (1 : Int))) x20 i21 x22 x23 := by kernel_rfl
theorem impl_wrongSquare.l11_eq (k : Nat) (x25 : List Int) (i26 : Int) (i27 : Int) (i28 : Int) (x29 : List (List Int)) (i30 : Int) (i31 : Int) (i32 : Int) (i33 : Int) (x34 : List (List Int)) (i35 : Int) (x36 : List Int) (x37 : List (Int × Int × Int × List Int)) (x38 : List Int) : impl_wrongSquare.l11 (k + 1) x25 i26 i27 i28 x29 i30 i31 i32 i33 x34 i35 x36 x37 x38 =
  if (decide (i28 < (x25.length : Int))) = true then
    (impl_direct.F ((x34, (i35, (x36, x37))), i26, i27, ())).bind fun r39 =>
      if 0 ≤ i27 ∧ i27 < (x38.length : Int) then
        (impl_direct.F ((x34, (i35, (x36, x37))), (x38.getD i27.toNat 0 : Int), IntKind.i64.wrap (i28 - (1 : Int)), ())).bind fun r40 =>
          (impl_product.F (r39.1.1, r40.1.1, ())).bind fun r41 =>
            (impl_direct.F ((x34, (i35, (x36, x37))), i26, i28, ())).bind fun r42 =>
              if 0 ≤ i28 ∧ i28 < (x38.length : Int) then
                (impl_direct.F ((x34, (i35, (x36, x37))), (x38.getD i28.toNat 0 : Int), i27, ())).bind fun r43 =>
                  (impl_product.F (r42.1.1, r43.1.1, ())).bind fun r44 =>
                    (impl_SameMatrix.F (r41.1.1, r44.1.1, ())).bind fun r45 =>
                      if (!(r45.1.1 : Bool)) = true then
                        if 0 ≤ i27 ∧ i27 < (x38.length : Int) then
                          (impl_faceIndices.F (x34, (x38.getD i27.toNat 0 : Int), ())).bind fun r46 =>
                            if 0 ≤ (IntKind.i64.wrap (i28 - (1 : Int))) ∧ (IntKind.i64.wrap (i28 - (1 : Int))) < (r46.1.1.length : Int) then
                              some ((i26, (r46.1.1.getD (IntKind.i64.wrap (i28 - (1 : Int))).toNat 0, (true, ()))), ())
                            else
                              none
                        else
                          none
                      else
                        impl_wrongSquare.l11 k x25 i26 i27 (IntKind.i64.wrap (i28 + (1 : Int))) x29 i30 i31 i32 i33 x34 i35 x36 x37 x38
              else
                none
      else
        none
  else
    impl_wrongSquare.l8 k x25 i26 x29 i30 i31 i32 (IntKind.i64.wrap (i33 + (1 : Int))) x34 i35 x36 x37 x38 := by kernel_rfl
noncomputable def impl_wrongSquare.T (k : Nat) (toArray_1 : List (List Int)) (toArray_2 : Int) (toArray_3 : List Int) (toArray_4 : List (Int × Int × Int × List Int)) : Option ((Int × Int × Bool × Unit) × (Unit)) :=
  impl_wrongSquare.l2 k toArray_1 (toArray_1.length : Int) (0 : Int) toArray_1 toArray_2 toArray_3 toArray_4
theorem impl_wrongSquare.run (k : Nat) (toArray_1 : List (List Int)) (toArray_2 : Int) (toArray_3 : List Int) (toArray_4 : List (Int × Int × Int × List Int)) : runFn impl_wrongSquare.cfg impl_wrongSquare.fin impl_wrongSquare.code (initSt impl_wrongSquare.sig.ps ((toArray_1, (toArray_2, (toArray_3, toArray_4))), ()) 86) k = impl_wrongSquare.T k toArray_1 toArray_2 toArray_3 toArray_4 := by kernel_rfl
theorem impl_wrongSquare.of (toArray_1 : List (List Int)) (toArray_2 : Int) (toArray_3 : List Int) (toArray_4 : List (Int × Int × Int × List Int)) {r : (Int × Int × Bool × Unit) × (Unit)} (h : Ev (fun k => impl_wrongSquare.T k toArray_1 toArray_2 toArray_3 toArray_4) r) : impl_wrongSquare.F ((toArray_1, (toArray_2, (toArray_3, toArray_4))), ()) = some r := Ev.run (fun k => impl_wrongSquare.run k toArray_1 toArray_2 toArray_3 toArray_4) h
theorem impl_wrongSquare.ok : CtxOK Go.Proofs.Tryz.prog impl_wrongSquare.ctx := ⟨List.forall_mem_nil _, mixed_ok, tab_ok tab_good, List.forall_mem_cons.2 ⟨impl_product.S, List.forall_mem_cons.2 ⟨impl_SameMatrix.S, List.forall_mem_cons.2 ⟨impl_faceIndices.S, List.forall_mem_cons.2 ⟨impl_direct.S, List.forall_mem_nil _⟩⟩⟩⟩, List.forall_mem_nil _, List.forall_mem_nil _⟩
theorem impl_wrongSquare.S : Sound Go.Proofs.Tryz.prog ⟨130, impl_wrongSquare.sig, impl_wrongSquare.F⟩ := sound_any (fn := Go.Proofs.Tryz.f130) (code := impl_wrongSquare.code) (g := impl_wrongSquare.cfg) (res := [.tmp 2, .tmp 3, .tmp 4]) Go.Proofs.Tryz.func130 (by kernel_rfl) (by kernel_rfl) impl_wrongSquare.ok (by kernel_rfl) (by kernel_rfl) (Nat.le_of_ble_eq_true (by kernel_rfl)) (by kernel_rfl)
/-! ### impl_IsSheaf -/
noncomputable def impl_IsSheaf.sig : Sig := ⟨[.val true TSheaf], [(.val false, .bool, .deep)]⟩
noncomputable def impl_IsSheaf.ctx : Ctx := ⟨tabOf tabl, [⟨129, impl_ValidSheaf.sig, impl_ValidSheaf.F⟩, ⟨130, impl_wrongSquare.sig, impl_wrongSquare.F⟩], [], [], [], []⟩
noncomputable def impl_IsSheaf.cfg : Cfg := ⟨impl_IsSheaf.ctx, [], [], fun _ => ([], []), fun _ => []⟩
noncomputable def impl_IsSheaf.code : Code := (Go.Proofs.Tryz.f63).body.getD .skip
noncomputable def impl_IsSheaf.fin := finK impl_IsSheaf.ctx impl_IsSheaf.sig [.tmp 2]
noncomputable def impl_IsSheaf.F (d : (List (List Int) × Int × List Int × List (Int × Int × Int × List Int)) × Unit) : Option ((Bool × Unit) × (Unit)) := anyK (runFn impl_IsSheaf.cfg impl_IsSheaf.fin impl_IsSheaf.code (initSt impl_IsSheaf.sig.ps d 17))
noncomputable def impl_IsSheaf.T (s_1 : List (List Int)) (s_2 : Int) (s_3 : List Int) (s_4 : List (Int × Int × Int × List Int)) : Option ((Bool × Unit) × (Unit)) :=
  (impl_ValidSheaf.F ((s_1, (s_2, (s_3, s_4))), ())).bind fun r5 =>
    if (!(r5.1.1 : Bool)) = true then
      some ((false, ()), ())
    else
      (impl_wrongSquare.F ((s_1, (s_2, (s_3, s_4))), ())).bind fun r6 =>
        some ((!(r6.1.2.2.1 : Bool), ()), ())
theorem impl_IsSheaf.run (k : Nat) (s_1 : List (List Int)) (s_2 : Int) (s_3 : List Int) (s_4 : List (Int × Int × Int × List Int)) : runFn impl_IsSheaf.cfg impl_IsSheaf.fin impl_IsSheaf.code (initSt impl_IsSheaf.sig.ps ((s_1, (s_2, (s_3, s_4))), ()) 17) k = impl_IsSheaf.T s_1 s_2 s_3 s_4 := by kernel_rfl
theorem impl_IsSheaf.eq (s_1 : List (List Int)) (s_2 : Int) (s_3 : List Int) (s_4 : List (Int × Int × Int × List Int)) : impl_IsSheaf.F ((s_1, (s_2, (s_3, s_4))), ()) = impl_IsSheaf.T s_1 s_2 s_3 s_4 := (congrArg anyK (funext fun k => impl_IsSheaf.run k s_1 s_2 s_3 s_4)).trans (anyK_const _)
theorem impl_IsSheaf.ok : CtxOK Go.Proofs.Tryz.prog impl_IsSheaf.ctx := ⟨List.forall_mem_nil _, mixed_ok, tab_ok tab_good, List.forall_mem_cons.2 ⟨impl_ValidSheaf.S, List.forall_mem_cons.2 ⟨impl_wrongSquare.S, List.forall_mem_nil _⟩⟩, List.forall_mem_nil _, List.forall_mem_nil _⟩
theorem impl_IsSheaf.S : Sound Go.Proofs.Tryz.prog ⟨63, impl_IsSheaf.sig, impl_IsSheaf.F⟩ := sound_any (fn := Go.Proofs.Tryz.f63) (code := impl_IsSheaf.code) (g := impl_IsSheaf.cfg) (res := [.tmp 2]) Go.Proofs.Tryz.func63 (by kernel_rfl) (by kernel_rfl) impl_IsSheaf.ok (by kernel_rfl) (by kernel_rfl) (Nat.le_of_ble_eq_true (by kernel_rfl)) (by kernel_rfl)
/-! ### impl_areSheaves_1 -/
noncomputable def impl_areSheaves_1.sig : Sig := ⟨[.val true TSheaf], [(.val false, .bool, .deep)]⟩
noncomputable def impl_areSheaves_1.ctx : Ctx := ⟨tabOf tabl, [⟨63, impl_IsSheaf.sig, impl_IsSheaf.F⟩], [], [], [], []⟩
noncomputable def impl_areSheaves_1.cfg : Cfg := ⟨impl_areSheaves_1.ctx, [], [], fun _ => ([], []), fun _ => []⟩
noncomputable def impl_areSheaves_1.code : Code := (Go.Proofs.Tryz.f138).body.getD .skip
noncomputable def impl_areSheaves_1.fin := finK impl_areSheaves_1.ctx impl_areSheaves_1.sig [.tmp 2]
noncomputable def impl_areSheaves_1.F (d : (List (List Int) × Int × List Int × List (Int × Int × Int × List Int)) × Unit) : Option ((Bool × Unit) × (Unit)) := anyK (runFn impl_areSheaves_1.cfg impl_areSheaves_1.fin impl_areSheaves_1.code (initSt impl_areSheaves_1.sig.ps d 6))
noncomputable def impl_areSheaves_1.T (s_1 : List (List Int)) (s_2 : Int) (s_3 : List Int) (s_4 : List (Int × Int × Int × List Int)) : Option ((Bool × Unit) × (Unit)) :=
  (impl_IsSheaf.F ((s_1, (s_2, (s_3, s_4))), ())).bind fun r5 =>
    some ((!(r5.1.1 : Bool), ()), ())
theorem impl_areSheaves_1.run (k : Nat) (s_1 : List (List Int)) (s_2 : Int) (s_3 : List Int) (s_4 : List (Int × Int × Int × List Int)) : runFn impl_areSheaves_1.cfg impl_areSheaves_1.fin impl_areSheaves_1.code (initSt impl_areSheaves_1.sig.ps ((s_1, (s_2, (s_3, s_4))), ()) 6) k = impl_areSheaves_1.T s_1 s_2 s_3 s_4 := by kernel_rfl
theorem impl_areSheaves_1.eq (s_1 : List (List Int)) (s_2 : Int) (s_3 : List Int) (s_4 : List (Int × Int × Int × List Int)) : impl_areSheaves_1.F ((s_1, (s_2, (s_3, s_4))), ()) = impl_areSheaves_1.T s_1 s_2 s_3 s_4 := (congrArg anyK (funext fun k => impl_areSheaves_1.run k s_1 s_2 s_3 s_4)).trans (anyK_const _)
theorem impl_areSheaves_1.ok : CtxOK Go.Proofs.Tryz.prog impl_areSheaves_1.ctx := ⟨List.forall_mem_nil _, mixed_ok, tab_ok tab_good, List.forall_mem_cons.2 ⟨impl_IsSheaf.S, List.forall_mem_nil _⟩, List.forall_mem_nil _, List.forall_mem_nil _⟩
theorem impl_areSheaves_1.S : Sound Go.Proofs.Tryz.prog ⟨138, impl_areSheaves_1.sig, impl_areSheaves_1.F⟩ := sound_any (fn := Go.Proofs.Tryz.f138) (code := impl_areSheaves_1.code) (g := impl_areSheaves_1.cfg) (res := [.tmp 2]) Go.Proofs.Tryz.func138 (by kernel_rfl) (by kernel_rfl) impl_areSheaves_1.ok (by kernel_rfl) (by kernel_rfl) (Nat.le_of_ble_eq_true (by kernel_rfl)) (by kernel_rfl)
noncomputable def impl_areSheaves_1.cloG (y : Unit) (d : (List (List Int) × Int × List Int × List (Int × Int × Int × List Int)) × Unit) : Option (Bool × Unit) := (impl_areSheaves_1.F (joinIns [] [(true, TSheaf)] d y)).map (·.1)
noncomputable def impl_areSheaves_1.clo : Clo := ⟨138, ⟨[(true, TSheaf)], [(.val false, .bool, .deep)]⟩, [], impl_areSheaves_1.cloG⟩
theorem impl_areSheaves_1.cloS : SoundClo Go.Proofs.Tryz.prog impl_areSheaves_1.clo := sound_clo (s := ⟨[(true, TSheaf)], [(.val false, .bool, .deep)]⟩) (caps := []) rfl impl_areSheaves_1.S
/-! ### slices_EqualFunc_LLint64_LLint64_Lint64_Lint64 -/
noncomputable def slices_EqualFunc_LLint64_LLint64_Lint64_Lint64.sig : Sig := ⟨[.val false (.sl (.sl (.int .i64))), .val false (.sl (.sl (.int .i64))), .fnx ⟨[(false, (.sl (.int .i64))), (false, (.sl (.int .i64)))], [(.val false, .bool, .deep)]⟩], [(.val false, .bool, .deep)]⟩
noncomputable def slices_EqualFunc_LLint64_LLint64_Lint64_Lint64.ctx : Ctx := ⟨tabOf tabl, [], [], [], [], []⟩
noncomputable def slices_EqualFunc_LLint64_LLint64_Lint64_Lint64.cfg : Cfg := ⟨slices_EqualFunc_LLint64_LLint64_Lint64_Lint64.ctx, [], [], fun id => match id with | 4 => ([1, 2, 15, 16, 17], []) | _ => ([], []), fun _ => []⟩
noncomputable def slices_EqualFunc_LLint64_LLint64_Lint64_Lint64.code : Code := (Go.Proofs.Tryz.f234).body.getD .skip
noncomputable def slices_EqualFunc_LLint64_LLint64_Lint64_Lint64.fin := finK slices_EqualFunc_LLint64_LLint64_Lint64_Lint64.ctx slices_EqualFunc_LLint64_LLint64_Lint64_Lint64.sig [.tmp 6]
noncomputable def slices_EqualFunc_LLint64_LLint64_Lint64_Lint64.F (d : List (List Int) × List (List Int) × ((List Int × List Int × Unit) → Option (Bool × Unit)) × Unit) : Option ((Bool × Unit) × (Unit)) := anyK (runFn slices_EqualFunc_LLint64_LLint64_Lint64_Lint64.cfg slices_EqualFunc_LLint64_LLint64_Lint64_Lint64.fin slices_EqualFunc_LLint64_LLint64_Lint64_Lint64.code (initSt slices_EqualFunc_LLint64_LLint64_Lint64_Lint64.sig.ps d 32))
noncomputable def slices_EqualFunc_LLint64_LLint64_Lint64_Lint64.l4 (k : Nat) (x4 : List (List Int)) (f5 : (List Int × List Int × Unit) → Option (Bool × Unit)) (x6 : List (List Int)) (i7 : Int) (i8 : Int) : Option ((Bool × Unit) × (Unit)) :=
  Go.Vm.runT slices_EqualFunc_LLint64_LLint64_Lint64_Lint64.cfg slices_EqualFunc_LLint64_LLint64_Lint64_Lint64.fin k [.inLoop (sub [1, 1, 0, 1, 0, 0] slices_EqualFunc_LLint64_LLint64_Lint64_Lint64.code), .inBlock 0, .code (sub [1, 1, 1] slices_EqualFunc_LLint64_LLint64_Lint64_Lint64.code)]
    ⟨[.dead, .val false [⟨(.sl (.sl (.int .i64))), .sh, x4⟩], .fnx ⟨[(false, (.sl (.int .i64))), (false, (.sl (.int .i64)))], [(.val false, .bool, .deep)]⟩ f5, .dead, .dead, .dead, .dead, .dead, .dead, .dead, .dead, .dead, .dead, .dead, .dead, .val false [⟨(.sl (.sl (.int .i64))), .sh, x6⟩], .val false [⟨(.int .i64), .sh, i7⟩], .val false [⟨(.int .i64), .sh, i8⟩]] ++ deads 14, []⟩
theorem slices_EqualFunc_LLint64_LLint64_Lint64_Lint64.l4_eq (k : Nat) (x4 : List (List Int)) (f5 : (List Int × List Int × Unit) → Option (Bool × Unit)) (x6 : List (List Int)) (i7 : Int) (i8 : Int) : slices_EqualFunc_LLint64_LLint64_Lint64_Lint64.l4 (k + 1) x4 f5 x6 i7 i8 =
  if (decide (i8 < i7)) = true then
    if 0 ≤ i8 ∧ i8 < (x6.length : Int) then
      if 0 ≤ i8 ∧ i8 < (x4.length : Int) then
        (f5 (x6.getD i8.toNat ([] : List Int), x4.getD i8.toNat ([] : List Int), ())).bind fun r9 =>
          if (!(r9.1 : Bool)) = true then
            some ((false, ()), ())
          else
            slices_EqualFunc_LLint64_LLint64_Lint64_Lint64.l4 k x4 f5 x6 i7 (IntKind.i64.wrap (i8 + (1 : Int)))
      else
        none
    else
      none
  else
    some ((true, ()), ()) := by kernel_rfl
noncomputable def slices_EqualFunc_LLint64_LLint64_Lint64_Lint64.T (k : Nat) (s1_1 : List (List Int)) (s2_2 : List (List Int)) (f_3 : (List Int × List Int × Unit) → Option (Bool × Unit)) : Option ((Bool × Unit) × (Unit)) :=
  if ((s1_1.length : Int) != (s2_2.length : Int)) = true then
    some ((false, ()), ())
  else
    slices_EqualFunc_LLint64_LLint64_Lint64_Lint64.l4 k s2_2 f_3 s1_1 (s1_1.length : Int) (0 : Int)
theorem slices_EqualFunc_LLint64_LLint64_Lint64_Lint64.run (k : Nat) (s1_1 : List (List Int)) (s2_2 : List (List Int)) (f_3 : (List Int × List Int × Unit) → Option (Bool × Unit)) : runFn slices_EqualFunc_LLint64_LLint64_Lint64_Lint64.cfg slices_EqualFunc_LLint64_LLint64_Lint64_Lint64.fin slices_EqualFunc_LLint64_LLint64_Lint64_Lint64.code (initSt slices_EqualFunc_LLint64_LLint64_Lint64_Lint64.sig.ps (s1_1, s2_2, f_3, ()) 32) k = slices_EqualFunc_LLint64_LLint64_Lint64_Lint64.T k s1_1 s2_2 f_3 := by kernel_rfl
theorem slices_EqualFunc_LLint64_LLint64_Lint64_Lint64.of (s1_1 : List (List Int)) (s2_2 : List (List Int)) (f_3 : (List Int × List Int × Unit) → Option (Bool × Unit)) {r : (Bool × Unit) × (Unit)} (h : Ev (fun k => slices_EqualFunc_LLint64_LLint64_Lint64_Lint64.T k s1_1 s2_2 f_3) r) : slices_EqualFunc_LLint64_LLint64_Lint64_Lint64.F (s1_1, s2_2, f_3, ()) = some r := Ev.run (fun k => slices_EqualFunc_LLint64_LLint64_Lint64_Lint64.run k s1_1 s2_2 f_3) h
theorem slices_EqualFunc_LLint64_LLint64_Lint64_Lint64.ok : CtxOK Go.Proofs.Tryz.prog slices_EqualFunc_LLint64_LLint64_Lint64_Lint64.ctx := ⟨List.forall_mem_nil _, mixed_ok, tab_ok tab_good, List.forall_mem_nil _, List.forall_mem_nil _, List.forall_mem_nil _⟩
theorem slices_EqualFunc_LLint64_LLint64_Lint64_Lint64.S : Sound Go.Proofs.Tryz.prog ⟨234, slices_EqualFunc_LLint64_LLint64_Lint64_Lint64.sig, slices_EqualFunc_LLint64_LLint64_Lint64_Lint64.F⟩ := sound_any (fn := Go.Proofs.Tryz.f234) (code := slices_EqualFunc_LLint64_LLint64_Lint64_Lint64.code) (g := slices_EqualFunc_LLint64_LLint64_Lint64_Lint64.cfg) (res := [.tmp 6]) Go.Proofs.Tryz.func234 (by kernel_rfl) (by kernel_rfl) slices_EqualFunc_LLint64_LLint64_Lint64_Lint64.ok (by kernel_rfl) (by kernel_rfl) (Nat.le_of_ble_eq_true (by kernel_rfl)) (by kernel_rfl)
/-! ### impl_areSame -/
noncomputable def impl_areSame.sig : Sig := ⟨[.val false (.sl (.sl (.int .i64))), .val false (.sl (.sl (.int .i64)))], [(.val false, .bool, .deep)]⟩
noncomputable def impl_areSame.ctx : Ctx := ⟨tabOf tabl, [⟨234, slices_EqualFunc_LLint64_LLint64_Lint64_Lint64.sig, slices_EqualFunc_LLint64_LLint64_Lint64_Lint64.F⟩], [slices_Equal_Lint64_int64.clo], [], [], []⟩
noncomputable def impl_areSame.cfg : Cfg := ⟨impl_areSame.ctx, [], [], fun _ => ([], []), fun _ => []⟩
noncomputable def impl_areSame.code : Code := (Go.Proofs.Tryz.f193).body.getD .skip
noncomputable def impl_areSame.fin := finK impl_areSame.ctx impl_areSame.sig [.tmp 4]
noncomputable def impl_areSame.F (d : List (List Int) × List (List Int) × Unit) : Option ((Bool × Unit) × (Unit)) := anyK (runFn impl_areSame.cfg impl_areSame.fin impl_areSame.code (initSt impl_areSame.sig.ps d 8))
noncomputable def impl_areSame.T (a_1 : List (List Int)) (b_2 : List (List Int)) : Option ((Bool × Unit) × (Unit)) :=
  (slices_EqualFunc_LLint64_LLint64_Lint64_Lint64.F (a_1, b_2, slices_Equal_Lint64_int64.cloG (()), ())).bind fun r3 =>
    some (((r3.1.1 : Bool), ()), ())
theorem impl_areSame.run (k : Nat) (a_1 : List (List Int)) (b_2 : List (List Int)) : runFn impl_areSame.cfg impl_areSame.fin impl_areSame.code (initSt impl_areSame.sig.ps (a_1, b_2, ()) 8) k = impl_areSame.T a_1 b_2 := by kernel_rfl
theorem impl_areSame.eq (a_1 : List (List Int)) (b_2 : List (List Int)) : impl_areSame.F (a_1, b_2, ()) = impl_areSame.T a_1 b_2 := (congrArg anyK (funext fun k => impl_areSame.run k a_1 b_2)).trans (anyK_const _)
theorem impl_areSame.ok : CtxOK Go.Proofs.Tryz.prog impl_areSame.ctx := ⟨List.forall_mem_nil _, mixed_ok, tab_ok tab_good, List.forall_mem_cons.2 ⟨slices_EqualFunc_LLint64_LLint64_Lint64_Lint64.S, List.forall_mem_nil _⟩, List.forall_mem_cons.2 ⟨slices_Equal_Lint64_int64.cloS, List.forall_mem_nil _⟩, List.forall_mem_nil _⟩
theorem impl_areSame.S : Sound Go.Proofs.Tryz.prog ⟨193, impl_areSame.sig, impl_areSame.F⟩ := sound_any (fn := Go.Proofs.Tryz.f193) (code := impl_areSame.code) (g := impl_areSame.cfg) (res := [.tmp 4]) Go.Proofs.Tryz.func193 (by kernel_rfl) (by kernel_rfl) impl_areSame.ok (by kernel_rfl) (by kernel_rfl) (Nat.le_of_ble_eq_true (by kernel_rfl)) (by kernel_rfl)
/-! ### impl_SameComplex -/
noncomputable def impl_SameComplex.sig : Sig := ⟨[.val true (.sl (.sl (.int .i64))), .val true (.sl (.sl (.int .i64)))], [(.val false, .bool, .deep)]⟩
noncomputable def impl_SameComplex.ctx : Ctx := ⟨tabOf tabl, [⟨193, impl_areSame.sig, impl_areSame.F⟩], [], [], [], []⟩
noncomputable def impl_SameComplex.cfg : Cfg := ⟨impl_SameComplex.ctx, [], [], fun _ => ([], []), fun _ => []⟩
noncomputable def impl_SameComplex.code : Code := (Go.Proofs.Tryz.f202).body.getD .skip
noncomputable def impl_SameComplex.fin := finK impl_SameComplex.ctx impl_SameComplex.sig [.tmp 4]
noncomputable def impl_SameComplex.F (d : List (List Int) × List (List Int) × Unit) : Option ((Bool × Unit) × (Unit)) := anyK (runFn impl_SameComplex.cfg impl_SameComplex.fin impl_SameComplex.code (initSt impl_SameComplex.sig.ps d 10))
noncomputable def impl_SameComplex.T (a_1 : List (List Int)) (b_2 : List (List Int)) : Option ((Bool × Unit) × (Unit)) :=
  (impl_areSame.F (a_1, b_2, ())).bind fun r3 =>
    some (((r3.1.1 : Bool), ()), ())
theorem impl_SameComplex.run (k : Nat) (a_1 : List (List Int)) (b_2 : List (List Int)) : runFn impl_SameComplex.cfg impl_SameComplex.fin impl_SameComplex.code (initSt impl_SameComplex.sig.ps (a_1, b_2, ()) 10) k = impl_SameComplex.T a_1 b_2 := by kernel_rfl
theorem impl_SameComplex.eq (a_1 : List (List Int)) (b_2 : List (List Int)) : impl_SameComplex.F (a_1, b_2, ()) = impl_SameComplex.T a_1 b_2 := (congrArg anyK (funext fun k => impl_SameComplex.run k a_1 b_2)).trans (anyK_const _)
theorem impl_SameComplex.ok : CtxOK Go.Proofs.Tryz.prog impl_SameComplex.ctx := ⟨List.forall_mem_nil _, mixed_ok, tab_ok tab_good, List.forall_mem_cons.2 ⟨impl_areSame.S, List.forall_mem_nil _⟩, List.forall_mem_nil _, List.forall_mem_nil _⟩
theorem impl_SameComplex.S : Sound Go.Proofs.Tryz.prog ⟨202, impl_SameComplex.sig, impl_SameComplex.F⟩ := sound_any (fn := Go.Proofs.Tryz.f202) (code := impl_SameComplex.code) (g := impl_SameComplex.cfg) (res := [.tmp 4]) Go.Proofs.Tryz.func202 (by kernel_rfl) (by kernel_rfl) impl_SameComplex.ok (by kernel_rfl) (by kernel_rfl) (Nat.le_of_ble_eq_true (by kernel_rfl)) (by kernel_rfl)
/-! ### impl_related -/
noncomputable def impl_related.sig : Sig := ⟨[.val true TSheaf, .val true TSheaf], [(.val false, .bool, .deep)]⟩
noncomputable def impl_related.ctx : Ctx := ⟨tabOf tabl, [⟨202, impl_SameComplex.sig, impl_SameComplex.F⟩], [], [], [], []⟩
noncomputable def impl_related.cfg : Cfg := ⟨impl_related.ctx, [], [], fun _ => ([], []), fun _ => []⟩
noncomputable def impl_related.code : Code := (Go.Proofs.Tryz.f140).body.getD .skip
noncomputable def impl_related.fin := finK impl_related.ctx impl_related.sig [.tmp 4]
noncomputable def impl_related.F (d : (List (List Int) × Int × List Int × List (Int × Int × Int × List Int)) × (List (List Int) × Int × List Int × List (Int × Int × Int × List Int)) × Unit) : Option ((Bool × Unit) × (Unit)) := anyK (runFn impl_related.cfg impl_related.fin impl_related.code (initSt impl_related.sig.ps d 17))
noncomputable def impl_related.T (a_1 : List (List Int)) (a_2 : Int) (a_3 : List Int) (a_4 : List (Int × Int × Int × List Int)) (b_5 : List (List Int)) (b_6 : Int) (b_7 : List Int) (b_8 : List (Int × Int × Int × List Int)) : Option ((Bool × Unit) × (Unit)) :=
  (impl_SameComplex.F (a_1, b_5, ())).bind fun r9 =>
    if (r9.1.1 : Bool) = true then
      some ((a_2 == b_6, ()), ())
    else
      some ((false, ()), ())
theorem impl_related.run (k : Nat) (a_1 : List (List Int)) (a_2 : Int) (a_3 : List Int) (a_4 : List (Int × Int × Int × List Int)) (b_5 : List (List Int)) (b_6 : Int) (b_7 : List Int) (b_8 : List (Int × Int × Int × List Int)) : runFn impl_related.cfg impl_related.fin impl_related.code (initSt impl_related.sig.ps ((a_1, (a_2, (a_3, a_4))), (b_5, (b_6, (b_7, b_8))), ()) 17) k = impl_related.T a_1 a_2 a_3 a_4 b_5 b_6 b_7 b_8 := by kernel_rfl
theorem impl_related.eq (a_1 : List (List Int)) (a_2 : Int) (a_3 : List Int) (a_4 : List (Int × Int × Int × List Int)) (b_5 : List (List Int)) (b_6 : Int) (b_7 : List Int) (b_8 : List (Int × Int × Int × List Int)) : impl_related.F ((a_1, (a_2, (a_3, a_4))), (b_5, (b_6, (b_7, b_8))), ()) = impl_related.T a_1 a_2 a_3 a_4 b_5 b_6 b_7 b_8 := (congrArg anyK (funext fun k => impl_related.run k a_1 a_2 a_3 a_4 b_5 b_6 b_7 b_8)).trans (anyK_const _)
theorem impl_related.ok : CtxOK Go.Proofs.Tryz.prog impl_related.ctx := ⟨List.forall_mem_nil _, mixed_ok, tab_ok tab_good, List.forall_mem_cons.2 ⟨impl_SameComplex.S, List.forall_mem_nil _⟩, List.forall_mem_nil _, List.forall_mem_nil _⟩
theorem impl_related.S : Sound Go.Proofs.Tryz.prog ⟨140, impl_related.sig, impl_related.F⟩ := sound_any (fn := Go.Proofs.Tryz.f140) (code := impl_related.code) (g := impl_related.cfg) (res := [.tmp 4]) Go.Proofs.Tryz.func140 (by kernel_rfl) (by kernel_rfl) impl_related.ok (by kernel_rfl) (by kernel_rfl) (Nat.le_of_ble_eq_true (by kernel_rfl)) (by kernel_rfl)
/-! ### impl_areSheaves_2 -/
noncomputable def impl_areSheaves_2.sig : Sig := ⟨[.val true TSheaf, .rptr (.sl TSheaf)], [(.val false, .bool, .deep)]⟩
noncomputable def impl_areSheaves_2.ctx : Ctx := ⟨tabOf tabl, [⟨140, impl_related.sig, impl_related.F⟩], [], [], [], []⟩
noncomputable def impl_areSheaves_2.cfg : Cfg := ⟨impl_areSheaves_2.ctx, [], [], fun _ => ([], []), fun _ => []⟩
noncomputable def impl_areSheaves_2.code : Code := (Go.Proofs.Tryz.f139).body.getD .skip
noncomputable def impl_areSheaves_2.fin := finK impl_areSheaves_2.ctx impl_areSheaves_2.sig [.tmp 3]
noncomputable def impl_areSheaves_2.F (d : (List (List Int) × Int × List Int × List (Int × Int × Int × List Int)) × List (List (List Int) × Int × List Int × List (Int × Int × Int × List Int)) × Unit) : Option ((Bool × Unit) × (Unit)) := anyK (runFn impl_areSheaves_2.cfg impl_areSheaves_2.fin impl_areSheaves_2.code (initSt impl_areSheaves_2.sig.ps d 10))
noncomputable def impl_areSheaves_2.T (s_1 : List (List Int)) (s_2 : Int) (s_3 : List Int) (s_4 : List (Int × Int × Int × List Int)) (a_5 : List (List (List Int) × Int × List Int × List (Int × Int × Int × List Int))) : Option ((Bool × Unit) × (Unit)) :=
  if 0 ≤ (0 : Int) ∧ (0 : Int) < (a_5.length : Int) then
    (impl_related.F ((s_1, (s_2, (s_3, s_4))), a_5.getD (0 : Int).toNat (([] : List (List Int)), 0, ([] : List Int), ([] : List (Int × Int × Int × List Int))), ())).bind fun r6 =>
      some ((!(r6.1.1 : Bool), ()), ())
  else
    none
theorem impl_areSheaves_2.run (k : Nat) (s_1 : List (List Int)) (s_2 : Int) (s_3 : List Int) (s_4 : List (Int × Int × Int × List Int)) (a_5 : List (List (List Int) × Int × List Int × List (Int × Int × Int × List Int))) : runFn impl_areSheaves_2.cfg impl_areSheaves_2.fin impl_areSheaves_2.code (initSt impl_areSheaves_2.sig.ps ((s_1, (s_2, (s_3, s_4))), a_5, ()) 10) k = impl_areSheaves_2.T s_1 s_2 s_3 s_4 a_5 := by kernel_rfl
theorem impl_areSheaves_2.eq (s_1 : List (List Int)) (s_2 : Int) (s_3 : List Int) (s_4 : List (Int × Int × Int × List Int)) (a_5 : List (List (List Int) × Int × List Int × List (Int × Int × Int × List Int))) : impl_areSheaves_2.F ((s_1, (s_2, (s_3, s_4))), a_5, ()) = impl_areSheaves_2.T s_1 s_2 s_3 s_4 a_5 := (congrArg anyK (funext fun k => impl_areSheaves_2.run k s_1 s_2 s_3 s_4 a_5)).trans (anyK_const _)
theorem impl_areSheaves_2.ok : CtxOK Go.Proofs.Tryz.prog impl_areSheaves_2.ctx := ⟨List.forall_mem_nil _, mixed_ok, tab_ok tab_good, List.forall_mem_cons.2 ⟨impl_related.S, List.forall_mem_nil _⟩, List.forall_mem_nil _, List.forall_mem_nil _⟩
theorem impl_areSheaves_2.S : Sound Go.Proofs.Tryz.prog ⟨139, impl_areSheaves_2.sig, impl_areSheaves_2.F⟩ := sound_any (fn := Go.Proofs.Tryz.f139) (code := impl_areSheaves_2.code) (g := impl_areSheaves_2.cfg) (res := [.tmp 3]) Go.Proofs.Tryz.func139 (by kernel_rfl) (by kernel_rfl) impl_areSheaves_2.ok (by kernel_rfl) (by kernel_rfl) (Nat.le_of_ble_eq_true (by kernel_rfl)) (by kernel_rfl)
noncomputable def impl_areSheaves_2.cloG (y : List (List (List Int) × Int × List Int × List (Int × Int × Int × List Int)) × Unit) (d : (List (List Int) × Int × List Int × List (Int × Int × Int × List Int)) × Unit) : Option (Bool × Unit) := (impl_areSheaves_2.F (joinIns [.rptr (.sl TSheaf)] [(true, TSheaf)] d y)).map (·.1)
noncomputable def impl_areSheaves_2.clo : Clo := ⟨139, ⟨[(true, TSheaf)], [(.val false, .bool, .deep)]⟩, [.rptr (.sl TSheaf)], impl_areSheaves_2.cloG⟩
theorem impl_areSheaves_2.cloS : SoundClo Go.Proofs.Tryz.prog impl_areSheaves_2.clo := sound_clo (s := ⟨[(true, TSheaf)], [(.val false, .bool, .deep)]⟩) (caps := [.rptr (.sl TSheaf)]) rfl impl_areSheaves_2.S
/-! ### impl_areSheaves -/
noncomputable def impl_areSheaves.sig : Sig := ⟨[.val false (.sl TSheaf)], [(.val false, (.int .i64), .deep)]⟩
noncomputable def impl_areSheaves.ctx : Ctx := ⟨tabOf tabl, [⟨137, slices_ContainsFunc_Limpl_Sheaf_impl_Sheaf.sig, slices_ContainsFunc_Limpl_Sheaf_impl_Sheaf.F⟩], [impl_areSheaves_1.clo, impl_areSheaves_2.clo], [], [], []⟩
noncomputable def impl_areSheaves.cfg : Cfg := ⟨impl_areSheaves.ctx, [], [], fun _ => ([], []), fun _ => []⟩
noncomputable def impl_areSheaves.code : Code := (Go.Proofs.Tryz.f70).body.getD .skip
noncomputable def impl_areSheaves.fin := finK impl_areSheaves.ctx impl_areSheaves.sig [.tmp 2]
noncomputable def impl_areSheaves.F (d : List (List (List Int) × Int × List Int × List (Int × Int × Int × List Int)) × Unit) : Option ((Int × Unit) × (Unit)) := anyK (runFn impl_areSheaves.cfg impl_areSheaves.fin impl_areSheaves.code (initSt impl_areSheaves.sig.ps d 8))
noncomputable def impl_areSheaves.T (list_1 : List (List (List Int) × Int × List Int × List (Int × Int × Int × List Int))) : Option ((Int × Unit) × (Unit)) :=
  (slices_ContainsFunc_Limpl_Sheaf_impl_Sheaf.F (list_1, impl_areSheaves_1.cloG (()), ())).bind fun r2 =>
    if (r2.1.1 : Bool) = true then
      some (((1 : Int), ()), ())
    else
      (slices_ContainsFunc_Limpl_Sheaf_impl_Sheaf.F (list_1, impl_areSheaves_2.cloG (list_1, ()), ())).bind fun r3 =>
        if (r3.1.1 : Bool) = true then
          some (((6 : Int), ()), ())
        else
          some (((0 : Int), ()), ())
theorem impl_areSheaves.run (k : Nat) (list_1 : List (List (List Int) × Int × List Int × List (Int × Int × Int × List Int))) : runFn impl_areSheaves.cfg impl_areSheaves.fin impl_areSheaves.code (initSt impl_areSheaves.sig.ps (list_1, ()) 8) k = impl_areSheaves.T list_1 := by kernel_rfl
theorem impl_areSheaves.eq (list_1 : List (List (List Int) × Int × List Int × List (Int × Int × Int × List Int))) : impl_areSheaves.F (list_1, ()) = impl_areSheaves.T list_1 := (congrArg anyK (funext fun k => impl_areSheaves.run k list_1)).trans (anyK_const _)
theorem impl_areSheaves.ok : CtxOK Go.Proofs.Tryz.prog impl_areSheaves.ctx := ⟨List.forall_mem_nil _, mixed_ok, tab_ok tab_good, List.forall_mem_cons.2 ⟨slices_ContainsFunc_Limpl_Sheaf_impl_Sheaf.S, List.forall_mem_nil _⟩, List.forall_mem_cons.2 ⟨impl_areSheaves_1.cloS, List.forall_mem_cons.2 ⟨impl_areSheaves_2.cloS, List.forall_mem_nil _⟩⟩, List.forall_mem_nil _⟩
theorem impl_areSheaves.S : Sound Go.Proofs.Tryz.prog ⟨70, impl_areSheaves.sig, impl_areSheaves.F⟩ := sound_any (fn := Go.Proofs.Tryz.f70) (code := impl_areSheaves.code) (g := impl_areSheaves.cfg) (res := [.tmp 2]) Go.Proofs.Tryz.func70 (by kernel_rfl) (by kernel_rfl) impl_areSheaves.ok (by kernel_rfl) (by kernel_rfl) (Nat.le_of_ble_eq_true (by kernel_rfl)) (by kernel_rfl)
/-! ### impl_areParts -/
noncomputable def impl_areParts.sig : Sig := ⟨[.val true TSheaf, .val true TSheaf, .val false (.sl TMatrix)], [(.val false, .bool, .deep)]⟩
noncomputable def impl_areParts.ctx : Ctx := ⟨tabOf tabl, [⟨141, impl_isBetween.sig, impl_isBetween.F⟩], [], [], [], []⟩
noncomputable def impl_areParts.cfg : Cfg := ⟨impl_areParts.ctx, [], [], fun id => match id with | 4 => ([3, 4, 15, 16, 17], [12, 16]) | _ => ([], []), fun _ => []⟩
noncomputable def impl_areParts.code : Code := (Go.Proofs.Tryz.f71).body.getD .skip
noncomputable def impl_areParts.fin := finK impl_areParts.ctx impl_areParts.sig [.tmp 6]
noncomputable def impl_areParts.F (d : (List (List Int) × Int × List Int × List (Int × Int × Int × List Int)) × (List (List Int) × Int × List Int × List (Int × Int × Int × List Int)) × List (Int × Int × Int × List Int) × Unit) : Option ((Bool × Unit) × (Unit)) := anyK (runFn impl_areParts.cfg impl_areParts.fin impl_areParts.code (initSt impl_areParts.sig.ps d 38))
noncomputable def impl_areParts.l4 (k : Nat) (x10 : List (Int × Int × Int × List Int)) (i11 : Int) (i12 : Int) (x13 : List (List Int)) (i14 : Int) (x15 : List Int) (x16 : List (Int × Int × Int × List Int)) (x17 : List (List Int)) (i18 : Int) (x19 : List Int) (x20 : List (Int × Int × Int × List Int)) : Option ((Bool × Unit) × (Unit)) :=
  Go.Vm.runT impl_areParts.cfg impl_areParts.fin k [.inLoop (sub [1, 1, 0, 1, 0, 0] impl_areParts.code), .inBlock 0, .code (sub [1, 1, 1] impl_areParts.code)]
    ⟨[.dead, .dead, .dead, .ref 12 (.root 0), .ref 16 (.root 0), .dead, .dead, .dead, .dead, .dead, .dead, .dead, .dead, .dead, .dead, .val false [⟨(.sl TMatrix), .sh, x10⟩], .val false [⟨(.int .i64), .sh, i11⟩], .val false [⟨(.int .i64), .sh, i12⟩]] ++ deads 20, [(12, ⟨true, [⟨(.sl (.sl (.int .i64))), .sh, x13⟩, ⟨(.int .i64), .sh, i14⟩, ⟨(.sl (.int .i64)), .sh, x15⟩, ⟨(.sl TMatrix), .sh, x16⟩]⟩), (16, ⟨true, [⟨(.sl (.sl (.int .i64))), .sh, x17⟩, ⟨(.int .i64), .sh, i18⟩, ⟨(.sl (.int .i64)), .sh, x19⟩, ⟨(.sl TMatrix), .sh, x20⟩]⟩)]⟩
theorem impl_areParts.l4_eq (k : Nat) (x10 : List (Int × Int × Int × List Int)) (i11 : Int) (i12 : Int) (x13 : List (List Int)) (i14 : Int) (x15 : List Int) (x16 : List (Int × Int × Int × List Int)) (x17 : List (List Int)) (i18 : Int) (x19 : List Int) (x20 : List (Int × Int × Int × List Int)) : impl_areParts.l4 (k + 1) x10 i11 i12 x13 i14 x15 x16 x17 i18 x19 x20 =
  if (decide (i12 < i11)) = true then
    if 0 ≤ i12 ∧ i12 < (x10.length : Int) then
      if 0 ≤ i12 ∧ i12 < (x15.length : Int) then
        if 0 ≤ i12 ∧ i12 < (x19.length : Int) then
          (impl_isBetween.F (x10.getD i12.toNat (0, 0, 0, ([] : List Int)), i14, (x15.getD i12.toNat 0 : Int), (x19.getD i12.toNat 0 : Int), ())).bind fun r21 =>
            if (!(r21.1.1 : Bool)) = true then
              some ((false, ()), ())
            else
              impl_areParts.l4 k x10 i11 (IntKind.i64.wrap (i12 + (1 : Int))) x13 i14 x15 x16 x17 i18 x19 x20
        else
          none
      else
        none
    else
      none
  else
    some ((true, ()), ()) := by kernel_rfl
noncomputable def impl_areParts.T (k : Nat) (a_1 : List (List Int)) (a_2 : Int) (a_3 : List Int) (a_4 : List (Int × Int × Int × List Int)) (b_5 : List (List Int)) (b_6 : Int) (b_7 : List Int) (b_8 : List (Int × Int × Int × List Int)) (parts_9 : List (Int × Int × Int × List Int)) : Option ((Bool × Unit) × (Unit)) :=
  if ((parts_9.length : Int) != (a_3.length : Int)) = true then
    some ((false, ()), ())
  else
    impl_areParts.l4 k parts_9 (parts_9.length : Int) (0 : Int) a_1 a_2 a_3 a_4 b_5 b_6 b_7 b_8
theorem impl_areParts.run (k : Nat) (a_1 : List (List Int)) (a_2 : Int) (a_3 : List Int) (a_4 : List (Int × Int × Int × List Int)) (b_5 : List (List Int)) (b_6 : Int) (b_7 : List Int) (b_8 : List (Int × Int × Int × List Int)) (parts_9 : List (Int × Int × Int × List Int)) : runFn impl_areParts.cfg impl_areParts.fin impl_areParts.code (initSt impl_areParts.sig.ps ((a_1, (a_2, (a_3, a_4))), (b_5, (b_6, (b_7, b_8))), parts_9, ()) 38) k = impl_areParts.T k a_1 a_2 a_3 a_4 b_5 b_6 b_7 b_8 parts_9 := by kernel_rfl
theorem impl_areParts.of (a_1 : List (List Int)) (a_2 : Int) (a_3 : List Int) (a_4 : List (Int × Int × Int × List Int)) (b_5 : List (List Int)) (b_6 : Int) (b_7 : List Int) (b_8 : List (Int × Int × Int × List Int)) (parts_9 : List (Int × Int × Int × List Int)) {r : (Bool × Unit) × (Unit)} (h : Ev (fun k => impl_areParts.T k a_1 a_2 a_3 a_4 b_5 b_6 b_7 b_8 parts_9) r) : impl_areParts.F ((a_1, (a_2, (a_3, a_4))), (b_5, (b_6, (b_7, b_8))), parts_9, ()) = some r := Ev.run (fun k => impl_areParts.run k a_1 a_2 a_3 a_4 b_5 b_6 b_7 b_8 parts_9) h
theorem impl_areParts.ok : CtxOK Go.Proofs.Tryz.prog impl_areParts.ctx := ⟨List.forall_mem_nil _, mixed_ok, tab_ok tab_good, List.forall_mem_cons.2 ⟨impl_isBetween.S, List.forall_mem_nil _⟩, List.forall_mem_nil _, List.forall_mem_nil _⟩
theorem impl_areParts.S : Sound Go.Proofs.Tryz.prog ⟨71, impl_areParts.sig, impl_areParts.F⟩ := sound_any (fn := Go.Proofs.Tryz.f71) (code := impl_areParts.code) (g := impl_areParts.cfg) (res := [.tmp 6]) Go.Proofs.Tryz.func71 (by kernel_rfl) (by kernel_rfl) impl_areParts.ok (by kernel_rfl) (by kernel_rfl) (Nat.le_of_ble_eq_true (by kernel_rfl)) (by kernel_rfl)
/-! ### impl_wrongPart -/
noncomputable def impl_wrongPart.sig : Sig := ⟨[.val true TSheaf, .val true TSheaf, .val false (.sl TMatrix)], [(.val false, (.int .i64), .deep), (.val false, (.int .i64), .deep), (.val false, .bool, .deep)]⟩
noncomputable def impl_wrongPart.ctx : Ctx := ⟨tabOf tabl, [⟨101, impl_product.sig, impl_product.F⟩, ⟨109, impl_arrows.sig, impl_arrows.F⟩, ⟨142, impl_SameMatrix.sig, impl_SameMatrix.F⟩], [], [], [], []⟩
noncomputable def impl_wrongPart.cfg : Cfg := ⟨impl_wrongPart.ctx, [], [], fun id => match id with | 2 => ([2, 3, 4, 13, 14, 15], [12, 16, 52]) | _ => ([], []), fun _ => []⟩
noncomputable def impl_wrongPart.code : Code := (Go.Proofs.Tryz.f72).body.getD .skip
noncomputable def impl_wrongPart.fin := finK impl_wrongPart.ctx impl_wrongPart.sig [.tmp 6, .tmp 7, .tmp 8]
noncomputable def impl_wrongPart.F (d : (List (List Int) × Int × List Int × List (Int × Int × Int × List Int)) × (List (List Int) × Int × List Int × List (Int × Int × Int × List Int)) × List (Int × Int × Int × List Int) × Unit) : Option ((Int × Int × Bool × Unit) × (Unit)) := anyK (runFn impl_wrongPart.cfg impl_wrongPart.fin impl_wrongPart.code (initSt impl_wrongPart.sig.ps d 49))
noncomputable def impl_wrongPart.l2 (k : Nat) (x11 : List (Int × Int × Int × List Int)) (i12 : Int) (i13 : Int) (x14 : List (List Int)) (i15 : Int) (x16 : List Int) (x17 : List (Int × Int × Int × List Int)) (x18 : List (List Int)) (i19 : Int) (x20 : List Int) (x21 : List (Int × Int × Int × List Int)) (x22 : List (Int × Int × Int)) : Option ((Int × Int × Bool × Unit) × (Unit)) :=
  Go.Vm.runT impl_wrongPart.cfg impl_wrongPart.fin k [.inLoop (sub [1, 0, 1, 0, 0] impl_wrongPart.code), .inBlock 0, .code (sub [1, 1] impl_wrongPart.code)]
    ⟨[.dead, .dead, .val false [⟨(.sl TMatrix), .sh, x11⟩], .ref 12 (.root 0), .ref 16 (.root 0), .dead, .dead, .dead, .dead, .dead, .dead, .dead, .dead, .view 52 (.root 0) 1 false, .val false [⟨(.int .i64), .sh, i12⟩], .val false [⟨(.int .i64), .sh, i13⟩]] ++ deads 33, [(12, ⟨true, [⟨(.sl (.sl (.int .i64))), .sh, x14⟩, ⟨(.int .i64), .sh, i15⟩, ⟨(.sl (.int .i64)), .sh, x16⟩, ⟨(.sl TMatrix), .sh, x17⟩]⟩), (16, ⟨true, [⟨(.sl (.sl (.int .i64))), .sh, x18⟩, ⟨(.int .i64), .sh, i19⟩, ⟨(.sl (.int .i64)), .sh, x20⟩, ⟨(.sl TMatrix), .sh, x21⟩]⟩), (52, ⟨false, [⟨(.sl TEdge), .deep, x22⟩]⟩)]⟩
theorem impl_wrongPart.l2_eq (k : Nat) (x11 : List (Int × Int × Int × List Int)) (i12 : Int) (i13 : Int) (x14 : List (List Int)) (i15 : Int) (x16 : List Int) (x17 : List (Int × Int × Int × List Int)) (x18 : List (List Int)) (i19 : Int) (x20 : List Int) (x21 : List (Int × Int × Int × List Int)) (x22 : List (Int × Int × Int)) : impl_wrongPart.l2 (k + 1) x11 i12 i13 x14 i15 x16 x17 x18 i19 x20 x21 x22 =
  if (decide (i13 < i12)) = true then
    if 0 ≤ i13 ∧ i13 < (x22.length : Int) then
      if 0 ≤ i13 ∧ i13 < (x21.length : Int) then
        if 0 ≤ (((x22.getD i13.toNat (0, 0, 0)).2).2 : Int) ∧ (((x22.getD i13.toNat (0, 0, 0)).2).2 : Int) < (x11.length : Int) then
          (impl_product.F (x21.getD i13.toNat (0, 0, 0, ([] : List Int)), x11.getD (((x22.getD i13.toNat (0, 0, 0)).2).2 : Int).toNat (0, 0, 0, ([] : List Int)), ())).bind fun r23 =>
            if 0 ≤ ((x22.getD i13.toNat (0, 0, 0)).1 : Int) ∧ ((x22.getD i13.toNat (0, 0, 0)).1 : Int) < (x11.length : Int) then
              if 0 ≤ i13 ∧ i13 < (x17.length : Int) then
                (impl_product.F (x11.getD ((x22.getD i13.toNat (0, 0, 0)).1 : Int).toNat (0, 0, 0, ([] : List Int)), x17.getD i13.toNat (0, 0, 0, ([] : List Int)), ())).bind fun r24 =>
                  (impl_SameMatrix.F (r23.1.1, r24.1.1, ())).bind fun r25 =>
                    if (!(r25.1.1 : Bool)) = true then
                      some ((((x22.getD i13.toNat (0, 0, 0)).1 : Int), ((((x22.getD i13.toNat (0, 0, 0)).2).1 : Int), (true, ()))), ())
                    else
                      impl_wrongPart.l2 k x11 i12 (IntKind.i64.wrap (i13 + (1 : Int))) x14 i15 x16 x17 x18 i19 x20 x21 x22
              else
                none
            else
              none
        else
          none
      else
        none
    else
      none
  else
    some (((0 : Int), ((0 : Int), (false, ()))), ()) := by kernel_rfl
noncomputable def impl_wrongPart.T (k : Nat) (a_1 : List (List Int)) (a_2 : Int) (a_3 : List Int) (a_4 : List (Int × Int × Int × List Int)) (b_5 : List (List Int)) (b_6 : Int) (b_7 : List Int) (b_8 : List (Int × Int × Int × List Int)) (parts_9 : List (Int × Int × Int × List Int)) : Option ((Int × Int × Bool × Unit) × (Unit)) :=
  (impl_arrows.F (a_1, ())).bind fun r10 =>
    impl_wrongPart.l2 k parts_9 (r10.1.1.length : Int) (0 : Int) a_1 a_2 a_3 a_4 b_5 b_6 b_7 b_8 r10.1.1
theorem impl_wrongPart.run (k : Nat) (a_1 : List (List Int)) (a_2 : Int) (a_3 : List Int) (a_4 : List (Int × Int × Int × List Int)) (b_5 : List (List Int)) (b_6 : Int) (b_7 : List Int) (b_8 : List (Int × Int × Int × List Int)) (parts_9 : List (Int × Int × Int × List Int)) : runFn impl_wrongPart.cfg impl_wrongPart.fin impl_wrongPart.code (initSt impl_wrongPart.sig.ps ((a_1, (a_2, (a_3, a_4))), (b_5, (b_6, (b_7, b_8))), parts_9, ()) 49) k = impl_wrongPart.T k a_1 a_2 a_3 a_4 b_5 b_6 b_7 b_8 parts_9 := by kernel_rfl
theorem impl_wrongPart.of (a_1 : List (List Int)) (a_2 : Int) (a_3 : List Int) (a_4 : List (Int × Int × Int × List Int)) (b_5 : List (List Int)) (b_6 : Int) (b_7 : List Int) (b_8 : List (Int × Int × Int × List Int)) (parts_9 : List (Int × Int × Int × List Int)) {r : (Int × Int × Bool × Unit) × (Unit)} (h : Ev (fun k => impl_wrongPart.T k a_1 a_2 a_3 a_4 b_5 b_6 b_7 b_8 parts_9) r) : impl_wrongPart.F ((a_1, (a_2, (a_3, a_4))), (b_5, (b_6, (b_7, b_8))), parts_9, ()) = some r := Ev.run (fun k => impl_wrongPart.run k a_1 a_2 a_3 a_4 b_5 b_6 b_7 b_8 parts_9) h
theorem impl_wrongPart.ok : CtxOK Go.Proofs.Tryz.prog impl_wrongPart.ctx := ⟨List.forall_mem_nil _, mixed_ok, tab_ok tab_good, List.forall_mem_cons.2 ⟨impl_product.S, List.forall_mem_cons.2 ⟨impl_arrows.S, List.forall_mem_cons.2 ⟨impl_SameMatrix.S, List.forall_mem_nil _⟩⟩⟩, List.forall_mem_nil _, List.forall_mem_nil _⟩
theorem impl_wrongPart.S : Sound Go.Proofs.Tryz.prog ⟨72, impl_wrongPart.sig, impl_wrongPart.F⟩ := sound_any (fn := Go.Proofs.Tryz.f72) (code := impl_wrongPart.code) (g := impl_wrongPart.cfg) (res := [.tmp 6, .tmp 7, .tmp 8]) Go.Proofs.Tryz.func72 (by kernel_rfl) (by kernel_rfl) impl_wrongPart.ok (by kernel_rfl) (by kernel_rfl) (Nat.le_of_ble_eq_true (by kernel_rfl)) (by kernel_rfl)
/-! ### impl_isMorphism -/
noncomputable def impl_isMorphism.sig : Sig := ⟨[.val true TSheaf, .val true TSheaf, .val false (.sl TMatrix)], [(.val false, .bool, .deep)]⟩
noncomputable def impl_isMorphism.ctx : Ctx := ⟨tabOf tabl, [⟨71, impl_areParts.sig, impl_areParts.F⟩, ⟨72, impl_wrongPart.sig, impl_wrongPart.F⟩], [], [], [], []⟩
noncomputable def impl_isMorphism.cfg : Cfg := ⟨impl_isMorphism.ctx, [], [], fun _ => ([], []), fun _ => []⟩
noncomputable def impl_isMorphism.code : Code := (Go.Proofs.Tryz.f100).body.getD .skip
noncomputable def impl_isMorphism.fin := finK impl_isMorphism.ctx impl_isMorphism.sig [.tmp 6]
noncomputable def impl_isMorphism.F (d : (List (List Int) × Int × List Int × List (Int × Int × Int × List Int)) × (List (List Int) × Int × List Int × List (Int × Int × Int × List Int)) × List (Int × Int × Int × List Int) × Unit) : Option ((Bool × Unit) × (Unit)) := anyK (runFn impl_isMorphism.cfg impl_isMorphism.fin impl_isMorphism.code (initSt impl_isMorphism.sig.ps d 25))
noncomputable def impl_isMorphism.T (a_1 : List (List Int)) (a_2 : Int) (a_3 : List Int) (a_4 : List (Int × Int × Int × List Int)) (b_5 : List (List Int)) (b_6 : Int) (b_7 : List Int) (b_8 : List (Int × Int × Int × List Int)) (parts_9 : List (Int × Int × Int × List Int)) : Option ((Bool × Unit) × (Unit)) :=
  (impl_areParts.F ((a_1, (a_2, (a_3, a_4))), (b_5, (b_6, (b_7, b_8))), parts_9, ())).bind fun r10 =>
    if (!(r10.1.1 : Bool)) = true then
      some ((false, ()), ())
    else
      (impl_wrongPart.F ((a_1, (a_2, (a_3, a_4))), (b_5, (b_6, (b_7, b_8))), parts_9, ())).bind fun r11 =>
        some ((!(r11.1.2.2.1 : Bool), ()), ())
theorem impl_isMorphism.run (k : Nat) (a_1 : List (List Int)) (a_2 : Int) (a_3 : List Int) (a_4 : List (Int × Int × Int × List Int)) (b_5 : List (List Int)) (b_6 : Int) (b_7 : List Int) (b_8 : List (Int × Int × Int × List Int)) (parts_9 : List (Int × Int × Int × List Int)) : runFn impl_isMorphism.cfg impl_isMorphism.fin impl_isMorphism.code (initSt impl_isMorphism.sig.ps ((a_1, (a_2, (a_3, a_4))), (b_5, (b_6, (b_7, b_8))), parts_9, ()) 25) k = impl_isMorphism.T a_1 a_2 a_3 a_4 b_5 b_6 b_7 b_8 parts_9 := by kernel_rfl
theorem impl_isMorphism.eq (a_1 : List (List Int)) (a_2 : Int) (a_3 : List Int) (a_4 : List (Int × Int × Int × List Int)) (b_5 : List (List Int)) (b_6 : Int) (b_7 : List Int) (b_8 : List (Int × Int × Int × List Int)) (parts_9 : List (Int × Int × Int × List Int)) : impl_isMorphism.F ((a_1, (a_2, (a_3, a_4))), (b_5, (b_6, (b_7, b_8))), parts_9, ()) = impl_isMorphism.T a_1 a_2 a_3 a_4 b_5 b_6 b_7 b_8 parts_9 := (congrArg anyK (funext fun k => impl_isMorphism.run k a_1 a_2 a_3 a_4 b_5 b_6 b_7 b_8 parts_9)).trans (anyK_const _)
theorem impl_isMorphism.ok : CtxOK Go.Proofs.Tryz.prog impl_isMorphism.ctx := ⟨List.forall_mem_nil _, mixed_ok, tab_ok tab_good, List.forall_mem_cons.2 ⟨impl_areParts.S, List.forall_mem_cons.2 ⟨impl_wrongPart.S, List.forall_mem_nil _⟩⟩, List.forall_mem_nil _, List.forall_mem_nil _⟩
theorem impl_isMorphism.S : Sound Go.Proofs.Tryz.prog ⟨100, impl_isMorphism.sig, impl_isMorphism.F⟩ := sound_any (fn := Go.Proofs.Tryz.f100) (code := impl_isMorphism.code) (g := impl_isMorphism.cfg) (res := [.tmp 6]) Go.Proofs.Tryz.func100 (by kernel_rfl) (by kernel_rfl) impl_isMorphism.ok (by kernel_rfl) (by kernel_rfl) (Nat.le_of_ble_eq_true (by kernel_rfl)) (by kernel_rfl)
/-! ### impl_addTimes -/
noncomputable def impl_addTimes.sig : Sig := ⟨[.val false (.sl (.int .i64)), .val false (.sl (.int .i64)), .val false (.int .i64), .val false (.int .i64)], [(.val false, (.sl (.int .i64)), .deep)]⟩
noncomputable def impl_addTimes.ctx : Ctx := ⟨tabOf tabl, [], [], [], [], []⟩
noncomputable def impl_addTimes.cfg : Cfg := ⟨impl_addTimes.ctx, [], [], fun id => match id with | 3 => ([0, 1, 2, 3, 9, 12, 13], [36]) | _ => ([], []), fun _ => []⟩
noncomputable def impl_addTimes.code : Code := (Go.Proofs.Tryz.f179).body.getD .skip
noncomputable def impl_addTimes.fin := finK impl_addTimes.ctx impl_addTimes.sig [.tmp 8]
noncomputable def impl_addTimes.F (d : List Int × List Int × Int × Int × Unit) : Option ((List Int × Unit) × (Unit)) := anyK (runFn impl_addTimes.cfg impl_addTimes.fin impl_addTimes.code (initSt impl_addTimes.sig.ps d 34))
noncomputable def impl_addTimes.l3 (k : Nat) (x5 : List Int) (x6 : List Int) (i7 : Int) (i8 : Int) (i9 : Int) (i10 : Int) (x11 : List Int) : Option ((List Int × Unit) × (Unit)) :=
  Go.Vm.runT impl_addTimes.cfg impl_addTimes.fin k [.inLoop (sub [1, 1, 0, 1, 0, 0] impl_addTimes.code), .inBlock 0, .code (sub [1, 1, 1] impl_addTimes.code)]
    ⟨[.val false [⟨(.sl (.int .i64)), .sh, x5⟩], .val false [⟨(.sl (.int .i64)), .sh, x6⟩], .val false [⟨(.int .i64), .sh, i7⟩], .val false [⟨(.int .i64), .sh, i8⟩], .dead, .dead, .dead, .dead, .dead, .view 36 (.root 0) 1 false, .dead, .dead, .val false [⟨(.int .i64), .sh, i9⟩], .val false [⟨(.int .i64), .sh, i10⟩]] ++ deads 20, [(36, ⟨false, [⟨(.sl (.int .i64)), .deep, x11⟩]⟩)]⟩
theorem impl_addTimes.l3_eq (k : Nat) (x5 : List Int) (x6 : List Int) (i7 : Int) (i8 : Int) (i9 : Int) (i10 : Int) (x11 : List Int) : impl_addTimes.l3 (k + 1) x5 x6 i7 i8 i9 i10 x11 =
  if (decide (i10 < i9)) = true then
    if 0 ≤ i10 ∧ i10 < (x5.length : Int) then
      if 0 ≤ i10 ∧ i10 < (x6.length : Int) then
        if i8 = 0 then
          none
        else
          if x11.length + ([(IntKind.i64.wrap ((x5.getD i10.toNat 0 : Int) + (IntKind.i64.wrap (i7 * (x6.getD i10.toNat 0 : Int))))).tmod i8] : List Int).length ≤ bigA then
            impl_addTimes.l3 k x5 x6 i7 i8 i9 (IntKind.i64.wrap (i10 + (1 : Int))) (x11 ++ ([(IntKind.i64.wrap ((x5.getD i10.toNat 0 : Int) + (IntKind.i64.wrap (i7 * (x6.getD i10.toNat 0 : Int))))).tmod i8]))
          else
            none
      else
        none
    else
      none
  else
    some ((x11, ()), ()) := by kernel_rfl
noncomputable def impl_addTimes.T (k : Nat) (a_1 : List Int) (b_2 : List Int) (c_3 : Int) (p_4 : Int) : Option ((List Int × Unit) × (Unit)) :=
  impl_addTimes.l3 k a_1 b_2 c_3 p_4 (a_1.length : Int) (0 : Int) ([])
theorem impl_addTimes.run (k : Nat) (a_1 : List Int) (b_2 : List Int) (c_3 : Int) (p_4 : Int) : runFn impl_addTimes.cfg impl_addTimes.fin impl_addTimes.code (initSt impl_addTimes.sig.ps (a_1, b_2, c_3, p_4, ()) 34) k = impl_addTimes.T k a_1 b_2 c_3 p_4 := by kernel_rfl
theorem impl_addTimes.of (a_1 : List Int) (b_2 : List Int) (c_3 : Int) (p_4 : Int) {r : (List Int × Unit) × (Unit)} (h : Ev (fun k => impl_addTimes.T k a_1 b_2 c_3 p_4) r) : impl_addTimes.F (a_1, b_2, c_3, p_4, ()) = some r := Ev.run (fun k => impl_addTimes.run k a_1 b_2 c_3 p_4) h
theorem impl_addTimes.ok : CtxOK Go.Proofs.Tryz.prog impl_addTimes.ctx := ⟨List.forall_mem_nil _, mixed_ok, tab_ok tab_good, List.forall_mem_nil _, List.forall_mem_nil _, List.forall_mem_nil _⟩
theorem impl_addTimes.S : Sound Go.Proofs.Tryz.prog ⟨179, impl_addTimes.sig, impl_addTimes.F⟩ := sound_any (fn := Go.Proofs.Tryz.f179) (code := impl_addTimes.code) (g := impl_addTimes.cfg) (res := [.tmp 8]) Go.Proofs.Tryz.func179 (by kernel_rfl) (by kernel_rfl) impl_addTimes.ok (by kernel_rfl) (by kernel_rfl) (Nat.le_of_ble_eq_true (by kernel_rfl)) (by kernel_rfl)
/-! ### impl_sum -/
noncomputable def impl_sum.sig : Sig := ⟨[.val true TMatrix, .val true TMatrix, .val false (.int .i64)], [(.val true, TMatrix, .deep)]⟩
noncomputable def impl_sum.ctx : Ctx := ⟨tabOf tabl, [⟨179, impl_addTimes.sig, impl_addTimes.F⟩], [], [], [], []⟩
noncomputable def impl_sum.cfg : Cfg := ⟨impl_sum.ctx, [], [], fun _ => ([], []), fun _ => []⟩
noncomputable def impl_sum.code : Code := (Go.Proofs.Tryz.f104).body.getD .skip
noncomputable def impl_sum.fin := finK impl_sum.ctx impl_sum.sig [.cell 6 65]
noncomputable def impl_sum.F (d : (Int × Int × Int × List Int) × (Int × Int × Int × List Int) × Int × Unit) : Option (((Int × Int × Int × List Int) × Unit) × (Unit)) := anyK (runFn impl_sum.cfg impl_sum.fin impl_sum.code (initSt impl_sum.sig.ps d 17))
noncomputable def impl_sum.T (a_1 : Int) (a_2 : Int) (a_3 : Int) (a_4 : List Int) (b_5 : Int) (b_6 : Int) (b_7 : Int) (b_8 : List Int) (c_9 : Int) : Option (((Int × Int × Int × List Int) × Unit) × (Unit)) :=
  (impl_addTimes.F (a_4, b_8, c_9, a_1, ())).bind fun r10 =>
    some (((a_1, (a_2, (a_3, r10.1.1))), ()), ())
theorem impl_sum.run (k : Nat) (a_1 : Int) (a_2 : Int) (a_3 : Int) (a_4 : List Int) (b_5 : Int) (b_6 : Int) (b_7 : Int) (b_8 : List Int) (c_9 : Int) : runFn impl_sum.cfg impl_sum.fin impl_sum.code (initSt impl_sum.sig.ps ((a_1, (a_2, (a_3, a_4))), (b_5, (b_6, (b_7, b_8))), c_9, ()) 17) k = impl_sum.T a_1 a_2 a_3 a_4 b_5 b_6 b_7 b_8 c_9 := by kernel_rfl
theorem impl_sum.eq (a_1 : Int) (a_2 : Int) (a_3 : Int) (a_4 : List Int) (b_5 : Int) (b_6 : Int) (b_7 : Int) (b_8 : List Int) (c_9 : Int) : impl_sum.F ((a_1, (a_2, (a_3, a_4))), (b_5, (b_6, (b_7, b_8))), c_9, ()) = impl_sum.T a_1 a_2 a_3 a_4 b_5 b_6 b_7 b_8 c_9 := (congrArg anyK (funext fun k => impl_sum.run k a_1 a_2 a_3 a_4 b_5 b_6 b_7 b_8 c_9)).trans (anyK_const _)
theorem impl_sum.ok : CtxOK Go.Proofs.Tryz.prog impl_sum.ctx := ⟨List.forall_mem_nil _, mixed_ok, tab_ok tab_good, List.forall_mem_cons.2 ⟨impl_addTimes.S, List.forall_mem_nil _⟩, List.forall_mem_nil _, List.forall_mem_nil _⟩
theorem impl_sum.S : Sound Go.Proofs.Tryz.prog ⟨104, impl_sum.sig, impl_sum.F⟩ := sound_any (fn := Go.Proofs.Tryz.f104) (code := impl_sum.code) (g := impl_sum.cfg) (res := [.cell 6 65]) Go.Proofs.Tryz.func104 (by kernel_rfl) (by kernel_rfl) impl_sum.ok (by kernel_rfl) (by kernel_rfl) (Nat.le_of_ble_eq_true (by kernel_rfl)) (by kernel_rfl)
/-! ### impl_AddMorphisms -/
noncomputable def impl_AddMorphisms.sig : Sig := ⟨[.val true TSheaf, .val true TSheaf, .val false (.sl TMatrix), .val false (.sl TMatrix)], [(.val false, (.sl TMatrix), .deep), (.val false, (.int .i64), .deep)]⟩
noncomputable def impl_AddMorphisms.ctx : Ctx := ⟨tabOf tabl, [⟨70, impl_areSheaves.sig, impl_areSheaves.F⟩, ⟨100, impl_isMorphism.sig, impl_isMorphism.F⟩, ⟨104, impl_sum.sig, impl_sum.F⟩], [], [], [], []⟩
noncomputable def impl_AddMorphisms.cfg : Cfg := ⟨impl_AddMorphisms.ctx, [], [], fun id => match id with | 8 => ([2, 3, 11, 33, 34], [44]) | _ => ([], []), fun _ => []⟩
noncomputable def impl_AddMorphisms.code : Code := (Go.Proofs.Tryz.f51).body.getD .skip
noncomputable def impl_AddMorphisms.fin := finK impl_AddMorphisms.ctx impl_AddMorphisms.sig [.tmp 8, .tmp 9]
noncomputable def impl_AddMorphisms.F (d : (List (List Int) × Int × List Int × List (Int × Int × Int × List Int)) × (List (List Int) × Int × List Int × List (Int × Int × Int × List Int)) × List (Int × Int × Int × List Int) × List (Int × Int × Int × List Int) × Unit) : Option ((List (Int × Int × Int × List Int) × Int × Unit) × (Unit)) := anyK (runFn impl_AddMorphisms.cfg impl_AddMorphisms.fin impl_AddMorphisms.code (initSt impl_AddMorphisms.sig.ps d 51))
noncomputable def impl_AddMorphisms.l8 (k : Nat) (x14 : List (Int × Int × Int × List Int)) (x15 : List (Int × Int × Int × List Int)) (i16 : Int) (i17 : Int) (x18 : List (Int × Int × Int × List Int)) : Option ((List (Int × Int × Int × List Int) × Int × Unit) × (Unit)) :=
  Go.Vm.runT impl_AddMorphisms.cfg impl_AddMorphisms.fin k [.inLoop (sub [1, 1, 1, 1, 0, 1, 0, 0] impl_AddMorphisms.code), .inBlock 0, .code (sub [1, 1, 1, 1, 1] impl_AddMorphisms.code)]
    ⟨[.dead, .dead, .val false [⟨(.sl TMatrix), .sh, x14⟩], .val false [⟨(.sl TMatrix), .sh, x15⟩], .dead, .dead, .dead, .dead, .dead, .dead, .dead, .view 44 (.root 0) 1 false, .dead, .dead, .dead, .dead, .dead, .dead, .dead, .dead, .dead, .dead, .dead, .dead, .dead, .dead, .dead, .dead, .dead, .dead, .dead, .dead, .dead, .val false [⟨(.int .i64), .sh, i16⟩], .val false [⟨(.int .i64), .sh, i17⟩]] ++ deads 16, [(44, ⟨false, [⟨(.sl TMatrix), .deep, x18⟩]⟩)]⟩
theorem impl_AddMorphisms.l8_eq (k : Nat) (x14 : List (Int × Int × Int × List Int)) (x15 : List (Int × Int × Int × List Int)) (i16 : Int) (i17 : Int) (x18 : List (Int × Int × Int × List Int)) : impl_AddMorphisms.l8 (k + 1) x14 x15 i16 i17 x18 =
  if (decide (i17 < i16)) = true then
    if 0 ≤ i17 ∧ i17 < (x14.length : Int) then
      if 0 ≤ i17 ∧ i17 < (x15.length : Int) then
        (impl_sum.F (x14.getD i17.toNat (0, 0, 0, ([] : List Int)), x15.getD i17.toNat (0, 0, 0, ([] : List Int)), (1 : Int), ())).bind fun r19 =>
          if x18.length + ([r19.1.1] : List (Int × Int × Int × List Int)).length ≤ bigA then
            impl_AddMorphisms.l8 k x14 x15 i16 (IntKind.i64.wrap (i17 + (1 : Int))) (x18 ++ ([r19.1.1]))
          else
            none
      else
        none
    else
      none
  else
    some ((x18, ((0 : Int), ())), ()) := by kernel_rfl
noncomputable def impl_AddMorphisms.T (k : Nat) (a_1 : List (List Int)) (a_2 : Int) (a_3 : List Int) (a_4 : List (Int × Int × Int × List Int)) (b_5 : List (List Int)) (b_6 : Int) (b_7 : List Int) (b_8 : List (Int × Int × Int × List Int)) (f_9 : List (Int × Int × Int × List Int)) (g_10 : List (Int × Int × Int × List Int)) : Option ((List (Int × Int × Int × List Int) × Int × Unit) × (Unit)) :=
  (impl_areSheaves.F ([(a_1, (a_2, (a_3, a_4))), (b_5, (b_6, (b_7, b_8)))], ())).bind fun r11 =>
    if ((r11.1.1 : Int) != (0 : Int)) = true then
      some (([], ((r11.1.1 : Int), ())), ())
    else
      (impl_isMorphism.F ((a_1, (a_2, (a_3, a_4))), (b_5, (b_6, (b_7, b_8))), f_9, ())).bind fun r12 =>
        if (!(r12.1.1 : Bool)) = true then
          some (([], ((7 : Int), ())), ())
        else
          (impl_isMorphism.F ((a_1, (a_2, (a_3, a_4))), (b_5, (b_6, (b_7, b_8))), g_10, ())).bind fun r13 =>
            if (!(r13.1.1 : Bool)) = true then
              some (([], ((7 : Int), ())), ())
            else
              impl_AddMorphisms.l8 k f_9 g_10 (f_9.length : Int) (0 : Int) ([])
theorem impl_AddMorphisms.run (k : Nat) (a_1 : List (List Int)) (a_2 : Int) (a_3 : List Int) (a_4 : List (Int × Int × Int × List Int)) (b_5 : List (List Int)) (b_6 : Int) (b_7 : List Int) (b_8 : List (Int × Int × Int × List Int)) (f_9 : List (Int × Int × Int × List Int)) (g_10 : List (Int × Int × Int × List Int)) : runFn impl_AddMorphisms.cfg impl_AddMorphisms.fin impl_AddMorphisms.code (initSt impl_AddMorphisms.sig.ps ((a_1, (a_2, (a_3, a_4))), (b_5, (b_6, (b_7, b_8))), f_9, g_10, ()) 51) k = impl_AddMorphisms.T k a_1 a_2 a_3 a_4 b_5 b_6 b_7 b_8 f_9 g_10 := by kernel_rfl
theorem impl_AddMorphisms.of (a_1 : List (List Int)) (a_2 : Int) (a_3 : List Int) (a_4 : List (Int × Int × Int × List Int)) (b_5 : List (List Int)) (b_6 : Int) (b_7 : List Int) (b_8 : List (Int × Int × Int × List Int)) (f_9 : List (Int × Int × Int × List Int)) (g_10 : List (Int × Int × Int × List Int)) {r : (List (Int × Int × Int × List Int) × Int × Unit) × (Unit)} (h : Ev (fun k => impl_AddMorphisms.T k a_1 a_2 a_3 a_4 b_5 b_6 b_7 b_8 f_9 g_10) r) : impl_AddMorphisms.F ((a_1, (a_2, (a_3, a_4))), (b_5, (b_6, (b_7, b_8))), f_9, g_10, ()) = some r := Ev.run (fun k => impl_AddMorphisms.run k a_1 a_2 a_3 a_4 b_5 b_6 b_7 b_8 f_9 g_10) h
theorem impl_AddMorphisms.ok : CtxOK Go.Proofs.Tryz.prog impl_AddMorphisms.ctx := ⟨List.forall_mem_nil _, mixed_ok, tab_ok tab_good, List.forall_mem_cons.2 ⟨impl_areSheaves.S, List.forall_mem_cons.2 ⟨impl_isMorphism.S, List.forall_mem_cons.2 ⟨impl_sum.S, List.forall_mem_nil _⟩⟩⟩, List.forall_mem_nil _, List.forall_mem_nil _⟩
theorem impl_AddMorphisms.S : Sound Go.Proofs.Tryz.prog ⟨51, impl_AddMorphisms.sig, impl_AddMorphisms.F⟩ := sound_any (fn := Go.Proofs.Tryz.f51) (code := impl_AddMorphisms.code) (g := impl_AddMorphisms.cfg) (res := [.tmp 8, .tmp 9]) Go.Proofs.Tryz.func51 (by kernel_rfl) (by kernel_rfl) impl_AddMorphisms.ok (by kernel_rfl) (by kernel_rfl) (Nat.le_of_ble_eq_true (by kernel_rfl)) (by kernel_rfl)
/-! ### laws_FnExactAddMorphisms -/
noncomputable def laws_FnExactAddMorphisms.sig : Sig := ⟨[.val true TSheaf, .val true TSheaf, .val false (.sl TMatrix), .val false (.sl TMatrix)], [(.val false, .bool, .deep)]⟩
noncomputable def laws_FnExactAddMorphisms.ctx : Ctx := ⟨tabOf tabl, [⟨19, laws_szSheaf.sig, laws_szSheaf.F⟩, ⟨20, laws_szMatrixS.sig, laws_szMatrixS.F⟩, ⟨22, laws_toSheaf.sig, laws_toSheaf.F⟩, ⟨23, laws_toMatrixS.sig, laws_toMatrixS.F⟩, ⟨25, laws_eqSheaf.sig, laws_eqSheaf.F⟩, ⟨26, laws_eqMatrixS.sig, laws_eqMatrixS.F⟩, ⟨29, laws_markSheaf.sig, laws_markSheaf.F⟩, ⟨30, laws_markMatrixS.sig, laws_markMatrixS.F⟩, ⟨31, laws_heldMatrixS.sig, laws_heldMatrixS.F⟩, ⟨50, spec_AddMorphisms.sig, spec_AddMorphisms.F⟩, ⟨51, impl_AddMorphisms.sig, impl_AddMorphisms.F⟩], [], [], [], [10, 21]⟩
noncomputable def laws_FnExactAddMorphisms.cfg : Cfg := ⟨laws_FnExactAddMorphisms.ctx, [], [], fun _ => ([], []), fun _ => []⟩
noncomputable def laws_FnExactAddMorphisms.code : Code := (Go.Proofs.Tryz.f9).body.getD .skip
noncomputable def laws_FnExactAddMorphisms.fin := finK laws_FnExactAddMorphisms.ctx laws_FnExactAddMorphisms.sig [.tmp 8]
noncomputable def laws_FnExactAddMorphisms.F (d : (List (List Int) × Int × List Int × List (Int × Int × Int × List Int)) × (List (List Int) × Int × List Int × List (Int × Int × Int × List Int)) × List (Int × Int × Int × List Int) × List (Int × Int × Int × List Int) × Unit) : Option ((Bool × Unit) × (Unit)) := anyK (runFn laws_FnExactAddMorphisms.cfg laws_FnExactAddMorphisms.fin laws_FnExactAddMorphisms.code (initSt laws_FnExactAddMorphisms.sig.ps d 165))
noncomputable def laws_FnExactAddMorphisms.T (toArray_1 : List (List Int)) (toArray_2 : Int) (toArray_3 : List Int) (toArray_4 : List (Int × Int × Int × List Int)) (a_5 : List (List Int)) (a_6 : Int) (a_7 : List Int) (a_8 : List (Int × Int × Int × List Int)) (a_9 : List (Int × Int × Int × List Int)) (a_10 : List (Int × Int × Int × List Int)) : Option ((Bool × Unit) × (Unit)) :=
  (laws_szSheaf.F ((toArray_1, (toArray_2, (toArray_3, toArray_4))), (1048576 : Int), ())).bind fun r11 =>
    if (decide ((r11.1.1 : Int) < (0 : Int))) = true then
      some ((true, ()), ())
    else
      (laws_szSheaf.F ((a_5, (a_6, (a_7, a_8))), (r11.1.1 : Int), ())).bind fun r12 =>
        if (decide ((r12.1.1 : Int) < (0 : Int))) = true then
          some ((true, ()), ())
        else
          (laws_szMatrixS.F (a_9, (r12.1.1 : Int), ())).bind fun r13 =>
            if (decide ((r13.1.1 : Int) < (0 : Int))) = true then
              some ((true, ()), ())
            else
              (laws_szMatrixS.F (a_10, (r13.1.1 : Int), ())).bind fun r14 =>
                if (decide ((r14.1.1 : Int) < (0 : Int))) = true then
                  some ((true, ()), ())
                else
                  (laws_toSheaf.F ((toArray_1, (toArray_2, (toArray_3, toArray_4))), ())).bind fun r15 =>
                    (laws_toSheaf.F ((a_5, (a_6, (a_7, a_8))), ())).bind fun r16 =>
                      (laws_toMatrixS.F (a_9, ())).bind fun r17 =>
                        (laws_toMatrixS.F (a_10, ())).bind fun r18 =>
                          (spec_AddMorphisms.F (r15.1.1, r16.1.1, r17.1.1, r18.1.1, ())).bind fun r19 =>
                            (laws_toSheaf.F ((toArray_1, (toArray_2, (toArray_3, toArray_4))), ())).bind fun r20 =>
                              (laws_toSheaf.F ((a_5, (a_6, (a_7, a_8))), ())).bind fun r21 =>
                                (laws_toMatrixS.F (a_9, ())).bind fun r22 =>
                                  (laws_toMatrixS.F (a_10, ())).bind fun r23 =>
                                    (impl_AddMorphisms.F (r20.1.1, r21.1.1, r22.1.1, r23.1.1, ())).bind fun r24 =>
                                      (laws_eqMatrixS.F (r24.1.1, r19.1.1, ())).bind fun r25 =>
                                        if (!(r25.1.1 : Bool)) = true then
                                          some ((false, ()), ())
                                        else
                                          if ((r24.1.2.1 : Int) != (r19.1.2.1 : Int)) = true then
                                            some ((false, ()), ())
                                          else
                                            (laws_toSheaf.F ((toArray_1, (toArray_2, (toArray_3, toArray_4))), ())).bind fun r26 =>
                                              (laws_eqSheaf.F (r20.1.1, r26.1.1, ())).bind fun r27 =>
                                                if (!(r27.1.1 : Bool)) = true then
                                                  some ((false, ()), ())
                                                else
                                                  (laws_toSheaf.F ((a_5, (a_6, (a_7, a_8))), ())).bind fun r28 =>
                                                    (laws_eqSheaf.F (r21.1.1, r28.1.1, ())).bind fun r29 =>
                                                      if (!(r29.1.1 : Bool)) = true then
                                                        some ((false, ()), ())
                                                      else
                                                        (laws_toMatrixS.F (a_9, ())).bind fun r30 =>
                                                          (laws_eqMatrixS.F (r22.1.1, r30.1.1, ())).bind fun r31 =>
                                                            if (!(r31.1.1 : Bool)) = true then
                                                              some ((false, ()), ())
                                                            else
                                                              (laws_toMatrixS.F (a_10, ())).bind fun r32 =>
                                                                (laws_eqMatrixS.F (r23.1.1, r32.1.1, ())).bind fun r33 =>
                                                                  if (!(r33.1.1 : Bool)) = true then
                                                                    some ((false, ()), ())
                                                                  else
                                                                    (laws_markSheaf.F (r20.1.1, (1 : Int), ())).bind fun r34 =>
                                                                      (laws_markSheaf.F (r21.1.1, (r34.1.1 : Int), ())).bind fun r35 =>
                                                                        (laws_markMatrixS.F (r22.1.1, (r35.1.1 : Int), ())).bind fun r36 =>
                                                                          (laws_markMatrixS.F (r23.1.1, (r36.1.1 : Int), ())).bind fun r37 =>
                                                                            if (decide ((r37.1.1 : Int) < (0 : Int))) = true then
                                                                              some ((false, ()), ())
                                                                            else
                                                                              (laws_eqMatrixS.F (r24.1.1, r19.1.1, ())).bind fun r38 =>
                                                                                if (!(r38.1.1 : Bool)) = true then
                                                                                  some ((false, ()), ())
                                                                                else
                                                                                  if ((r24.1.2.1 : Int) != (r19.1.2.1 : Int)) = true then
                                                                                    some ((false, ()), ())
                                                                                  else
                                                                                    (laws_markMatrixS.F (r24.1.1, (1 : Int), ())).bind fun r39 =>
                                                                                      (laws_heldMatrixS.F (r39.2.1, (1 : Int), ())).bind fun r40 =>
                                                                                        if (decide ((r40.1.1 : Int) < (0 : Int))) = true then
                                                                                          some ((false, ()), ())
                                                                                        else
                                                                                          if ((r40.1.1 : Int) != (r39.1.1 : Int)) = true then
                                                                                            some ((false, ()), ())
                                                                                          else
                                                                                            (laws_toSheaf.F ((toArray_1, (toArray_2, (toArray_3, toArray_4))), ())).bind fun r41 =>
                                                                                              (laws_toSheaf.F ((a_5, (a_6, (a_7, a_8))), ())).bind fun r42 =>
                                                                                                (laws_toMatrixS.F (a_9, ())).bind fun r43 =>
                                                                                                  (laws_toMatrixS.F (a_10, ())).bind fun r44 =>
                                                                                                    (impl_AddMorphisms.F (r41.1.1, r42.1.1, r43.1.1, r44.1.1, ())).bind fun r45 =>
                                                                                                      (laws_eqMatrixS.F (r45.1.1, r19.1.1, ())).bind fun r46 =>
                                                                                                        if (!(r46.1.1 : Bool)) = true then
                                                                                                          some ((false, ()), ())
                                                                                                        else
                                                                                                          if ((r45.1.2.1 : Int) != (r19.1.2.1 : Int)) = true then
                                                                                                            some ((false, ()), ())
                                                                                                          else
                                                                                                            (laws_heldMatrixS.F (r39.2.1, (1 : Int), ())).bind fun r47 =>
                                                                                                              if (decide ((r47.1.1 : Int) < (0 : Int))) = true then
                                                                                                                some ((false, ()), ())
                                                                                                              else
                                                                                                                if ((r47.1.1 : Int) != (r39.1.1 : Int)) = true then
                                                                                                                  some ((false, ()), ())
                                                                                                                else
                                                                                                                  some ((true, ()), ())
theorem laws_FnExactAddMorphisms.run (k : Nat) (toArray_1 : List (List Int)) (toArray_2 : Int) (toArray_3 : List Int) (toArray_4 : List (Int × Int × Int × List Int)) (a_5 : List (List Int)) (a_6 : Int) (a_7 : List Int) (a_8 : List (Int × Int × Int × List Int)) (a_9 : List (Int × Int × Int × List Int)) (a_10 : List (Int × Int × Int × List Int)) : runFn laws_FnExactAddMorphisms.cfg laws_FnExactAddMorphisms.fin laws_FnExactAddMorphisms.code (initSt laws_FnExactAddMorphisms.sig.ps ((toArray_1, (toArray_2, (toArray_3, toArray_4))), (a_5, (a_6, (a_7, a_8))), a_9, a_10, ()) 165) k = laws_FnExactAddMorphisms.T toArray_1 toArray_2 toArray_3 toArray_4 a_5 a_6 a_7 a_8 a_9 a_10 := by kernel_rfl
theorem laws_FnExactAddMorphisms.eq (toArray_1 : List (List Int)) (toArray_2 : Int) (toArray_3 : List Int) (toArray_4 : List (Int × Int × Int × List Int)) (a_5 : List (List Int)) (a_6 : Int) (a_7 : List Int) (a_8 : List (Int × Int × Int × List Int)) (a_9 : List (Int × Int × Int × List Int)) (a_10 : List (Int × Int × Int × List Int)) : laws_FnExactAddMorphisms.F ((toArray_1, (toArray_2, (toArray_3, toArray_4))), (a_5, (a_6, (a_7, a_8))), a_9, a_10, ()) = laws_FnExactAddMorphisms.T toArray_1 toArray_2 toArray_3 toArray_4 a_5 a_6 a_7 a_8 a_9 a_10 := (congrArg anyK (funext fun k => laws_FnExactAddMorphisms.run k toArray_1 toArray_2 toArray_3 toArray_4 a_5 a_6 a_7 a_8 a_9 a_10)).trans (anyK_const _)
theorem laws_FnExactAddMorphisms.ok : CtxOK Go.Proofs.Tryz.prog laws_FnExactAddMorphisms.ctx := ⟨List.forall_mem_nil _, mixed_ok, tab_ok tab_good, List.forall_mem_cons.2 ⟨laws_szSheaf.S, List.forall_mem_cons.2 ⟨laws_szMatrixS.S, List.forall_mem_cons.2 ⟨laws_toSheaf.S, List.forall_mem_cons.2 ⟨laws_toMatrixS.S, List.forall_mem_cons.2 ⟨laws_eqSheaf.S, List.forall_mem_cons.2 ⟨laws_eqMatrixS.S, List.forall_mem_cons.2 ⟨laws_markSheaf.S, List.forall_mem_cons.2 ⟨laws_markMatrixS.S, List.forall_mem_cons.2 ⟨laws_heldMatrixS.S, List.forall_mem_cons.2 ⟨spec_AddMorphisms.S, List.forall_mem_cons.2 ⟨impl_AddMorphisms.S, List.forall_mem_nil _⟩⟩⟩⟩⟩⟩⟩⟩⟩⟩⟩, List.forall_mem_nil _, List.forall_mem_nil _⟩
theorem laws_FnExactAddMorphisms.S : Sound Go.Proofs.Tryz.prog ⟨9, laws_FnExactAddMorphisms.sig, laws_FnExactAddMorphisms.F⟩ := sound_any (fn := Go.Proofs.Tryz.f9) (code := laws_FnExactAddMorphisms.code) (g := laws_FnExactAddMorphisms.cfg) (res := [.tmp 8]) Go.Proofs.Tryz.func9 (by kernel_rfl) (by kernel_rfl) laws_FnExactAddMorphisms.ok (by kernel_rfl) (by kernel_rfl) (Nat.le_of_ble_eq_true (by kernel_rfl)) (by kernel_rfl)
end Go.Proofs.YtbjnpdngackjoaaGreat
