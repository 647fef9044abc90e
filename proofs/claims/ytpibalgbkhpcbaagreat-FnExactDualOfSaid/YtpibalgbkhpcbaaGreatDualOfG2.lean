/- The functions, as the machine runs them. -/
import Derived.Test.YtpibalgbkhpcbaaGreatDualOfG1
import Derived.Test.YtpibalgbkhpcbaaGreatProg
import Derived.KernelRfl
import Derived.WalkKit
import Derived.Lib.Walk
import Derived.Lib.AppendZeros
namespace Go.Proofs.YtpibalgbkhpcbaaGreat
open Go Go.Vm
set_option linter.unusedVariables false
set_option linter.unusedSimpArgs false
/-! ### laws_eqInt64S -/
noncomputable def laws_eqInt64S.sig : Sig := ⟨[.val false (.sl (.int .i64)), .val false (.sl (.int .i64))], [(.val false, .bool, .deep)]⟩
noncomputable def laws_eqInt64S.ctx : Ctx := ⟨tabOf tabl, [], [], [], [], []⟩
noncomputable def laws_eqInt64S.cfg : Cfg := ⟨laws_eqInt64S.ctx, [], [], fun id => match id with | 4 => ([0, 1, 5], []) | _ => ([], []), fun _ => []⟩
noncomputable def laws_eqInt64S.code : Code := (Go.Proofs.Tryz.f23).body.getD .skip
noncomputable def laws_eqInt64S.fin := finK laws_eqInt64S.ctx laws_eqInt64S.sig [.tmp 4]
noncomputable def laws_eqInt64S.F (d : List Int × List Int × Unit) : Option ((Bool × Unit) × (Unit)) := anyK (runFn laws_eqInt64S.cfg laws_eqInt64S.fin laws_eqInt64S.code (initSt laws_eqInt64S.sig.ps d 26))
noncomputable def laws_eqInt64S.l4 (k : Nat) (x3 : List Int) (x4 : List Int) (i5 : Int) : Option ((Bool × Unit) × (Unit)) :=
  Go.Vm.runT laws_eqInt64S.cfg laws_eqInt64S.fin k [.inLoop (sub [1, 1, 0, 1, 0, 0] laws_eqInt64S.code), .inBlock 0, .code (sub [1, 1, 1] laws_eqInt64S.code)]
    ⟨[.val false [⟨(.sl (.int .i64)), .sh, x3⟩], .val false [⟨(.sl (.int .i64)), .sh, x4⟩], .dead, .dead, .dead, .val false [⟨(.int .i64), .sh, i5⟩]] ++ deads 20, []⟩
theorem laws_eqInt64S.l4_eq (k : Nat) (x3 : List Int) (x4 : List Int) (i5 : Int) : laws_eqInt64S.l4 (k + 1) x3 x4 i5 =
  if (decide (i5 < (x3.length : Int))) = true then
    if 0 ≤ i5 ∧ i5 < (x3.length : Int) then
      if 0 ≤ i5 ∧ i5 < (x4.length : Int) then
        if ((x3.getD i5.toNat 0 : Int) != (x4.getD i5.toNat 0 : Int)) = true then
          some ((false, ()), ())
        else
          laws_eqInt64S.l4 k x3 x4 (IntKind.i64.wrap (i5 + (1 : Int)))
      else
        none
    else
      none
  else
    some ((true, ()), ()) := by kernel_rfl
noncomputable def laws_eqInt64S.T (k : Nat) (a_1 : List Int) (b_2 : List Int) : Option ((Bool × Unit) × (Unit)) :=
  if ((a_1.length : Int) != (b_2.length : Int)) = true then
    some ((false, ()), ())
  else
    laws_eqInt64S.l4 k a_1 b_2 (0 : Int)
theorem laws_eqInt64S.run (k : Nat) (a_1 : List Int) (b_2 : List Int) : runFn laws_eqInt64S.cfg laws_eqInt64S.fin laws_eqInt64S.code (initSt laws_eqInt64S.sig.ps (a_1, b_2, ()) 26) k = laws_eqInt64S.T k a_1 b_2 := by kernel_rfl
theorem laws_eqInt64S.of (a_1 : List Int) (b_2 : List Int) {r : (Bool × Unit) × (Unit)} (h : Ev (fun k => laws_eqInt64S.T k a_1 b_2) r) : laws_eqInt64S.F (a_1, b_2, ()) = some r := Ev.run (fun k => laws_eqInt64S.run k a_1 b_2) h
theorem laws_eqInt64S.ok : CtxOK Go.Proofs.Tryz.prog laws_eqInt64S.ctx := ⟨List.forall_mem_nil _, mixed_ok, tab_ok tab_good, List.forall_mem_nil _, List.forall_mem_nil _, List.forall_mem_nil _⟩
theorem laws_eqInt64S.S : Sound Go.Proofs.Tryz.prog ⟨23, laws_eqInt64S.sig, laws_eqInt64S.F⟩ := sound_any (fn := Go.Proofs.Tryz.f23) (code := laws_eqInt64S.code) (g := laws_eqInt64S.cfg) (res := [.tmp 4]) Go.Proofs.Tryz.func23 (by kernel_rfl) (by kernel_rfl) laws_eqInt64S.ok (by kernel_rfl) (by kernel_rfl) (Nat.le_of_ble_eq_true (by kernel_rfl)) (by kernel_rfl)
/-! ### laws_eqInt64SS -/
noncomputable def laws_eqInt64SS.sig : Sig := ⟨[.val false (.sl (.sl (.int .i64))), .val false (.sl (.sl (.int .i64)))], [(.val false, .bool, .deep)]⟩
noncomputable def laws_eqInt64SS.ctx : Ctx := ⟨tabOf tabl, [⟨23, laws_eqInt64S.sig, laws_eqInt64S.F⟩], [], [], [], []⟩
noncomputable def laws_eqInt64SS.cfg : Cfg := ⟨laws_eqInt64SS.ctx, [], [], fun id => match id with | 4 => ([0, 1, 5], []) | _ => ([], []), fun _ => []⟩
noncomputable def laws_eqInt64SS.code : Code := (Go.Proofs.Tryz.f69).body.getD .skip
noncomputable def laws_eqInt64SS.fin := finK laws_eqInt64SS.ctx laws_eqInt64SS.sig [.tmp 4]
noncomputable def laws_eqInt64SS.F (d : List (List Int) × List (List Int) × Unit) : Option ((Bool × Unit) × (Unit)) := anyK (runFn laws_eqInt64SS.cfg laws_eqInt64SS.fin laws_eqInt64SS.code (initSt laws_eqInt64SS.sig.ps d 27))
noncomputable def laws_eqInt64SS.l4 (k : Nat) (x3 : List (List Int)) (x4 : List (List Int)) (i5 : Int) : Option ((Bool × Unit) × (Unit)) :=
  Go.Vm.runT laws_eqInt64SS.cfg laws_eqInt64SS.fin k [.inLoop (sub [1, 1, 0, 1, 0, 0] laws_eqInt64SS.code), .inBlock 0, .code (sub [1, 1, 1] laws_eqInt64SS.code)]
    ⟨[.val false [⟨(.sl (.sl (.int .i64))), .sh, x3⟩], .val false [⟨(.sl (.sl (.int .i64))), .sh, x4⟩], .dead, .dead, .dead, .val false [⟨(.int .i64), .sh, i5⟩]] ++ deads 21, []⟩
theorem laws_eqInt64SS.l4_eq (k : Nat) (x3 : List (List Int)) (x4 : List (List Int)) (i5 : Int) : laws_eqInt64SS.l4 (k + 1) x3 x4 i5 =
  if (decide (i5 < (x3.length : Int))) = true then
    if 0 ≤ i5 ∧ i5 < (x3.length : Int) then
      if 0 ≤ i5 ∧ i5 < (x4.length : Int) then
        (laws_eqInt64S.F (x3.getD i5.toNat ([] : List Int), x4.getD i5.toNat ([] : List Int), ())).bind fun r6 =>
          if (!(r6.1.1 : Bool)) = true then
            some ((false, ()), ())
          else
            laws_eqInt64SS.l4 k x3 x4 (IntKind.i64.wrap (i5 + (1 : Int)))
      else
        none
    else
      none
  else
    some ((true, ()), ()) := by kernel_rfl
noncomputable def laws_eqInt64SS.T (k : Nat) (a_1 : List (List Int)) (b_2 : List (List Int)) : Option ((Bool × Unit) × (Unit)) :=
  if ((a_1.length : Int) != (b_2.length : Int)) = true then
    some ((false, ()), ())
  else
    laws_eqInt64SS.l4 k a_1 b_2 (0 : Int)
theorem laws_eqInt64SS.run (k : Nat) (a_1 : List (List Int)) (b_2 : List (List Int)) : runFn laws_eqInt64SS.cfg laws_eqInt64SS.fin laws_eqInt64SS.code (initSt laws_eqInt64SS.sig.ps (a_1, b_2, ()) 27) k = laws_eqInt64SS.T k a_1 b_2 := by kernel_rfl
theorem laws_eqInt64SS.of (a_1 : List (List Int)) (b_2 : List (List Int)) {r : (Bool × Unit) × (Unit)} (h : Ev (fun k => laws_eqInt64SS.T k a_1 b_2) r) : laws_eqInt64SS.F (a_1, b_2, ()) = some r := Ev.run (fun k => laws_eqInt64SS.run k a_1 b_2) h
theorem laws_eqInt64SS.ok : CtxOK Go.Proofs.Tryz.prog laws_eqInt64SS.ctx := ⟨List.forall_mem_nil _, mixed_ok, tab_ok tab_good, List.forall_mem_cons.2 ⟨laws_eqInt64S.S, List.forall_mem_nil _⟩, List.forall_mem_nil _, List.forall_mem_nil _⟩
theorem laws_eqInt64SS.S : Sound Go.Proofs.Tryz.prog ⟨69, laws_eqInt64SS.sig, laws_eqInt64SS.F⟩ := sound_any (fn := Go.Proofs.Tryz.f69) (code := laws_eqInt64SS.code) (g := laws_eqInt64SS.cfg) (res := [.tmp 4]) Go.Proofs.Tryz.func69 (by kernel_rfl) (by kernel_rfl) laws_eqInt64SS.ok (by kernel_rfl) (by kernel_rfl) (Nat.le_of_ble_eq_true (by kernel_rfl)) (by kernel_rfl)
/-! ### laws_eqComplex -/
noncomputable def laws_eqComplex.sig : Sig := ⟨[.val true (.sl (.sl (.int .i64))), .val true (.sl (.sl (.int .i64)))], [(.val false, .bool, .deep)]⟩
noncomputable def laws_eqComplex.ctx : Ctx := ⟨tabOf tabl, [⟨69, laws_eqInt64SS.sig, laws_eqInt64SS.F⟩], [], [], [], []⟩
noncomputable def laws_eqComplex.cfg : Cfg := ⟨laws_eqComplex.ctx, [], [], fun _ => ([], []), fun _ => []⟩
noncomputable def laws_eqComplex.code : Code := (Go.Proofs.Tryz.f33).body.getD .skip
noncomputable def laws_eqComplex.fin := finK laws_eqComplex.ctx laws_eqComplex.sig [.tmp 4]
noncomputable def laws_eqComplex.F (d : List (List Int) × List (List Int) × Unit) : Option ((Bool × Unit) × (Unit)) := anyK (runFn laws_eqComplex.cfg laws_eqComplex.fin laws_eqComplex.code (initSt laws_eqComplex.sig.ps d 11))
noncomputable def laws_eqComplex.T (a_1 : List (List Int)) (b_2 : List (List Int)) : Option ((Bool × Unit) × (Unit)) :=
  (laws_eqInt64SS.F (a_1, b_2, ())).bind fun r3 =>
    if (!(r3.1.1 : Bool)) = true then
      some ((false, ()), ())
    else
      some ((true, ()), ())
theorem laws_eqComplex.run (k : Nat) (a_1 : List (List Int)) (b_2 : List (List Int)) : runFn laws_eqComplex.cfg laws_eqComplex.fin laws_eqComplex.code (initSt laws_eqComplex.sig.ps (a_1, b_2, ()) 11) k = laws_eqComplex.T a_1 b_2 := by kernel_rfl
theorem laws_eqComplex.eq (a_1 : List (List Int)) (b_2 : List (List Int)) : laws_eqComplex.F (a_1, b_2, ()) = laws_eqComplex.T a_1 b_2 := (congrArg anyK (funext fun k => laws_eqComplex.run k a_1 b_2)).trans (anyK_const _)
theorem laws_eqComplex.ok : CtxOK Go.Proofs.Tryz.prog laws_eqComplex.ctx := ⟨List.forall_mem_nil _, mixed_ok, tab_ok tab_good, List.forall_mem_cons.2 ⟨laws_eqInt64SS.S, List.forall_mem_nil _⟩, List.forall_mem_nil _, List.forall_mem_nil _⟩
theorem laws_eqComplex.S : Sound Go.Proofs.Tryz.prog ⟨33, laws_eqComplex.sig, laws_eqComplex.F⟩ := sound_any (fn := Go.Proofs.Tryz.f33) (code := laws_eqComplex.code) (g := laws_eqComplex.cfg) (res := [.tmp 4]) Go.Proofs.Tryz.func33 (by kernel_rfl) (by kernel_rfl) laws_eqComplex.ok (by kernel_rfl) (by kernel_rfl) (Nat.le_of_ble_eq_true (by kernel_rfl)) (by kernel_rfl)
/-! ### laws_eqMatrix -/
noncomputable def laws_eqMatrix.sig : Sig := ⟨[.val true TMatrix, .val true TMatrix], [(.val false, .bool, .deep)]⟩
noncomputable def laws_eqMatrix.ctx : Ctx := ⟨tabOf tabl, [⟨23, laws_eqInt64S.sig, laws_eqInt64S.F⟩], [], [], [], []⟩
noncomputable def laws_eqMatrix.cfg : Cfg := ⟨laws_eqMatrix.ctx, [], [], fun _ => ([], []), fun _ => []⟩
noncomputable def laws_eqMatrix.code : Code := (Go.Proofs.Tryz.f70).body.getD .skip
noncomputable def laws_eqMatrix.fin := finK laws_eqMatrix.ctx laws_eqMatrix.sig [.tmp 4]
noncomputable def laws_eqMatrix.F (d : (Int × Int × Int × List Int) × (Int × Int × Int × List Int) × Unit) : Option ((Bool × Unit) × (Unit)) := anyK (runFn laws_eqMatrix.cfg laws_eqMatrix.fin laws_eqMatrix.code (initSt laws_eqMatrix.sig.ps d 26))
noncomputable def laws_eqMatrix.T (a_1 : Int) (a_2 : Int) (a_3 : Int) (a_4 : List Int) (b_5 : Int) (b_6 : Int) (b_7 : Int) (b_8 : List Int) : Option ((Bool × Unit) × (Unit)) :=
  if (a_1 != b_5) = true then
    some ((false, ()), ())
  else
    if (a_2 != b_6) = true then
      some ((false, ()), ())
    else
      if (a_3 != b_7) = true then
        some ((false, ()), ())
      else
        (laws_eqInt64S.F (a_4, b_8, ())).bind fun r9 =>
          if (!(r9.1.1 : Bool)) = true then
            some ((false, ()), ())
          else
            some ((true, ()), ())
theorem laws_eqMatrix.run (k : Nat) (a_1 : Int) (a_2 : Int) (a_3 : Int) (a_4 : List Int) (b_5 : Int) (b_6 : Int) (b_7 : Int) (b_8 : List Int) : runFn laws_eqMatrix.cfg laws_eqMatrix.fin laws_eqMatrix.code (initSt laws_eqMatrix.sig.ps ((a_1, (a_2, (a_3, a_4))), (b_5, (b_6, (b_7, b_8))), ()) 26) k = laws_eqMatrix.T a_1 a_2 a_3 a_4 b_5 b_6 b_7 b_8 := by kernel_rfl
theorem laws_eqMatrix.eq (a_1 : Int) (a_2 : Int) (a_3 : Int) (a_4 : List Int) (b_5 : Int) (b_6 : Int) (b_7 : Int) (b_8 : List Int) : laws_eqMatrix.F ((a_1, (a_2, (a_3, a_4))), (b_5, (b_6, (b_7, b_8))), ()) = laws_eqMatrix.T a_1 a_2 a_3 a_4 b_5 b_6 b_7 b_8 := (congrArg anyK (funext fun k => laws_eqMatrix.run k a_1 a_2 a_3 a_4 b_5 b_6 b_7 b_8)).trans (anyK_const _)
theorem laws_eqMatrix.ok : CtxOK Go.Proofs.Tryz.prog laws_eqMatrix.ctx := ⟨List.forall_mem_nil _, mixed_ok, tab_ok tab_good, List.forall_mem_cons.2 ⟨laws_eqInt64S.S, List.forall_mem_nil _⟩, List.forall_mem_nil _, List.forall_mem_nil _⟩
theorem laws_eqMatrix.S : Sound Go.Proofs.Tryz.prog ⟨70, laws_eqMatrix.sig, laws_eqMatrix.F⟩ := sound_any (fn := Go.Proofs.Tryz.f70) (code := laws_eqMatrix.code) (g := laws_eqMatrix.cfg) (res := [.tmp 4]) Go.Proofs.Tryz.func70 (by kernel_rfl) (by kernel_rfl) laws_eqMatrix.ok (by kernel_rfl) (by kernel_rfl) (Nat.le_of_ble_eq_true (by kernel_rfl)) (by kernel_rfl)
/-! ### laws_eqMatrixS -/
noncomputable def laws_eqMatrixS.sig : Sig := ⟨[.val false (.sl TMatrix), .val false (.sl TMatrix)], [(.val false, .bool, .deep)]⟩
noncomputable def laws_eqMatrixS.ctx : Ctx := ⟨tabOf tabl, [⟨70, laws_eqMatrix.sig, laws_eqMatrix.F⟩], [], [], [], []⟩
noncomputable def laws_eqMatrixS.cfg : Cfg := ⟨laws_eqMatrixS.ctx, [], [], fun id => match id with | 4 => ([0, 1, 5], []) | _ => ([], []), fun _ => []⟩
noncomputable def laws_eqMatrixS.code : Code := (Go.Proofs.Tryz.f34).body.getD .skip
noncomputable def laws_eqMatrixS.fin := finK laws_eqMatrixS.ctx laws_eqMatrixS.sig [.tmp 4]
noncomputable def laws_eqMatrixS.F (d : List (Int × Int × Int × List Int) × List (Int × Int × Int × List Int) × Unit) : Option ((Bool × Unit) × (Unit)) := anyK (runFn laws_eqMatrixS.cfg laws_eqMatrixS.fin laws_eqMatrixS.code (initSt laws_eqMatrixS.sig.ps d 27))
noncomputable def laws_eqMatrixS.l4 (k : Nat) (x3 : List (Int × Int × Int × List Int)) (x4 : List (Int × Int × Int × List Int)) (i5 : Int) : Option ((Bool × Unit) × (Unit)) :=
  Go.Vm.runT laws_eqMatrixS.cfg laws_eqMatrixS.fin k [.inLoop (sub [1, 1, 0, 1, 0, 0] laws_eqMatrixS.code), .inBlock 0, .code (sub [1, 1, 1] laws_eqMatrixS.code)]
    ⟨[.val false [⟨(.sl TMatrix), .sh, x3⟩], .val false [⟨(.sl TMatrix), .sh, x4⟩], .dead, .dead, .dead, .val false [⟨(.int .i64), .sh, i5⟩]] ++ deads 21, []⟩
theorem laws_eqMatrixS.l4_eq (k : Nat) (x3 : List (Int × Int × Int × List Int)) (x4 : List (Int × Int × Int × List Int)) (i5 : Int) : laws_eqMatrixS.l4 (k + 1) x3 x4 i5 =
  if (decide (i5 < (x3.length : Int))) = true then
    if 0 ≤ i5 ∧ i5 < (x3.length : Int) then
      if 0 ≤ i5 ∧ i5 < (x4.length : Int) then
        (laws_eqMatrix.F (x3.getD i5.toNat (0, 0, 0, ([] : List Int)), x4.getD i5.toNat (0, 0, 0, ([] : List Int)), ())).bind fun r6 =>
          if (!(r6.1.1 : Bool)) = true then
            some ((false, ()), ())
          else
            laws_eqMatrixS.l4 k x3 x4 (IntKind.i64.wrap (i5 + (1 : Int)))
      else
        none
    else
      none
  else
    some ((true, ()), ()) := by kernel_rfl
noncomputable def laws_eqMatrixS.T (k : Nat) (a_1 : List (Int × Int × Int × List Int)) (b_2 : List (Int × Int × Int × List Int)) : Option ((Bool × Unit) × (Unit)) :=
  if ((a_1.length : Int) != (b_2.length : Int)) = true then
    some ((false, ()), ())
  else
    laws_eqMatrixS.l4 k a_1 b_2 (0 : Int)
theorem laws_eqMatrixS.run (k : Nat) (a_1 : List (Int × Int × Int × List Int)) (b_2 : List (Int × Int × Int × List Int)) : runFn laws_eqMatrixS.cfg laws_eqMatrixS.fin laws_eqMatrixS.code (initSt laws_eqMatrixS.sig.ps (a_1, b_2, ()) 27) k = laws_eqMatrixS.T k a_1 b_2 := by kernel_rfl
theorem laws_eqMatrixS.of (a_1 : List (Int × Int × Int × List Int)) (b_2 : List (Int × Int × Int × List Int)) {r : (Bool × Unit) × (Unit)} (h : Ev (fun k => laws_eqMatrixS.T k a_1 b_2) r) : laws_eqMatrixS.F (a_1, b_2, ()) = some r := Ev.run (fun k => laws_eqMatrixS.run k a_1 b_2) h
theorem laws_eqMatrixS.ok : CtxOK Go.Proofs.Tryz.prog laws_eqMatrixS.ctx := ⟨List.forall_mem_nil _, mixed_ok, tab_ok tab_good, List.forall_mem_cons.2 ⟨laws_eqMatrix.S, List.forall_mem_nil _⟩, List.forall_mem_nil _, List.forall_mem_nil _⟩
theorem laws_eqMatrixS.S : Sound Go.Proofs.Tryz.prog ⟨34, laws_eqMatrixS.sig, laws_eqMatrixS.F⟩ := sound_any (fn := Go.Proofs.Tryz.f34) (code := laws_eqMatrixS.code) (g := laws_eqMatrixS.cfg) (res := [.tmp 4]) Go.Proofs.Tryz.func34 (by kernel_rfl) (by kernel_rfl) laws_eqMatrixS.ok (by kernel_rfl) (by kernel_rfl) (Nat.le_of_ble_eq_true (by kernel_rfl)) (by kernel_rfl)
/-! ### laws_eqCosheaf -/
noncomputable def laws_eqCosheaf.sig : Sig := ⟨[.val true TSheaf, .val true TSheaf], [(.val false, .bool, .deep)]⟩
noncomputable def laws_eqCosheaf.ctx : Ctx := ⟨tabOf tabl, [⟨23, laws_eqInt64S.sig, laws_eqInt64S.F⟩, ⟨33, laws_eqComplex.sig, laws_eqComplex.F⟩, ⟨34, laws_eqMatrixS.sig, laws_eqMatrixS.F⟩], [], [], [], []⟩
noncomputable def laws_eqCosheaf.cfg : Cfg := ⟨laws_eqCosheaf.ctx, [], [], fun _ => ([], []), fun _ => []⟩
noncomputable def laws_eqCosheaf.code : Code := (Go.Proofs.Tryz.f10).body.getD .skip
noncomputable def laws_eqCosheaf.fin := finK laws_eqCosheaf.ctx laws_eqCosheaf.sig [.tmp 4]
noncomputable def laws_eqCosheaf.F (d : (List (List Int) × Int × List Int × List (Int × Int × Int × List Int)) × (List (List Int) × Int × List Int × List (Int × Int × Int × List Int)) × Unit) : Option ((Bool × Unit) × (Unit)) := anyK (runFn laws_eqCosheaf.cfg laws_eqCosheaf.fin laws_eqCosheaf.code (initSt laws_eqCosheaf.sig.ps d 28))
noncomputable def laws_eqCosheaf.T (a_1 : List (List Int)) (a_2 : Int) (a_3 : List Int) (a_4 : List (Int × Int × Int × List Int)) (b_5 : List (List Int)) (b_6 : Int) (b_7 : List Int) (b_8 : List (Int × Int × Int × List Int)) : Option ((Bool × Unit) × (Unit)) :=
  (laws_eqComplex.F (a_1, b_5, ())).bind fun r9 =>
    if (!(r9.1.1 : Bool)) = true then
      some ((false, ()), ())
    else
      if (a_2 != b_6) = true then
        some ((false, ()), ())
      else
        (laws_eqInt64S.F (a_3, b_7, ())).bind fun r10 =>
          if (!(r10.1.1 : Bool)) = true then
            some ((false, ()), ())
          else
            (laws_eqMatrixS.F (a_4, b_8, ())).bind fun r11 =>
              if (!(r11.1.1 : Bool)) = true then
                some ((false, ()), ())
              else
                some ((true, ()), ())
theorem laws_eqCosheaf.run (k : Nat) (a_1 : List (List Int)) (a_2 : Int) (a_3 : List Int) (a_4 : List (Int × Int × Int × List Int)) (b_5 : List (List Int)) (b_6 : Int) (b_7 : List Int) (b_8 : List (Int × Int × Int × List Int)) : runFn laws_eqCosheaf.cfg laws_eqCosheaf.fin laws_eqCosheaf.code (initSt laws_eqCosheaf.sig.ps ((a_1, (a_2, (a_3, a_4))), (b_5, (b_6, (b_7, b_8))), ()) 28) k = laws_eqCosheaf.T a_1 a_2 a_3 a_4 b_5 b_6 b_7 b_8 := by kernel_rfl
theorem laws_eqCosheaf.eq (a_1 : List (List Int)) (a_2 : Int) (a_3 : List Int) (a_4 : List (Int × Int × Int × List Int)) (b_5 : List (List Int)) (b_6 : Int) (b_7 : List Int) (b_8 : List (Int × Int × Int × List Int)) : laws_eqCosheaf.F ((a_1, (a_2, (a_3, a_4))), (b_5, (b_6, (b_7, b_8))), ()) = laws_eqCosheaf.T a_1 a_2 a_3 a_4 b_5 b_6 b_7 b_8 := (congrArg anyK (funext fun k => laws_eqCosheaf.run k a_1 a_2 a_3 a_4 b_5 b_6 b_7 b_8)).trans (anyK_const _)
theorem laws_eqCosheaf.ok : CtxOK Go.Proofs.Tryz.prog laws_eqCosheaf.ctx := ⟨List.forall_mem_nil _, mixed_ok, tab_ok tab_good, List.forall_mem_cons.2 ⟨laws_eqInt64S.S, List.forall_mem_cons.2 ⟨laws_eqComplex.S, List.forall_mem_cons.2 ⟨laws_eqMatrixS.S, List.forall_mem_nil _⟩⟩⟩, List.forall_mem_nil _, List.forall_mem_nil _⟩
theorem laws_eqCosheaf.S : Sound Go.Proofs.Tryz.prog ⟨10, laws_eqCosheaf.sig, laws_eqCosheaf.F⟩ := sound_any (fn := Go.Proofs.Tryz.f10) (code := laws_eqCosheaf.code) (g := laws_eqCosheaf.cfg) (res := [.tmp 4]) Go.Proofs.Tryz.func10 (by kernel_rfl) (by kernel_rfl) laws_eqCosheaf.ok (by kernel_rfl) (by kernel_rfl) (Nat.le_of_ble_eq_true (by kernel_rfl)) (by kernel_rfl)
/-! ### laws_eqSheaf -/
noncomputable def laws_eqSheaf.sig : Sig := ⟨[.val true TSheaf, .val true TSheaf], [(.val false, .bool, .deep)]⟩
noncomputable def laws_eqSheaf.ctx : Ctx := ⟨tabOf tabl, [⟨23, laws_eqInt64S.sig, laws_eqInt64S.F⟩, ⟨33, laws_eqComplex.sig, laws_eqComplex.F⟩, ⟨34, laws_eqMatrixS.sig, laws_eqMatrixS.F⟩], [], [], [], []⟩
noncomputable def laws_eqSheaf.cfg : Cfg := ⟨laws_eqSheaf.ctx, [], [], fun _ => ([], []), fun _ => []⟩
noncomputable def laws_eqSheaf.code : Code := (Go.Proofs.Tryz.f11).body.getD .skip
noncomputable def laws_eqSheaf.fin := finK laws_eqSheaf.ctx laws_eqSheaf.sig [.tmp 4]
noncomputable def laws_eqSheaf.F (d : (List (List Int) × Int × List Int × List (Int × Int × Int × List Int)) × (List (List Int) × Int × List Int × List (Int × Int × Int × List Int)) × Unit) : Option ((Bool × Unit) × (Unit)) := anyK (runFn laws_eqSheaf.cfg laws_eqSheaf.fin laws_eqSheaf.code (initSt laws_eqSheaf.sig.ps d 28))
noncomputable def laws_eqSheaf.T (a_1 : List (List Int)) (a_2 : Int) (a_3 : List Int) (a_4 : List (Int × Int × Int × List Int)) (b_5 : List (List Int)) (b_6 : Int) (b_7 : List Int) (b_8 : List (Int × Int × Int × List Int)) : Option ((Bool × Unit) × (Unit)) :=
  (laws_eqComplex.F (a_1, b_5, ())).bind fun r9 =>
    if (!(r9.1.1 : Bool)) = true then
      some ((false, ()), ())
    else
      if (a_2 != b_6) = true then
        some ((false, ()), ())
      else
        (laws_eqInt64S.F (a_3, b_7, ())).bind fun r10 =>
          if (!(r10.1.1 : Bool)) = true then
            some ((false, ()), ())
          else
            (laws_eqMatrixS.F (a_4, b_8, ())).bind fun r11 =>
              if (!(r11.1.1 : Bool)) = true then
                some ((false, ()), ())
              else
                some ((true, ()), ())
theorem laws_eqSheaf.run (k : Nat) (a_1 : List (List Int)) (a_2 : Int) (a_3 : List Int) (a_4 : List (Int × Int × Int × List Int)) (b_5 : List (List Int)) (b_6 : Int) (b_7 : List Int) (b_8 : List (Int × Int × Int × List Int)) : runFn laws_eqSheaf.cfg laws_eqSheaf.fin laws_eqSheaf.code (initSt laws_eqSheaf.sig.ps ((a_1, (a_2, (a_3, a_4))), (b_5, (b_6, (b_7, b_8))), ()) 28) k = laws_eqSheaf.T a_1 a_2 a_3 a_4 b_5 b_6 b_7 b_8 := by kernel_rfl
theorem laws_eqSheaf.eq (a_1 : List (List Int)) (a_2 : Int) (a_3 : List Int) (a_4 : List (Int × Int × Int × List Int)) (b_5 : List (List Int)) (b_6 : Int) (b_7 : List Int) (b_8 : List (Int × Int × Int × List Int)) : laws_eqSheaf.F ((a_1, (a_2, (a_3, a_4))), (b_5, (b_6, (b_7, b_8))), ()) = laws_eqSheaf.T a_1 a_2 a_3 a_4 b_5 b_6 b_7 b_8 := (congrArg anyK (funext fun k => laws_eqSheaf.run k a_1 a_2 a_3 a_4 b_5 b_6 b_7 b_8)).trans (anyK_const _)
theorem laws_eqSheaf.ok : CtxOK Go.Proofs.Tryz.prog laws_eqSheaf.ctx := ⟨List.forall_mem_nil _, mixed_ok, tab_ok tab_good, List.forall_mem_cons.2 ⟨laws_eqInt64S.S, List.forall_mem_cons.2 ⟨laws_eqComplex.S, List.forall_mem_cons.2 ⟨laws_eqMatrixS.S, List.forall_mem_nil _⟩⟩⟩, List.forall_mem_nil _, List.forall_mem_nil _⟩
theorem laws_eqSheaf.S : Sound Go.Proofs.Tryz.prog ⟨11, laws_eqSheaf.sig, laws_eqSheaf.F⟩ := sound_any (fn := Go.Proofs.Tryz.f11) (code := laws_eqSheaf.code) (g := laws_eqSheaf.cfg) (res := [.tmp 4]) Go.Proofs.Tryz.func11 (by kernel_rfl) (by kernel_rfl) laws_eqSheaf.ok (by kernel_rfl) (by kernel_rfl) (Nat.le_of_ble_eq_true (by kernel_rfl)) (by kernel_rfl)
/-! ### laws_markInt64S -/
noncomputable def laws_markInt64S.sig : Sig := ⟨[.wr false (.sl (.int .i64)) .deep, .val false (.int .i64)], [(.val false, (.int .i64), .deep)]⟩
noncomputable def laws_markInt64S.ctx : Ctx := ⟨tabOf tabl, [], [], [], [], []⟩
noncomputable def laws_markInt64S.cfg : Cfg := ⟨laws_markInt64S.ctx, [0], [], fun id => match id with | 2 => ([0, 1, 5], [0]) | _ => ([], []), fun _ => []⟩
noncomputable def laws_markInt64S.code : Code := (Go.Proofs.Tryz.f36).body.getD .skip
noncomputable def laws_markInt64S.fin := finK laws_markInt64S.ctx laws_markInt64S.sig [.tmp 4]
noncomputable def laws_markInt64S.F (d : List Int × Int × Unit) : Option ((Int × Unit) × (List Int × Unit)) := anyK (runFn laws_markInt64S.cfg laws_markInt64S.fin laws_markInt64S.code (initSt laws_markInt64S.sig.ps d 19))
noncomputable def laws_markInt64S.l2 (k : Nat) (i3 : Int) (i4 : Int) (x5 : List Int) : Option ((Int × Unit) × (List Int × Unit)) :=
  Go.Vm.runT laws_markInt64S.cfg laws_markInt64S.fin k [.inLoop (sub [1, 0, 1, 0, 0] laws_markInt64S.code), .inBlock 0, .code (sub [1, 1] laws_markInt64S.code)]
    ⟨[.view 0 (.root 0) 1 false, .val false [⟨(.int .i64), .sh, i3⟩], .dead, .dead, .dead, .val false [⟨(.int .i64), .sh, i4⟩]] ++ deads 13, [(0, ⟨false, [⟨(.sl (.int .i64)), .deep, x5⟩]⟩)]⟩
theorem laws_markInt64S.l2_eq (k : Nat) (i3 : Int) (i4 : Int) (x5 : List Int) : laws_markInt64S.l2 (k + 1) i3 i4 x5 =
  if (decide (i4 < (x5.length : Int))) = true then
    if 0 ≤ i4 ∧ i4 < (x5.length : Int) then
      laws_markInt64S.l2 k (IntKind.i64.wrap (i3 + (1 : Int))) (IntKind.i64.wrap (i4 + (1 : Int))) (x5.set i4.toNat i3)
    else
      none
  else
    some ((i3, ()), (x5, ())) := by kernel_rfl
noncomputable def laws_markInt64S.T (k : Nat) (a_1 : List Int) (k_2 : Int) : Option ((Int × Unit) × (List Int × Unit)) :=
  laws_markInt64S.l2 k k_2 (0 : Int) a_1
theorem laws_markInt64S.run (k : Nat) (a_1 : List Int) (k_2 : Int) : runFn laws_markInt64S.cfg laws_markInt64S.fin laws_markInt64S.code (initSt laws_markInt64S.sig.ps (a_1, k_2, ()) 19) k = laws_markInt64S.T k a_1 k_2 := by kernel_rfl
theorem laws_markInt64S.of (a_1 : List Int) (k_2 : Int) {r : (Int × Unit) × (List Int × Unit)} (h : Ev (fun k => laws_markInt64S.T k a_1 k_2) r) : laws_markInt64S.F (a_1, k_2, ()) = some r := Ev.run (fun k => laws_markInt64S.run k a_1 k_2) h
theorem laws_markInt64S.ok : CtxOK Go.Proofs.Tryz.prog laws_markInt64S.ctx := ⟨List.forall_mem_nil _, mixed_ok, tab_ok tab_good, List.forall_mem_nil _, List.forall_mem_nil _, List.forall_mem_nil _⟩
theorem laws_markInt64S.S : Sound Go.Proofs.Tryz.prog ⟨36, laws_markInt64S.sig, laws_markInt64S.F⟩ := sound_any (fn := Go.Proofs.Tryz.f36) (code := laws_markInt64S.code) (g := laws_markInt64S.cfg) (res := [.tmp 4]) Go.Proofs.Tryz.func36 (by kernel_rfl) (by kernel_rfl) laws_markInt64S.ok (by kernel_rfl) (by kernel_rfl) (Nat.le_of_ble_eq_true (by kernel_rfl)) (by kernel_rfl)
/-! ### laws_markInt64SS -/
noncomputable def laws_markInt64SS.sig : Sig := ⟨[.wr false (.sl (.sl (.int .i64))) .deep, .val false (.int .i64)], [(.val false, (.int .i64), .deep)]⟩
noncomputable def laws_markInt64SS.ctx : Ctx := ⟨tabOf tabl, [⟨36, laws_markInt64S.sig, laws_markInt64S.F⟩], [], [], [], []⟩
noncomputable def laws_markInt64SS.cfg : Cfg := ⟨laws_markInt64SS.ctx, [0], [], fun id => match id with | 2 => ([0, 1, 5], [0]) | _ => ([], []), fun _ => []⟩
noncomputable def laws_markInt64SS.code : Code := (Go.Proofs.Tryz.f71).body.getD .skip
noncomputable def laws_markInt64SS.fin := finK laws_markInt64SS.ctx laws_markInt64SS.sig [.tmp 4]
noncomputable def laws_markInt64SS.F (d : List (List Int) × Int × Unit) : Option ((Int × Unit) × (List (List Int) × Unit)) := anyK (runFn laws_markInt64SS.cfg laws_markInt64SS.fin laws_markInt64SS.code (initSt laws_markInt64SS.sig.ps d 19))
noncomputable def laws_markInt64SS.l2 (k : Nat) (i3 : Int) (i4 : Int) (x5 : List (List Int)) : Option ((Int × Unit) × (List (List Int) × Unit)) :=
  Go.Vm.runT laws_markInt64SS.cfg laws_markInt64SS.fin k [.inLoop (sub [1, 0, 1, 0, 0] laws_markInt64SS.code), .inBlock 0, .code (sub [1, 1] laws_markInt64SS.code)]
    ⟨[.view 0 (.root 0) 1 false, .val false [⟨(.int .i64), .sh, i3⟩], .dead, .dead, .dead, .val false [⟨(.int .i64), .sh, i4⟩]] ++ deads 13, [(0, ⟨false, [⟨(.sl (.sl (.int .i64))), .deep, x5⟩]⟩)]⟩
theorem laws_markInt64SS.l2_eq (k : Nat) (i3 : Int) (i4 : Int) (x5 : List (List Int)) : laws_markInt64SS.l2 (k + 1) i3 i4 x5 =
  if (decide (i4 < (x5.length : Int))) = true then
    if 0 ≤ i4 ∧ i4 < (x5.length : Int) then
      (laws_markInt64S.F (x5.getD i4.toNat ([] : List Int), i3, ())).bind fun r6 =>
        laws_markInt64SS.l2 k (r6.1.1 : Int) (IntKind.i64.wrap (i4 + (1 : Int))) (x5.set i4.toNat r6.2.1)
    else
      none
  else
    some ((i3, ()), (x5, ())) := by kernel_rfl
noncomputable def laws_markInt64SS.T (k : Nat) (a_1 : List (List Int)) (k_2 : Int) : Option ((Int × Unit) × (List (List Int) × Unit)) :=
  laws_markInt64SS.l2 k k_2 (0 : Int) a_1
theorem laws_markInt64SS.run (k : Nat) (a_1 : List (List Int)) (k_2 : Int) : runFn laws_markInt64SS.cfg laws_markInt64SS.fin laws_markInt64SS.code (initSt laws_markInt64SS.sig.ps (a_1, k_2, ()) 19) k = laws_markInt64SS.T k a_1 k_2 := by kernel_rfl
theorem laws_markInt64SS.of (a_1 : List (List Int)) (k_2 : Int) {r : (Int × Unit) × (List (List Int) × Unit)} (h : Ev (fun k => laws_markInt64SS.T k a_1 k_2) r) : laws_markInt64SS.F (a_1, k_2, ()) = some r := Ev.run (fun k => laws_markInt64SS.run k a_1 k_2) h
theorem laws_markInt64SS.ok : CtxOK Go.Proofs.Tryz.prog laws_markInt64SS.ctx := ⟨List.forall_mem_nil _, mixed_ok, tab_ok tab_good, List.forall_mem_cons.2 ⟨laws_markInt64S.S, List.forall_mem_nil _⟩, List.forall_mem_nil _, List.forall_mem_nil _⟩
theorem laws_markInt64SS.S : Sound Go.Proofs.Tryz.prog ⟨71, laws_markInt64SS.sig, laws_markInt64SS.F⟩ := sound_any (fn := Go.Proofs.Tryz.f71) (code := laws_markInt64SS.code) (g := laws_markInt64SS.cfg) (res := [.tmp 4]) Go.Proofs.Tryz.func71 (by kernel_rfl) (by kernel_rfl) laws_markInt64SS.ok (by kernel_rfl) (by kernel_rfl) (Nat.le_of_ble_eq_true (by kernel_rfl)) (by kernel_rfl)
/-! ### laws_markComplex -/
noncomputable def laws_markComplex.sig : Sig := ⟨[.wr true (.sl (.sl (.int .i64))) .deep, .val false (.int .i64)], [(.val false, (.int .i64), .deep)]⟩
noncomputable def laws_markComplex.ctx : Ctx := ⟨tabOf tabl, [⟨71, laws_markInt64SS.sig, laws_markInt64SS.F⟩], [], [], [], []⟩
noncomputable def laws_markComplex.cfg : Cfg := ⟨laws_markComplex.ctx, [0], [], fun _ => ([], []), fun _ => []⟩
noncomputable def laws_markComplex.code : Code := (Go.Proofs.Tryz.f35).body.getD .skip
noncomputable def laws_markComplex.fin := finK laws_markComplex.ctx laws_markComplex.sig [.tmp 4]
noncomputable def laws_markComplex.F (d : List (List Int) × Int × Unit) : Option ((Int × Unit) × (List (List Int) × Unit)) := anyK (runFn laws_markComplex.cfg laws_markComplex.fin laws_markComplex.code (initSt laws_markComplex.sig.ps d 10))
noncomputable def laws_markComplex.T (a_1 : List (List Int)) (k_2 : Int) : Option ((Int × Unit) × (List (List Int) × Unit)) :=
  (laws_markInt64SS.F (a_1, k_2, ())).bind fun r3 =>
    some (((r3.1.1 : Int), ()), (r3.2.1, ()))
theorem laws_markComplex.run (k : Nat) (a_1 : List (List Int)) (k_2 : Int) : runFn laws_markComplex.cfg laws_markComplex.fin laws_markComplex.code (initSt laws_markComplex.sig.ps (a_1, k_2, ()) 10) k = laws_markComplex.T a_1 k_2 := by kernel_rfl
theorem laws_markComplex.eq (a_1 : List (List Int)) (k_2 : Int) : laws_markComplex.F (a_1, k_2, ()) = laws_markComplex.T a_1 k_2 := (congrArg anyK (funext fun k => laws_markComplex.run k a_1 k_2)).trans (anyK_const _)
theorem laws_markComplex.ok : CtxOK Go.Proofs.Tryz.prog laws_markComplex.ctx := ⟨List.forall_mem_nil _, mixed_ok, tab_ok tab_good, List.forall_mem_cons.2 ⟨laws_markInt64SS.S, List.forall_mem_nil _⟩, List.forall_mem_nil _, List.forall_mem_nil _⟩
theorem laws_markComplex.S : Sound Go.Proofs.Tryz.prog ⟨35, laws_markComplex.sig, laws_markComplex.F⟩ := sound_any (fn := Go.Proofs.Tryz.f35) (code := laws_markComplex.code) (g := laws_markComplex.cfg) (res := [.tmp 4]) Go.Proofs.Tryz.func35 (by kernel_rfl) (by kernel_rfl) laws_markComplex.ok (by kernel_rfl) (by kernel_rfl) (Nat.le_of_ble_eq_true (by kernel_rfl)) (by kernel_rfl)
/-! ### laws_markMatrixS -/
noncomputable def laws_markMatrixS.sig : Sig := ⟨[.wr false (.sl TMatrix) .deep, .val false (.int .i64)], [(.val false, (.int .i64), .deep)]⟩
noncomputable def laws_markMatrixS.ctx : Ctx := ⟨tabOf tabl, [⟨36, laws_markInt64S.sig, laws_markInt64S.F⟩], [], [], [], []⟩
noncomputable def laws_markMatrixS.cfg : Cfg := ⟨laws_markMatrixS.ctx, [0], [], fun id => match id with | 2 => ([0, 1, 5], [0]) | _ => ([], []), fun _ => []⟩
noncomputable def laws_markMatrixS.code : Code := (Go.Proofs.Tryz.f37).body.getD .skip
noncomputable def laws_markMatrixS.fin := finK laws_markMatrixS.ctx laws_markMatrixS.sig [.tmp 4]
noncomputable def laws_markMatrixS.F (d : List (Int × Int × Int × List Int) × Int × Unit) : Option ((Int × Unit) × (List (Int × Int × Int × List Int) × Unit)) := anyK (runFn laws_markMatrixS.cfg laws_markMatrixS.fin laws_markMatrixS.code (initSt laws_markMatrixS.sig.ps d 41))
noncomputable def laws_markMatrixS.l2 (k : Nat) (i3 : Int) (i4 : Int) (x5 : List (Int × Int × Int × List Int)) : Option ((Int × Unit) × (List (Int × Int × Int × List Int) × Unit)) :=
  Go.Vm.runT laws_markMatrixS.cfg laws_markMatrixS.fin k [.inLoop (sub [1, 0, 1, 0, 0] laws_markMatrixS.code), .inBlock 0, .code (sub [1, 1] laws_markMatrixS.code)]
    ⟨[.view 0 (.root 0) 1 false, .val false [⟨(.int .i64), .sh, i3⟩], .dead, .dead, .dead, .val false [⟨(.int .i64), .sh, i4⟩]] ++ deads 35, [(0, ⟨false, [⟨(.sl TMatrix), .deep, x5⟩]⟩)]⟩
theorem laws_markMatrixS.l2_eq (k : Nat) (i3 : Int) (i4 : Int) (x5 : List (Int × Int × Int × List Int)) : laws_markMatrixS.l2 (k + 1) i3 i4 x5 =
  if (decide (i4 < (x5.length : Int))) = true then
    if 0 ≤ i4 ∧ i4 < (x5.length : Int) then
      if 0 ≤ i4 ∧ i4 < ((x5.set i4.toNat (i3, (x5.getD i4.toNat (0, 0, 0, ([] : List Int))).2)).length : Int) then
        let y6 : List (Int × Int × Int × List Int) := (x5.set i4.toNat (i3, (x5.getD i4.toNat (0, 0, 0, ([] : List Int))).2)).set i4.toNat (((x5.set i4.toNat (i3, (x5.getD i4.toNat (0, 0, 0, ([] : List Int))).2)).getD i4.toNat (0, 0, 0, ([] : List Int))).1, (IntKind.i64.wrap (i3 + (1 : Int)), (((x5.set i4.toNat (i3, (x5.getD i4.toNat (0, 0, 0, ([] : List Int))).2)).getD i4.toNat (0, 0, 0, ([] : List Int))).2).2))
        if 0 ≤ i4 ∧ i4 < (y6.length : Int) then
          let y7 : List (Int × Int × Int × List Int) := y6.set i4.toNat ((y6.getD i4.toNat (0, 0, 0, ([] : List Int))).1, (((y6.getD i4.toNat (0, 0, 0, ([] : List Int))).2).1, (IntKind.i64.wrap ((IntKind.i64.wrap (i3 + (1 : Int))) + (1 : Int)), (((y6.getD i4.toNat (0, 0, 0, ([] : List Int))).2).2).2)))
          if 0 ≤ i4 ∧ i4 < (y7.length : Int) then
            (laws_markInt64S.F ((((y7.getD i4.toNat (0, 0, 0, ([] : List Int))).2).2).2, IntKind.i64.wrap ((IntKind.i64.wrap ((IntKind.i64.wrap (i3 + (1 : Int))) + (1 : Int))) + (1 : Int)), ())).bind fun r8 =>
              laws_markMatrixS.l2 k (r8.1.1 : Int) (IntKind.i64.wrap (i4 + (1 : Int))) (y7.set i4.toNat ((y7.getD i4.toNat (0, 0, 0, ([] : List Int))).1, (((y7.getD i4.toNat (0, 0, 0, ([] : List Int))).2).1, ((((y7.getD i4.toNat (0, 0, 0, ([] : List Int))).2).2).1, r8.2.1))))
          else
            none
        else
          none
      else
        none
    else
      none
  else
    some ((i3, ()), (x5, ())) := by kernel_rfl
noncomputable def laws_markMatrixS.T (k : Nat) (a_1 : List (Int × Int × Int × List Int)) (k_2 : Int) : Option ((Int × Unit) × (List (Int × Int × Int × List Int) × Unit)) :=
  laws_markMatrixS.l2 k k_2 (0 : Int) a_1
theorem laws_markMatrixS.run (k : Nat) (a_1 : List (Int × Int × Int × List Int)) (k_2 : Int) : runFn laws_markMatrixS.cfg laws_markMatrixS.fin laws_markMatrixS.code (initSt laws_markMatrixS.sig.ps (a_1, k_2, ()) 41) k = laws_markMatrixS.T k a_1 k_2 := by kernel_rfl
theorem laws_markMatrixS.of (a_1 : List (Int × Int × Int × List Int)) (k_2 : Int) {r : (Int × Unit) × (List (Int × Int × Int × List Int) × Unit)} (h : Ev (fun k => laws_markMatrixS.T k a_1 k_2) r) : laws_markMatrixS.F (a_1, k_2, ()) = some r := Ev.run (fun k => laws_markMatrixS.run k a_1 k_2) h
theorem laws_markMatrixS.ok : CtxOK Go.Proofs.Tryz.prog laws_markMatrixS.ctx := ⟨List.forall_mem_nil _, mixed_ok, tab_ok tab_good, List.forall_mem_cons.2 ⟨laws_markInt64S.S, List.forall_mem_nil _⟩, List.forall_mem_nil _, List.forall_mem_nil _⟩
theorem laws_markMatrixS.S : Sound Go.Proofs.Tryz.prog ⟨37, laws_markMatrixS.sig, laws_markMatrixS.F⟩ := sound_any (fn := Go.Proofs.Tryz.f37) (code := laws_markMatrixS.code) (g := laws_markMatrixS.cfg) (res := [.tmp 4]) Go.Proofs.Tryz.func37 (by kernel_rfl) (by kernel_rfl) laws_markMatrixS.ok (by kernel_rfl) (by kernel_rfl) (Nat.le_of_ble_eq_true (by kernel_rfl)) (by kernel_rfl)
/-! ### laws_markSheaf -/
noncomputable def laws_markSheaf.sig : Sig := ⟨[.wr true TSheaf .deep, .val false (.int .i64)], [(.val false, (.int .i64), .deep)]⟩
noncomputable def laws_markSheaf.ctx : Ctx := ⟨tabOf tabl, [⟨35, laws_markComplex.sig, laws_markComplex.F⟩, ⟨36, laws_markInt64S.sig, laws_markInt64S.F⟩, ⟨37, laws_markMatrixS.sig, laws_markMatrixS.F⟩], [], [], [], []⟩
noncomputable def laws_markSheaf.cfg : Cfg := ⟨laws_markSheaf.ctx, [0], [], fun _ => ([], []), fun _ => []⟩
noncomputable def laws_markSheaf.code : Code := (Go.Proofs.Tryz.f12).body.getD .skip
noncomputable def laws_markSheaf.fin := finK laws_markSheaf.ctx laws_markSheaf.sig [.tmp 4]
noncomputable def laws_markSheaf.F (d : (List (List Int) × Int × List Int × List (Int × Int × Int × List Int)) × Int × Unit) : Option ((Int × Unit) × ((List (List Int) × Int × List Int × List (Int × Int × Int × List Int)) × Unit)) := anyK (runFn laws_markSheaf.cfg laws_markSheaf.fin laws_markSheaf.code (initSt laws_markSheaf.sig.ps d 18))
noncomputable def laws_markSheaf.T (a_1 : List (List Int)) (a_2 : Int) (a_3 : List Int) (a_4 : List (Int × Int × Int × List Int)) (k_5 : Int) : Option ((Int × Unit) × ((List (List Int) × Int × List Int × List (Int × Int × Int × List Int)) × Unit)) :=
  (laws_markComplex.F (a_1, k_5, ())).bind fun r6 =>
    (laws_markInt64S.F (a_3, (r6.1.1 : Int), ())).bind fun r7 =>
      (laws_markMatrixS.F (a_4, (r7.1.1 : Int), ())).bind fun r8 =>
        some (((r8.1.1 : Int), ()), ((r6.2.1, (a_2, (r7.2.1, r8.2.1))), ()))
theorem laws_markSheaf.run (k : Nat) (a_1 : List (List Int)) (a_2 : Int) (a_3 : List Int) (a_4 : List (Int × Int × Int × List Int)) (k_5 : Int) : runFn laws_markSheaf.cfg laws_markSheaf.fin laws_markSheaf.code (initSt laws_markSheaf.sig.ps ((a_1, (a_2, (a_3, a_4))), k_5, ()) 18) k = laws_markSheaf.T a_1 a_2 a_3 a_4 k_5 := by kernel_rfl
theorem laws_markSheaf.eq (a_1 : List (List Int)) (a_2 : Int) (a_3 : List Int) (a_4 : List (Int × Int × Int × List Int)) (k_5 : Int) : laws_markSheaf.F ((a_1, (a_2, (a_3, a_4))), k_5, ()) = laws_markSheaf.T a_1 a_2 a_3 a_4 k_5 := (congrArg anyK (funext fun k => laws_markSheaf.run k a_1 a_2 a_3 a_4 k_5)).trans (anyK_const _)
theorem laws_markSheaf.ok : CtxOK Go.Proofs.Tryz.prog laws_markSheaf.ctx := ⟨List.forall_mem_nil _, mixed_ok, tab_ok tab_good, List.forall_mem_cons.2 ⟨laws_markComplex.S, List.forall_mem_cons.2 ⟨laws_markInt64S.S, List.forall_mem_cons.2 ⟨laws_markMatrixS.S, List.forall_mem_nil _⟩⟩⟩, List.forall_mem_nil _, List.forall_mem_nil _⟩
theorem laws_markSheaf.S : Sound Go.Proofs.Tryz.prog ⟨12, laws_markSheaf.sig, laws_markSheaf.F⟩ := sound_any (fn := Go.Proofs.Tryz.f12) (code := laws_markSheaf.code) (g := laws_markSheaf.cfg) (res := [.tmp 4]) Go.Proofs.Tryz.func12 (by kernel_rfl) (by kernel_rfl) laws_markSheaf.ok (by kernel_rfl) (by kernel_rfl) (Nat.le_of_ble_eq_true (by kernel_rfl)) (by kernel_rfl)
/-! ### laws_markCosheaf -/
noncomputable def laws_markCosheaf.sig : Sig := ⟨[.wr true TSheaf .deep, .val false (.int .i64)], [(.val false, (.int .i64), .deep)]⟩
noncomputable def laws_markCosheaf.ctx : Ctx := ⟨tabOf tabl, [⟨35, laws_markComplex.sig, laws_markComplex.F⟩, ⟨36, laws_markInt64S.sig, laws_markInt64S.F⟩, ⟨37, laws_markMatrixS.sig, laws_markMatrixS.F⟩], [], [], [], []⟩
noncomputable def laws_markCosheaf.cfg : Cfg := ⟨laws_markCosheaf.ctx, [0], [], fun _ => ([], []), fun _ => []⟩
noncomputable def laws_markCosheaf.code : Code := (Go.Proofs.Tryz.f13).body.getD .skip
noncomputable def laws_markCosheaf.fin := finK laws_markCosheaf.ctx laws_markCosheaf.sig [.tmp 4]
noncomputable def laws_markCosheaf.F (d : (List (List Int) × Int × List Int × List (Int × Int × Int × List Int)) × Int × Unit) : Option ((Int × Unit) × ((List (List Int) × Int × List Int × List (Int × Int × Int × List Int)) × Unit)) := anyK (runFn laws_markCosheaf.cfg laws_markCosheaf.fin laws_markCosheaf.code (initSt laws_markCosheaf.sig.ps d 18))
noncomputable def laws_markCosheaf.T (a_1 : List (List Int)) (a_2 : Int) (a_3 : List Int) (a_4 : List (Int × Int × Int × List Int)) (k_5 : Int) : Option ((Int × Unit) × ((List (List Int) × Int × List Int × List (Int × Int × Int × List Int)) × Unit)) :=
  (laws_markComplex.F (a_1, k_5, ())).bind fun r6 =>
    (laws_markInt64S.F (a_3, (r6.1.1 : Int), ())).bind fun r7 =>
      (laws_markMatrixS.F (a_4, (r7.1.1 : Int), ())).bind fun r8 =>
        some (((r8.1.1 : Int), ()), ((r6.2.1, (a_2, (r7.2.1, r8.2.1))), ()))
theorem laws_markCosheaf.run (k : Nat) (a_1 : List (List Int)) (a_2 : Int) (a_3 : List Int) (a_4 : List (Int × Int × Int × List Int)) (k_5 : Int) : runFn laws_markCosheaf.cfg laws_markCosheaf.fin laws_markCosheaf.code (initSt laws_markCosheaf.sig.ps ((a_1, (a_2, (a_3, a_4))), k_5, ()) 18) k = laws_markCosheaf.T a_1 a_2 a_3 a_4 k_5 := by kernel_rfl
theorem laws_markCosheaf.eq (a_1 : List (List Int)) (a_2 : Int) (a_3 : List Int) (a_4 : List (Int × Int × Int × List Int)) (k_5 : Int) : laws_markCosheaf.F ((a_1, (a_2, (a_3, a_4))), k_5, ()) = laws_markCosheaf.T a_1 a_2 a_3 a_4 k_5 := (congrArg anyK (funext fun k => laws_markCosheaf.run k a_1 a_2 a_3 a_4 k_5)).trans (anyK_const _)
theorem laws_markCosheaf.ok : CtxOK Go.Proofs.Tryz.prog laws_markCosheaf.ctx := ⟨List.forall_mem_nil _, mixed_ok, tab_ok tab_good, List.forall_mem_cons.2 ⟨laws_markComplex.S, List.forall_mem_cons.2 ⟨laws_markInt64S.S, List.forall_mem_cons.2 ⟨laws_markMatrixS.S, List.forall_mem_nil _⟩⟩⟩, List.forall_mem_nil _, List.forall_mem_nil _⟩
theorem laws_markCosheaf.S : Sound Go.Proofs.Tryz.prog ⟨13, laws_markCosheaf.sig, laws_markCosheaf.F⟩ := sound_any (fn := Go.Proofs.Tryz.f13) (code := laws_markCosheaf.code) (g := laws_markCosheaf.cfg) (res := [.tmp 4]) Go.Proofs.Tryz.func13 (by kernel_rfl) (by kernel_rfl) laws_markCosheaf.ok (by kernel_rfl) (by kernel_rfl) (Nat.le_of_ble_eq_true (by kernel_rfl)) (by kernel_rfl)
/-! ### laws_heldInt64S -/
noncomputable def laws_heldInt64S.sig : Sig := ⟨[.val false (.sl (.int .i64)), .val false (.int .i64)], [(.val false, (.int .i64), .deep)]⟩
noncomputable def laws_heldInt64S.ctx : Ctx := ⟨tabOf tabl, [], [], [], [], []⟩
noncomputable def laws_heldInt64S.cfg : Cfg := ⟨laws_heldInt64S.ctx, [], [], fun id => match id with | 2 => ([0, 1, 5], []) | _ => ([], []), fun _ => []⟩
noncomputable def laws_heldInt64S.code : Code := (Go.Proofs.Tryz.f39).body.getD .skip
noncomputable def laws_heldInt64S.fin := finK laws_heldInt64S.ctx laws_heldInt64S.sig [.tmp 4]
noncomputable def laws_heldInt64S.F (d : List Int × Int × Unit) : Option ((Int × Unit) × (Unit)) := anyK (runFn laws_heldInt64S.cfg laws_heldInt64S.fin laws_heldInt64S.code (initSt laws_heldInt64S.sig.ps d 21))
noncomputable def laws_heldInt64S.l2 (k : Nat) (x3 : List Int) (i4 : Int) (i5 : Int) : Option ((Int × Unit) × (Unit)) :=
  Go.Vm.runT laws_heldInt64S.cfg laws_heldInt64S.fin k [.inLoop (sub [1, 0, 1, 0, 0] laws_heldInt64S.code), .inBlock 0, .code (sub [1, 1] laws_heldInt64S.code)]
    ⟨[.val false [⟨(.sl (.int .i64)), .sh, x3⟩], .val false [⟨(.int .i64), .sh, i4⟩], .dead, .dead, .dead, .val false [⟨(.int .i64), .sh, i5⟩]] ++ deads 15, []⟩
theorem laws_heldInt64S.l2_eq (k : Nat) (x3 : List Int) (i4 : Int) (i5 : Int) : laws_heldInt64S.l2 (k + 1) x3 i4 i5 =
  if (decide (i5 < (x3.length : Int))) = true then
    if 0 ≤ i5 ∧ i5 < (x3.length : Int) then
      if ((x3.getD i5.toNat 0 : Int) != i4) = true then
        some (((-1 : Int), ()), ())
      else
        laws_heldInt64S.l2 k x3 (IntKind.i64.wrap (i4 + (1 : Int))) (IntKind.i64.wrap (i5 + (1 : Int)))
    else
      none
  else
    some ((i4, ()), ()) := by kernel_rfl
noncomputable def laws_heldInt64S.T (k : Nat) (a_1 : List Int) (k_2 : Int) : Option ((Int × Unit) × (Unit)) :=
  laws_heldInt64S.l2 k a_1 k_2 (0 : Int)
theorem laws_heldInt64S.run (k : Nat) (a_1 : List Int) (k_2 : Int) : runFn laws_heldInt64S.cfg laws_heldInt64S.fin laws_heldInt64S.code (initSt laws_heldInt64S.sig.ps (a_1, k_2, ()) 21) k = laws_heldInt64S.T k a_1 k_2 := by kernel_rfl
theorem laws_heldInt64S.of (a_1 : List Int) (k_2 : Int) {r : (Int × Unit) × (Unit)} (h : Ev (fun k => laws_heldInt64S.T k a_1 k_2) r) : laws_heldInt64S.F (a_1, k_2, ()) = some r := Ev.run (fun k => laws_heldInt64S.run k a_1 k_2) h
theorem laws_heldInt64S.ok : CtxOK Go.Proofs.Tryz.prog laws_heldInt64S.ctx := ⟨List.forall_mem_nil _, mixed_ok, tab_ok tab_good, List.forall_mem_nil _, List.forall_mem_nil _, List.forall_mem_nil _⟩
theorem laws_heldInt64S.S : Sound Go.Proofs.Tryz.prog ⟨39, laws_heldInt64S.sig, laws_heldInt64S.F⟩ := sound_any (fn := Go.Proofs.Tryz.f39) (code := laws_heldInt64S.code) (g := laws_heldInt64S.cfg) (res := [.tmp 4]) Go.Proofs.Tryz.func39 (by kernel_rfl) (by kernel_rfl) laws_heldInt64S.ok (by kernel_rfl) (by kernel_rfl) (Nat.le_of_ble_eq_true (by kernel_rfl)) (by kernel_rfl)
/-! ### laws_heldInt64SS -/
noncomputable def laws_heldInt64SS.sig : Sig := ⟨[.val false (.sl (.sl (.int .i64))), .val false (.int .i64)], [(.val false, (.int .i64), .deep)]⟩
noncomputable def laws_heldInt64SS.ctx : Ctx := ⟨tabOf tabl, [⟨39, laws_heldInt64S.sig, laws_heldInt64S.F⟩], [], [], [], []⟩
noncomputable def laws_heldInt64SS.cfg : Cfg := ⟨laws_heldInt64SS.ctx, [], [], fun id => match id with | 2 => ([0, 1, 5], []) | _ => ([], []), fun _ => []⟩
noncomputable def laws_heldInt64SS.code : Code := (Go.Proofs.Tryz.f72).body.getD .skip
noncomputable def laws_heldInt64SS.fin := finK laws_heldInt64SS.ctx laws_heldInt64SS.sig [.tmp 4]
noncomputable def laws_heldInt64SS.F (d : List (List Int) × Int × Unit) : Option ((Int × Unit) × (Unit)) := anyK (runFn laws_heldInt64SS.cfg laws_heldInt64SS.fin laws_heldInt64SS.code (initSt laws_heldInt64SS.sig.ps d 21))
noncomputable def laws_heldInt64SS.l2 (k : Nat) (x3 : List (List Int)) (i4 : Int) (i5 : Int) : Option ((Int × Unit) × (Unit)) :=
  Go.Vm.runT laws_heldInt64SS.cfg laws_heldInt64SS.fin k [.inLoop (sub [1, 0, 1, 0, 0] laws_heldInt64SS.code), .inBlock 0, .code (sub [1, 1] laws_heldInt64SS.code)]
    ⟨[.val false [⟨(.sl (.sl (.int .i64))), .sh, x3⟩], .val false [⟨(.int .i64), .sh, i4⟩], .dead, .dead, .dead, .val false [⟨(.int .i64), .sh, i5⟩]] ++ deads 15, []⟩
theorem laws_heldInt64SS.l2_eq (k : Nat) (x3 : List (List Int)) (i4 : Int) (i5 : Int) : laws_heldInt64SS.l2 (k + 1) x3 i4 i5 =
  if (decide (i5 < (x3.length : Int))) = true then
    if 0 ≤ i5 ∧ i5 < (x3.length : Int) then
      (laws_heldInt64S.F (x3.getD i5.toNat ([] : List Int), i4, ())).bind fun r6 =>
        if (decide ((r6.1.1 : Int) < (0 : Int))) = true then
          some (((-1 : Int), ()), ())
        else
          laws_heldInt64SS.l2 k x3 (r6.1.1 : Int) (IntKind.i64.wrap (i5 + (1 : Int)))
    else
      none
  else
    some ((i4, ()), ()) := by kernel_rfl
noncomputable def laws_heldInt64SS.T (k : Nat) (a_1 : List (List Int)) (k_2 : Int) : Option ((Int × Unit) × (Unit)) :=
  laws_heldInt64SS.l2 k a_1 k_2 (0 : Int)
theorem laws_heldInt64SS.run (k : Nat) (a_1 : List (List Int)) (k_2 : Int) : runFn laws_heldInt64SS.cfg laws_heldInt64SS.fin laws_heldInt64SS.code (initSt laws_heldInt64SS.sig.ps (a_1, k_2, ()) 21) k = laws_heldInt64SS.T k a_1 k_2 := by kernel_rfl
theorem laws_heldInt64SS.of (a_1 : List (List Int)) (k_2 : Int) {r : (Int × Unit) × (Unit)} (h : Ev (fun k => laws_heldInt64SS.T k a_1 k_2) r) : laws_heldInt64SS.F (a_1, k_2, ()) = some r := Ev.run (fun k => laws_heldInt64SS.run k a_1 k_2) h
theorem laws_heldInt64SS.ok : CtxOK Go.Proofs.Tryz.prog laws_heldInt64SS.ctx := ⟨List.forall_mem_nil _, mixed_ok, tab_ok tab_good, List.forall_mem_cons.2 ⟨laws_heldInt64S.S, List.forall_mem_nil _⟩, List.forall_mem_nil _, List.forall_mem_nil _⟩
theorem laws_heldInt64SS.S : Sound Go.Proofs.Tryz.prog ⟨72, laws_heldInt64SS.sig, laws_heldInt64SS.F⟩ := sound_any (fn := Go.Proofs.Tryz.f72) (code := laws_heldInt64SS.code) (g := laws_heldInt64SS.cfg) (res := [.tmp 4]) Go.Proofs.Tryz.func72 (by kernel_rfl) (by kernel_rfl) laws_heldInt64SS.ok (by kernel_rfl) (by kernel_rfl) (Nat.le_of_ble_eq_true (by kernel_rfl)) (by kernel_rfl)
/-! ### laws_heldComplex -/
noncomputable def laws_heldComplex.sig : Sig := ⟨[.val true (.sl (.sl (.int .i64))), .val false (.int .i64)], [(.val false, (.int .i64), .deep)]⟩
noncomputable def laws_heldComplex.ctx : Ctx := ⟨tabOf tabl, [⟨72, laws_heldInt64SS.sig, laws_heldInt64SS.F⟩], [], [], [], []⟩
noncomputable def laws_heldComplex.cfg : Cfg := ⟨laws_heldComplex.ctx, [], [], fun _ => ([], []), fun _ => []⟩
noncomputable def laws_heldComplex.code : Code := (Go.Proofs.Tryz.f38).body.getD .skip
noncomputable def laws_heldComplex.fin := finK laws_heldComplex.ctx laws_heldComplex.sig [.tmp 4]
noncomputable def laws_heldComplex.F (d : List (List Int) × Int × Unit) : Option ((Int × Unit) × (Unit)) := anyK (runFn laws_heldComplex.cfg laws_heldComplex.fin laws_heldComplex.code (initSt laws_heldComplex.sig.ps d 12))
noncomputable def laws_heldComplex.T (a_1 : List (List Int)) (k_2 : Int) : Option ((Int × Unit) × (Unit)) :=
  (laws_heldInt64SS.F (a_1, k_2, ())).bind fun r3 =>
    if (decide ((r3.1.1 : Int) < (0 : Int))) = true then
      some (((-1 : Int), ()), ())
    else
      some (((r3.1.1 : Int), ()), ())
theorem laws_heldComplex.run (k : Nat) (a_1 : List (List Int)) (k_2 : Int) : runFn laws_heldComplex.cfg laws_heldComplex.fin laws_heldComplex.code (initSt laws_heldComplex.sig.ps (a_1, k_2, ()) 12) k = laws_heldComplex.T a_1 k_2 := by kernel_rfl
theorem laws_heldComplex.eq (a_1 : List (List Int)) (k_2 : Int) : laws_heldComplex.F (a_1, k_2, ()) = laws_heldComplex.T a_1 k_2 := (congrArg anyK (funext fun k => laws_heldComplex.run k a_1 k_2)).trans (anyK_const _)
theorem laws_heldComplex.ok : CtxOK Go.Proofs.Tryz.prog laws_heldComplex.ctx := ⟨List.forall_mem_nil _, mixed_ok, tab_ok tab_good, List.forall_mem_cons.2 ⟨laws_heldInt64SS.S, List.forall_mem_nil _⟩, List.forall_mem_nil _, List.forall_mem_nil _⟩
theorem laws_heldComplex.S : Sound Go.Proofs.Tryz.prog ⟨38, laws_heldComplex.sig, laws_heldComplex.F⟩ := sound_any (fn := Go.Proofs.Tryz.f38) (code := laws_heldComplex.code) (g := laws_heldComplex.cfg) (res := [.tmp 4]) Go.Proofs.Tryz.func38 (by kernel_rfl) (by kernel_rfl) laws_heldComplex.ok (by kernel_rfl) (by kernel_rfl) (Nat.le_of_ble_eq_true (by kernel_rfl)) (by kernel_rfl)
/-! ### laws_heldMatrixS -/
noncomputable def laws_heldMatrixS.sig : Sig := ⟨[.val false (.sl TMatrix), .val false (.int .i64)], [(.val false, (.int .i64), .deep)]⟩
noncomputable def laws_heldMatrixS.ctx : Ctx := ⟨tabOf tabl, [⟨39, laws_heldInt64S.sig, laws_heldInt64S.F⟩], [], [], [], []⟩
noncomputable def laws_heldMatrixS.cfg : Cfg := ⟨laws_heldMatrixS.ctx, [], [], fun id => match id with | 2 => ([0, 1, 5], []) | _ => ([], []), fun _ => []⟩
noncomputable def laws_heldMatrixS.code : Code := (Go.Proofs.Tryz.f40).body.getD .skip
noncomputable def laws_heldMatrixS.fin := finK laws_heldMatrixS.ctx laws_heldMatrixS.sig [.tmp 4]
noncomputable def laws_heldMatrixS.F (d : List (Int × Int × Int × List Int) × Int × Unit) : Option ((Int × Unit) × (Unit)) := anyK (runFn laws_heldMatrixS.cfg laws_heldMatrixS.fin laws_heldMatrixS.code (initSt laws_heldMatrixS.sig.ps d 49))
noncomputable def laws_heldMatrixS.l2 (k : Nat) (x3 : List (Int × Int × Int × List Int)) (i4 : Int) (i5 : Int) : Option ((Int × Unit) × (Unit)) :=
  Go.Vm.runT laws_heldMatrixS.cfg laws_heldMatrixS.fin k [.inLoop (sub [1, 0, 1, 0, 0] laws_heldMatrixS.code), .inBlock 0, .code (sub [1, 1] laws_heldMatrixS.code)]
    ⟨[.val false [⟨(.sl TMatrix), .sh, x3⟩], .val false [⟨(.int .i64), .sh, i4⟩], .dead, .dead, .dead, .val false [⟨(.int .i64), .sh, i5⟩]] ++ deads 43, []⟩
theorem laws_heldMatrixS.l2_eq (k : Nat) (x3 : List (Int × Int × Int × List Int)) (i4 : Int) (i5 : Int) : laws_heldMatrixS.l2 (k + 1) x3 i4 i5 =
  if (decide (i5 < (x3.length : Int))) = true then
    if 0 ≤ i5 ∧ i5 < (x3.length : Int) then
      if (((x3.getD i5.toNat (0, 0, 0, ([] : List Int))).1) != i4) = true then
        some (((-1 : Int), ()), ())
      else
        if 0 ≤ i5 ∧ i5 < (x3.length : Int) then
          if ((((x3.getD i5.toNat (0, 0, 0, ([] : List Int))).2).1) != (IntKind.i64.wrap (i4 + (1 : Int)))) = true then
            some (((-1 : Int), ()), ())
          else
            if 0 ≤ i5 ∧ i5 < (x3.length : Int) then
              if (((((x3.getD i5.toNat (0, 0, 0, ([] : List Int))).2).2).1) != (IntKind.i64.wrap ((IntKind.i64.wrap (i4 + (1 : Int))) + (1 : Int)))) = true then
                some (((-1 : Int), ()), ())
              else
                if 0 ≤ i5 ∧ i5 < (x3.length : Int) then
                  (laws_heldInt64S.F ((((x3.getD i5.toNat (0, 0, 0, ([] : List Int))).2).2).2, IntKind.i64.wrap ((IntKind.i64.wrap ((IntKind.i64.wrap (i4 + (1 : Int))) + (1 : Int))) + (1 : Int)), ())).bind fun r6 =>
                    if (decide ((r6.1.1 : Int) < (0 : Int))) = true then
                      some (((-1 : Int), ()), ())
                    else
                      laws_heldMatrixS.l2 k x3 (r6.1.1 : Int) (IntKind.i64.wrap (i5 + (1 : Int)))
                else
                  none
            else
              none
        else
          none
    else
      none
  else
    some ((i4, ()), ()) := by kernel_rfl
noncomputable def laws_heldMatrixS.T (k : Nat) (a_1 : List (Int × Int × Int × List Int)) (k_2 : Int) : Option ((Int × Unit) × (Unit)) :=
  laws_heldMatrixS.l2 k a_1 k_2 (0 : Int)
theorem laws_heldMatrixS.run (k : Nat) (a_1 : List (Int × Int × Int × List Int)) (k_2 : Int) : runFn laws_heldMatrixS.cfg laws_heldMatrixS.fin laws_heldMatrixS.code (initSt laws_heldMatrixS.sig.ps (a_1, k_2, ()) 49) k = laws_heldMatrixS.T k a_1 k_2 := by kernel_rfl
theorem laws_heldMatrixS.of (a_1 : List (Int × Int × Int × List Int)) (k_2 : Int) {r : (Int × Unit) × (Unit)} (h : Ev (fun k => laws_heldMatrixS.T k a_1 k_2) r) : laws_heldMatrixS.F (a_1, k_2, ()) = some r := Ev.run (fun k => laws_heldMatrixS.run k a_1 k_2) h
theorem laws_heldMatrixS.ok : CtxOK Go.Proofs.Tryz.prog laws_heldMatrixS.ctx := ⟨List.forall_mem_nil _, mixed_ok, tab_ok tab_good, List.forall_mem_cons.2 ⟨laws_heldInt64S.S, List.forall_mem_nil _⟩, List.forall_mem_nil _, List.forall_mem_nil _⟩
theorem laws_heldMatrixS.S : Sound Go.Proofs.Tryz.prog ⟨40, laws_heldMatrixS.sig, laws_heldMatrixS.F⟩ := sound_any (fn := Go.Proofs.Tryz.f40) (code := laws_heldMatrixS.code) (g := laws_heldMatrixS.cfg) (res := [.tmp 4]) Go.Proofs.Tryz.func40 (by kernel_rfl) (by kernel_rfl) laws_heldMatrixS.ok (by kernel_rfl) (by kernel_rfl) (Nat.le_of_ble_eq_true (by kernel_rfl)) (by kernel_rfl)
/-! ### laws_heldCosheaf -/
noncomputable def laws_heldCosheaf.sig : Sig := ⟨[.val true TSheaf, .val false (.int .i64)], [(.val false, (.int .i64), .deep)]⟩
noncomputable def laws_heldCosheaf.ctx : Ctx := ⟨tabOf tabl, [⟨38, laws_heldComplex.sig, laws_heldComplex.F⟩, ⟨39, laws_heldInt64S.sig, laws_heldInt64S.F⟩, ⟨40, laws_heldMatrixS.sig, laws_heldMatrixS.F⟩], [], [], [], []⟩
noncomputable def laws_heldCosheaf.cfg : Cfg := ⟨laws_heldCosheaf.ctx, [], [], fun _ => ([], []), fun _ => []⟩
noncomputable def laws_heldCosheaf.code : Code := (Go.Proofs.Tryz.f14).body.getD .skip
noncomputable def laws_heldCosheaf.fin := finK laws_heldCosheaf.ctx laws_heldCosheaf.sig [.tmp 4]
noncomputable def laws_heldCosheaf.F (d : (List (List Int) × Int × List Int × List (Int × Int × Int × List Int)) × Int × Unit) : Option ((Int × Unit) × (Unit)) := anyK (runFn laws_heldCosheaf.cfg laws_heldCosheaf.fin laws_heldCosheaf.code (initSt laws_heldCosheaf.sig.ps d 24))
noncomputable def laws_heldCosheaf.T (a_1 : List (List Int)) (a_2 : Int) (a_3 : List Int) (a_4 : List (Int × Int × Int × List Int)) (k_5 : Int) : Option ((Int × Unit) × (Unit)) :=
  (laws_heldComplex.F (a_1, k_5, ())).bind fun r6 =>
    if (decide ((r6.1.1 : Int) < (0 : Int))) = true then
      some (((-1 : Int), ()), ())
    else
      (laws_heldInt64S.F (a_3, (r6.1.1 : Int), ())).bind fun r7 =>
        if (decide ((r7.1.1 : Int) < (0 : Int))) = true then
          some (((-1 : Int), ()), ())
        else
          (laws_heldMatrixS.F (a_4, (r7.1.1 : Int), ())).bind fun r8 =>
            if (decide ((r8.1.1 : Int) < (0 : Int))) = true then
              some (((-1 : Int), ()), ())
            else
              some (((r8.1.1 : Int), ()), ())
theorem laws_heldCosheaf.run (k : Nat) (a_1 : List (List Int)) (a_2 : Int) (a_3 : List Int) (a_4 : List (Int × Int × Int × List Int)) (k_5 : Int) : runFn laws_heldCosheaf.cfg laws_heldCosheaf.fin laws_heldCosheaf.code (initSt laws_heldCosheaf.sig.ps ((a_1, (a_2, (a_3, a_4))), k_5, ()) 24) k = laws_heldCosheaf.T a_1 a_2 a_3 a_4 k_5 := by kernel_rfl
theorem laws_heldCosheaf.eq (a_1 : List (List Int)) (a_2 : Int) (a_3 : List Int) (a_4 : List (Int × Int × Int × List Int)) (k_5 : Int) : laws_heldCosheaf.F ((a_1, (a_2, (a_3, a_4))), k_5, ()) = laws_heldCosheaf.T a_1 a_2 a_3 a_4 k_5 := (congrArg anyK (funext fun k => laws_heldCosheaf.run k a_1 a_2 a_3 a_4 k_5)).trans (anyK_const _)
theorem laws_heldCosheaf.ok : CtxOK Go.Proofs.Tryz.prog laws_heldCosheaf.ctx := ⟨List.forall_mem_nil _, mixed_ok, tab_ok tab_good, List.forall_mem_cons.2 ⟨laws_heldComplex.S, List.forall_mem_cons.2 ⟨laws_heldInt64S.S, List.forall_mem_cons.2 ⟨laws_heldMatrixS.S, List.forall_mem_nil _⟩⟩⟩, List.forall_mem_nil _, List.forall_mem_nil _⟩
theorem laws_heldCosheaf.S : Sound Go.Proofs.Tryz.prog ⟨14, laws_heldCosheaf.sig, laws_heldCosheaf.F⟩ := sound_any (fn := Go.Proofs.Tryz.f14) (code := laws_heldCosheaf.code) (g := laws_heldCosheaf.cfg) (res := [.tmp 4]) Go.Proofs.Tryz.func14 (by kernel_rfl) (by kernel_rfl) laws_heldCosheaf.ok (by kernel_rfl) (by kernel_rfl) (Nat.le_of_ble_eq_true (by kernel_rfl)) (by kernel_rfl)
/-! ### laws_FnExactDualOf -/
noncomputable def laws_FnExactDualOf.sig : Sig := ⟨[.val true TSheaf], [(.val false, .bool, .deep)]⟩
noncomputable def laws_FnExactDualOf.ctx : Ctx := ⟨tabOf tabl, [⟨6, laws_szSheaf.sig, laws_szSheaf.F⟩, ⟨7, spec_DualOf.sig, spec_DualOf.F⟩, ⟨8, laws_toSheaf.sig, laws_toSheaf.F⟩, ⟨9, impl_DualOf.sig, impl_DualOf.F⟩, ⟨10, laws_eqCosheaf.sig, laws_eqCosheaf.F⟩, ⟨11, laws_eqSheaf.sig, laws_eqSheaf.F⟩, ⟨12, laws_markSheaf.sig, laws_markSheaf.F⟩, ⟨13, laws_markCosheaf.sig, laws_markCosheaf.F⟩, ⟨14, laws_heldCosheaf.sig, laws_heldCosheaf.F⟩], [], [], [], []⟩
noncomputable def laws_FnExactDualOf.cfg : Cfg := ⟨laws_FnExactDualOf.ctx, [], [], fun _ => ([], []), fun _ => []⟩
noncomputable def laws_FnExactDualOf.code : Code := (Go.Proofs.Tryz.f3).body.getD .skip
noncomputable def laws_FnExactDualOf.fin := finK laws_FnExactDualOf.ctx laws_FnExactDualOf.sig [.tmp 2]
noncomputable def laws_FnExactDualOf.F (d : (List (List Int) × Int × List Int × List (Int × Int × Int × List Int)) × Unit) : Option ((Bool × Unit) × (Unit)) := anyK (runFn laws_FnExactDualOf.cfg laws_FnExactDualOf.fin laws_FnExactDualOf.code (initSt laws_FnExactDualOf.sig.ps d 96))
noncomputable def laws_FnExactDualOf.T (toArray_1 : List (List Int)) (toArray_2 : Int) (toArray_3 : List Int) (toArray_4 : List (Int × Int × Int × List Int)) : Option ((Bool × Unit) × (Unit)) :=
  (laws_szSheaf.F ((toArray_1, (toArray_2, (toArray_3, toArray_4))), (1048576 : Int), ())).bind fun r5 =>
    if (decide ((r5.1.1 : Int) < (0 : Int))) = true then
      some ((true, ()), ())
    else
      (laws_toSheaf.F ((toArray_1, (toArray_2, (toArray_3, toArray_4))), ())).bind fun r6 =>
        (spec_DualOf.F (r6.1.1, ())).bind fun r7 =>
          (laws_toSheaf.F ((toArray_1, (toArray_2, (toArray_3, toArray_4))), ())).bind fun r8 =>
            (impl_DualOf.F (r8.1.1, ())).bind fun r9 =>
              (laws_eqCosheaf.F (r9.1.1, r7.1.1, ())).bind fun r10 =>
                if (!(r10.1.1 : Bool)) = true then
                  some ((false, ()), ())
                else
                  if ((r9.1.2.1 : Int) != (r7.1.2.1 : Int)) = true then
                    some ((false, ()), ())
                  else
                    (laws_toSheaf.F ((toArray_1, (toArray_2, (toArray_3, toArray_4))), ())).bind fun r11 =>
                      (laws_eqSheaf.F (r8.1.1, r11.1.1, ())).bind fun r12 =>
                        if (!(r12.1.1 : Bool)) = true then
                          some ((false, ()), ())
                        else
                          (laws_markSheaf.F (r8.1.1, (1 : Int), ())).bind fun r13 =>
                            if (decide ((r13.1.1 : Int) < (0 : Int))) = true then
                              some ((false, ()), ())
                            else
                              (laws_eqCosheaf.F (r9.1.1, r7.1.1, ())).bind fun r14 =>
                                if (!(r14.1.1 : Bool)) = true then
                                  some ((false, ()), ())
                                else
                                  if ((r9.1.2.1 : Int) != (r7.1.2.1 : Int)) = true then
                                    some ((false, ()), ())
                                  else
                                    (laws_markCosheaf.F (r9.1.1, (1 : Int), ())).bind fun r15 =>
                                      (laws_heldCosheaf.F (r15.2.1, (1 : Int), ())).bind fun r16 =>
                                        if (decide ((r16.1.1 : Int) < (0 : Int))) = true then
                                          some ((false, ()), ())
                                        else
                                          if ((r16.1.1 : Int) != (r15.1.1 : Int)) = true then
                                            some ((false, ()), ())
                                          else
                                            (laws_toSheaf.F ((toArray_1, (toArray_2, (toArray_3, toArray_4))), ())).bind fun r17 =>
                                              (impl_DualOf.F (r17.1.1, ())).bind fun r18 =>
                                                (laws_eqCosheaf.F (r18.1.1, r7.1.1, ())).bind fun r19 =>
                                                  if (!(r19.1.1 : Bool)) = true then
                                                    some ((false, ()), ())
                                                  else
                                                    if ((r18.1.2.1 : Int) != (r7.1.2.1 : Int)) = true then
                                                      some ((false, ()), ())
                                                    else
                                                      (laws_heldCosheaf.F (r15.2.1, (1 : Int), ())).bind fun r20 =>
                                                        if (decide ((r20.1.1 : Int) < (0 : Int))) = true then
                                                          some ((false, ()), ())
                                                        else
                                                          if ((r20.1.1 : Int) != (r15.1.1 : Int)) = true then
                                                            some ((false, ()), ())
                                                          else
                                                            some ((true, ()), ())
theorem laws_FnExactDualOf.run (k : Nat) (toArray_1 : List (List Int)) (toArray_2 : Int) (toArray_3 : List Int) (toArray_4 : List (Int × Int × Int × List Int)) : runFn laws_FnExactDualOf.cfg laws_FnExactDualOf.fin laws_FnExactDualOf.code (initSt laws_FnExactDualOf.sig.ps ((toArray_1, (toArray_2, (toArray_3, toArray_4))), ()) 96) k = laws_FnExactDualOf.T toArray_1 toArray_2 toArray_3 toArray_4 := by kernel_rfl
theorem laws_FnExactDualOf.eq (toArray_1 : List (List Int)) (toArray_2 : Int) (toArray_3 : List Int) (toArray_4 : List (Int × Int × Int × List Int)) : laws_FnExactDualOf.F ((toArray_1, (toArray_2, (toArray_3, toArray_4))), ()) = laws_FnExactDualOf.T toArray_1 toArray_2 toArray_3 toArray_4 := (congrArg anyK (funext fun k => laws_FnExactDualOf.run k toArray_1 toArray_2 toArray_3 toArray_4)).trans (anyK_const _)
theorem laws_FnExactDualOf.ok : CtxOK Go.Proofs.Tryz.prog laws_FnExactDualOf.ctx := ⟨List.forall_mem_nil _, mixed_ok, tab_ok tab_good, List.forall_mem_cons.2 ⟨laws_szSheaf.S, List.forall_mem_cons.2 ⟨spec_DualOf.S, List.forall_mem_cons.2 ⟨laws_toSheaf.S, List.forall_mem_cons.2 ⟨impl_DualOf.S, List.forall_mem_cons.2 ⟨laws_eqCosheaf.S, List.forall_mem_cons.2 ⟨laws_eqSheaf.S, List.forall_mem_cons.2 ⟨laws_markSheaf.S, List.forall_mem_cons.2 ⟨laws_markCosheaf.S, List.forall_mem_cons.2 ⟨laws_heldCosheaf.S, List.forall_mem_nil _⟩⟩⟩⟩⟩⟩⟩⟩⟩, List.forall_mem_nil _, List.forall_mem_nil _⟩
theorem laws_FnExactDualOf.S : Sound Go.Proofs.Tryz.prog ⟨3, laws_FnExactDualOf.sig, laws_FnExactDualOf.F⟩ := sound_any (fn := Go.Proofs.Tryz.f3) (code := laws_FnExactDualOf.code) (g := laws_FnExactDualOf.cfg) (res := [.tmp 2]) Go.Proofs.Tryz.func3 (by kernel_rfl) (by kernel_rfl) laws_FnExactDualOf.ok (by kernel_rfl) (by kernel_rfl) (Nat.le_of_ble_eq_true (by kernel_rfl)) (by kernel_rfl)
end Go.Proofs.YtpibalgbkhpcbaaGreat
