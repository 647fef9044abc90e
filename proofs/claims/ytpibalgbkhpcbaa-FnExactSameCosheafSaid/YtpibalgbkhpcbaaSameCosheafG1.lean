/- The functions, as the machine runs them. -/
import Derived.Test.YtpibalgbkhpcbaaVm3
import Derived.Test.YtpibalgbkhpcbaaProg
import Derived.KernelRfl
namespace Go.Proofs.Ytpibalgbkhpcbaa
open Go Go.Vm
set_option linter.unusedVariables false
set_option linter.unusedSimpArgs false
abbrev TMatrix_2 : Ty := .pair (.int .i64) (.sl (.int .i64))
abbrev TMatrix_1 : Ty := .pair (.int .i64) TMatrix_2
abbrev TMatrix : Ty := .pair (.int .i64) TMatrix_1
abbrev TSheaf_2 : Ty := .pair (.sl (.int .i64)) (.sl TMatrix)
abbrev TSheaf_1 : Ty := .pair (.int .i64) TSheaf_2
abbrev TSheaf : Ty := .pair (.sl (.sl (.int .i64))) TSheaf_1
def tabl : List (Nat × TInfo) := [
  (2, ⟨false, (.int .i64), 0, []⟩),
  (3, ⟨false, (.int .i64), 0, []⟩),
  (4, ⟨false, .bool, 0, []⟩),
  (25, ⟨false, (.sl (.int .i64)), 2, []⟩),
  (37, ⟨false, (.sl (.sl (.int .i64))), 25, []⟩),
  (39, ⟨true, (.sl (.sl (.int .i64))), 0, [(0, 1, false)]⟩),
  (40, ⟨false, (.sl TMatrix), 119, []⟩),
  (42, ⟨true, TSheaf, 0, [(0, 1, true), (1, 1, false), (2, 1, false), (3, 1, false)]⟩),
  (45, ⟨true, (.sl (.sl (.int .i64))), 0, [(0, 1, false)]⟩),
  (46, ⟨false, (.sl TMatrix), 99, []⟩),
  (48, ⟨true, TSheaf, 0, [(0, 1, true), (1, 1, false), (2, 1, false), (3, 1, false)]⟩),
  (79, ⟨true, TSheaf, 0, [(0, 1, true), (1, 1, false), (2, 1, false), (3, 1, false)]⟩),
  (99, ⟨true, TMatrix, 0, [(0, 1, false), (1, 1, false), (2, 1, false), (3, 1, false)]⟩),
  (119, ⟨true, TMatrix, 0, [(0, 1, false), (1, 1, false), (2, 1, false), (3, 1, false)]⟩)]
theorem tab_good : tabB Go.Proofs.Try.prog tabl = true := by kernel_rfl
theorem tab_open : openB Go.Proofs.Try.prog tabl = true := by kernel_rfl
theorem mixed_ok : Go.Proofs.Try.prog.follows .mixedOrders = true := by kernel_rfl
/-! ### laws_szInt64S -/
noncomputable def laws_szInt64S.sig : Sig := ⟨[.val false (.sl (.int .i64)), .val false (.int .i64)], [(.val false, (.int .i64), .deep)]⟩
noncomputable def laws_szInt64S.ctx : Ctx := ⟨tabOf tabl, [], [], []⟩
noncomputable def laws_szInt64S.cfg : Cfg := ⟨laws_szInt64S.ctx, [], [], fun _ => ([], [])⟩
noncomputable def laws_szInt64S.code : Code := (Go.Proofs.Try.f55).body.getD .skip
noncomputable def laws_szInt64S.fin := finK laws_szInt64S.ctx laws_szInt64S.sig [.tmp 4]
noncomputable def laws_szInt64S.F (d : List Int × Int × Unit) : Option ((Int × Unit) × (Unit)) := anyK (runFn laws_szInt64S.cfg laws_szInt64S.fin laws_szInt64S.code (initSt laws_szInt64S.sig.ps d 12))
noncomputable def laws_szInt64S.T (a_1 : List Int) (left_2 : Int) : Option ((Int × Unit) × (Unit)) :=
  if (decide ((IntKind.i64.wrap (left_2 - (a_1.length : Int))) < (0 : Int))) = true then
    some (((-1 : Int), ()), ())
  else
    some ((IntKind.i64.wrap (left_2 - (a_1.length : Int)), ()), ())
theorem laws_szInt64S.run (k : Nat) (a_1 : List Int) (left_2 : Int) : runFn laws_szInt64S.cfg laws_szInt64S.fin laws_szInt64S.code (initSt laws_szInt64S.sig.ps (a_1, left_2, ()) 12) k = laws_szInt64S.T a_1 left_2 := by kernel_rfl
theorem laws_szInt64S.eq (a_1 : List Int) (left_2 : Int) : laws_szInt64S.F (a_1, left_2, ()) = laws_szInt64S.T a_1 left_2 := (congrArg anyK (funext fun k => laws_szInt64S.run k a_1 left_2)).trans (anyK_const _)
theorem laws_szInt64S.ok : CtxOK Go.Proofs.Try.prog laws_szInt64S.ctx := ⟨List.forall_mem_nil _, mixed_ok, tab_ok tab_good, List.forall_mem_nil _, List.forall_mem_nil _⟩
theorem laws_szInt64S.S : Sound Go.Proofs.Try.prog ⟨55, laws_szInt64S.sig, laws_szInt64S.F⟩ := sound_any (fn := Go.Proofs.Try.f55) (code := laws_szInt64S.code) (g := laws_szInt64S.cfg) (res := [.tmp 4]) Go.Proofs.Try.func55 (by kernel_rfl) (by kernel_rfl) laws_szInt64S.ok (by kernel_rfl) (by kernel_rfl) (Nat.le_of_ble_eq_true (by kernel_rfl)) (by kernel_rfl)
/-! ### laws_szInt64SS -/
noncomputable def laws_szInt64SS.sig : Sig := ⟨[.val false (.sl (.sl (.int .i64))), .val false (.int .i64)], [(.val false, (.int .i64), .deep)]⟩
noncomputable def laws_szInt64SS.ctx : Ctx := ⟨tabOf tabl, [⟨55, laws_szInt64S.sig, laws_szInt64S.F⟩], [], []⟩
noncomputable def laws_szInt64SS.cfg : Cfg := ⟨laws_szInt64SS.ctx, [], [], fun id => match id with | 5 => ([0, 1, 5], []) | _ => ([], [])⟩
noncomputable def laws_szInt64SS.code : Code := (Go.Proofs.Try.f66).body.getD .skip
noncomputable def laws_szInt64SS.fin := finK laws_szInt64SS.ctx laws_szInt64SS.sig [.tmp 4]
noncomputable def laws_szInt64SS.F (d : List (List Int) × Int × Unit) : Option ((Int × Unit) × (Unit)) := anyK (runFn laws_szInt64SS.cfg laws_szInt64SS.fin laws_szInt64SS.code (initSt laws_szInt64SS.sig.ps d 27))
noncomputable def laws_szInt64SS.l5 (k : Nat) (x3 : List (List Int)) (i4 : Int) (i5 : Int) : Option ((Int × Unit) × (Unit)) :=
  Go.Vm.runT laws_szInt64SS.cfg laws_szInt64SS.fin k [.inLoop (sub [1, 1, 1, 0, 1, 0, 0] laws_szInt64SS.code), .inBlock 0, .code (sub [1, 1, 1, 1] laws_szInt64SS.code)]
    ⟨[.val false [⟨(.sl (.sl (.int .i64))), .sh, x3⟩], .val false [⟨(.int .i64), .sh, i4⟩], .dead, .dead, .dead, .val false [⟨(.int .i64), .sh, i5⟩]] ++ deads 21, []⟩
theorem laws_szInt64SS.l5_eq (k : Nat) (x3 : List (List Int)) (i4 : Int) (i5 : Int) : laws_szInt64SS.l5 (k + 1) x3 i4 i5 =
  if (decide (i5 < (x3.length : Int))) = true then
    if 0 ≤ i5 ∧ i5 < (x3.length : Int) then
      (laws_szInt64S.F (x3.getD i5.toNat ([] : List Int), i4, ())).bind fun r6 =>
        if (decide ((r6.1.1 : Int) < (0 : Int))) = true then
          some (((-1 : Int), ()), ())
        else
          laws_szInt64SS.l5 k x3 (r6.1.1 : Int) (IntKind.i64.wrap (i5 + (1 : Int)))
    else
      none
  else
    some ((i4, ()), ()) := by kernel_rfl
noncomputable def laws_szInt64SS.T (k : Nat) (a_1 : List (List Int)) (left_2 : Int) : Option ((Int × Unit) × (Unit)) :=
  if (decide ((IntKind.i64.wrap (left_2 - (a_1.length : Int))) < (0 : Int))) = true then
    some (((-1 : Int), ()), ())
  else
    laws_szInt64SS.l5 k a_1 (IntKind.i64.wrap (left_2 - (a_1.length : Int))) (0 : Int)
theorem laws_szInt64SS.run (k : Nat) (a_1 : List (List Int)) (left_2 : Int) : runFn laws_szInt64SS.cfg laws_szInt64SS.fin laws_szInt64SS.code (initSt laws_szInt64SS.sig.ps (a_1, left_2, ()) 27) k = laws_szInt64SS.T k a_1 left_2 := by kernel_rfl
theorem laws_szInt64SS.of (a_1 : List (List Int)) (left_2 : Int) {r : (Int × Unit) × (Unit)} (h : Ev (fun k => laws_szInt64SS.T k a_1 left_2) r) : laws_szInt64SS.F (a_1, left_2, ()) = some r := Ev.run (fun k => laws_szInt64SS.run k a_1 left_2) h
theorem laws_szInt64SS.ok : CtxOK Go.Proofs.Try.prog laws_szInt64SS.ctx := ⟨List.forall_mem_nil _, mixed_ok, tab_ok tab_good, List.forall_mem_cons.2 ⟨laws_szInt64S.S, List.forall_mem_nil _⟩, List.forall_mem_nil _⟩
theorem laws_szInt64SS.S : Sound Go.Proofs.Try.prog ⟨66, laws_szInt64SS.sig, laws_szInt64SS.F⟩ := sound_any (fn := Go.Proofs.Try.f66) (code := laws_szInt64SS.code) (g := laws_szInt64SS.cfg) (res := [.tmp 4]) Go.Proofs.Try.func66 (by kernel_rfl) (by kernel_rfl) laws_szInt64SS.ok (by kernel_rfl) (by kernel_rfl) (Nat.le_of_ble_eq_true (by kernel_rfl)) (by kernel_rfl)
/-! ### laws_szComplex -/
noncomputable def laws_szComplex.sig : Sig := ⟨[.val true (.sl (.sl (.int .i64))), .val false (.int .i64)], [(.val false, (.int .i64), .deep)]⟩
noncomputable def laws_szComplex.ctx : Ctx := ⟨tabOf tabl, [⟨66, laws_szInt64SS.sig, laws_szInt64SS.F⟩], [], []⟩
noncomputable def laws_szComplex.cfg : Cfg := ⟨laws_szComplex.ctx, [], [], fun _ => ([], [])⟩
noncomputable def laws_szComplex.code : Code := (Go.Proofs.Try.f29).body.getD .skip
noncomputable def laws_szComplex.fin := finK laws_szComplex.ctx laws_szComplex.sig [.tmp 4]
noncomputable def laws_szComplex.F (d : List (List Int) × Int × Unit) : Option ((Int × Unit) × (Unit)) := anyK (runFn laws_szComplex.cfg laws_szComplex.fin laws_szComplex.code (initSt laws_szComplex.sig.ps d 12))
noncomputable def laws_szComplex.T (a_1 : List (List Int)) (left_2 : Int) : Option ((Int × Unit) × (Unit)) :=
  (laws_szInt64SS.F (a_1, left_2, ())).bind fun r3 =>
    if (decide ((r3.1.1 : Int) < (0 : Int))) = true then
      some (((-1 : Int), ()), ())
    else
      some (((r3.1.1 : Int), ()), ())
theorem laws_szComplex.run (k : Nat) (a_1 : List (List Int)) (left_2 : Int) : runFn laws_szComplex.cfg laws_szComplex.fin laws_szComplex.code (initSt laws_szComplex.sig.ps (a_1, left_2, ()) 12) k = laws_szComplex.T a_1 left_2 := by kernel_rfl
theorem laws_szComplex.eq (a_1 : List (List Int)) (left_2 : Int) : laws_szComplex.F (a_1, left_2, ()) = laws_szComplex.T a_1 left_2 := (congrArg anyK (funext fun k => laws_szComplex.run k a_1 left_2)).trans (anyK_const _)
theorem laws_szComplex.ok : CtxOK Go.Proofs.Try.prog laws_szComplex.ctx := ⟨List.forall_mem_nil _, mixed_ok, tab_ok tab_good, List.forall_mem_cons.2 ⟨laws_szInt64SS.S, List.forall_mem_nil _⟩, List.forall_mem_nil _⟩
theorem laws_szComplex.S : Sound Go.Proofs.Try.prog ⟨29, laws_szComplex.sig, laws_szComplex.F⟩ := sound_any (fn := Go.Proofs.Try.f29) (code := laws_szComplex.code) (g := laws_szComplex.cfg) (res := [.tmp 4]) Go.Proofs.Try.func29 (by kernel_rfl) (by kernel_rfl) laws_szComplex.ok (by kernel_rfl) (by kernel_rfl) (Nat.le_of_ble_eq_true (by kernel_rfl)) (by kernel_rfl)
/-! ### laws_szMatrix -/
noncomputable def laws_szMatrix.sig : Sig := ⟨[.val true TMatrix, .val false (.int .i64)], [(.val false, (.int .i64), .deep)]⟩
noncomputable def laws_szMatrix.ctx : Ctx := ⟨tabOf tabl, [⟨55, laws_szInt64S.sig, laws_szInt64S.F⟩], [], []⟩
noncomputable def laws_szMatrix.cfg : Cfg := ⟨laws_szMatrix.ctx, [], [], fun _ => ([], [])⟩
noncomputable def laws_szMatrix.code : Code := (Go.Proofs.Try.f100).body.getD .skip
noncomputable def laws_szMatrix.fin := finK laws_szMatrix.ctx laws_szMatrix.sig [.tmp 4]
noncomputable def laws_szMatrix.F (d : (Int × Int × Int × List Int) × Int × Unit) : Option ((Int × Unit) × (Unit)) := anyK (runFn laws_szMatrix.cfg laws_szMatrix.fin laws_szMatrix.code (initSt laws_szMatrix.sig.ps d 12))
noncomputable def laws_szMatrix.T (a_1 : Int) (a_2 : Int) (a_3 : Int) (a_4 : List Int) (left_5 : Int) : Option ((Int × Unit) × (Unit)) :=
  (laws_szInt64S.F (a_4, left_5, ())).bind fun r6 =>
    if (decide ((r6.1.1 : Int) < (0 : Int))) = true then
      some (((-1 : Int), ()), ())
    else
      some (((r6.1.1 : Int), ()), ())
theorem laws_szMatrix.run (k : Nat) (a_1 : Int) (a_2 : Int) (a_3 : Int) (a_4 : List Int) (left_5 : Int) : runFn laws_szMatrix.cfg laws_szMatrix.fin laws_szMatrix.code (initSt laws_szMatrix.sig.ps ((a_1, (a_2, (a_3, a_4))), left_5, ()) 12) k = laws_szMatrix.T a_1 a_2 a_3 a_4 left_5 := by kernel_rfl
theorem laws_szMatrix.eq (a_1 : Int) (a_2 : Int) (a_3 : Int) (a_4 : List Int) (left_5 : Int) : laws_szMatrix.F ((a_1, (a_2, (a_3, a_4))), left_5, ()) = laws_szMatrix.T a_1 a_2 a_3 a_4 left_5 := (congrArg anyK (funext fun k => laws_szMatrix.run k a_1 a_2 a_3 a_4 left_5)).trans (anyK_const _)
theorem laws_szMatrix.ok : CtxOK Go.Proofs.Try.prog laws_szMatrix.ctx := ⟨List.forall_mem_nil _, mixed_ok, tab_ok tab_good, List.forall_mem_cons.2 ⟨laws_szInt64S.S, List.forall_mem_nil _⟩, List.forall_mem_nil _⟩
theorem laws_szMatrix.S : Sound Go.Proofs.Try.prog ⟨100, laws_szMatrix.sig, laws_szMatrix.F⟩ := sound_any (fn := Go.Proofs.Try.f100) (code := laws_szMatrix.code) (g := laws_szMatrix.cfg) (res := [.tmp 4]) Go.Proofs.Try.func100 (by kernel_rfl) (by kernel_rfl) laws_szMatrix.ok (by kernel_rfl) (by kernel_rfl) (Nat.le_of_ble_eq_true (by kernel_rfl)) (by kernel_rfl)
/-! ### laws_szMatrixS -/
noncomputable def laws_szMatrixS.sig : Sig := ⟨[.val false (.sl TMatrix), .val false (.int .i64)], [(.val false, (.int .i64), .deep)]⟩
noncomputable def laws_szMatrixS.ctx : Ctx := ⟨tabOf tabl, [⟨100, laws_szMatrix.sig, laws_szMatrix.F⟩], [], []⟩
noncomputable def laws_szMatrixS.cfg : Cfg := ⟨laws_szMatrixS.ctx, [], [], fun id => match id with | 5 => ([0, 1, 5], []) | _ => ([], [])⟩
noncomputable def laws_szMatrixS.code : Code := (Go.Proofs.Try.f56).body.getD .skip
noncomputable def laws_szMatrixS.fin := finK laws_szMatrixS.ctx laws_szMatrixS.sig [.tmp 4]
noncomputable def laws_szMatrixS.F (d : List (Int × Int × Int × List Int) × Int × Unit) : Option ((Int × Unit) × (Unit)) := anyK (runFn laws_szMatrixS.cfg laws_szMatrixS.fin laws_szMatrixS.code (initSt laws_szMatrixS.sig.ps d 27))
noncomputable def laws_szMatrixS.l5 (k : Nat) (x3 : List (Int × Int × Int × List Int)) (i4 : Int) (i5 : Int) : Option ((Int × Unit) × (Unit)) :=
  Go.Vm.runT laws_szMatrixS.cfg laws_szMatrixS.fin k [.inLoop (sub [1, 1, 1, 0, 1, 0, 0] laws_szMatrixS.code), .inBlock 0, .code (sub [1, 1, 1, 1] laws_szMatrixS.code)]
    ⟨[.val false [⟨(.sl TMatrix), .sh, x3⟩], .val false [⟨(.int .i64), .sh, i4⟩], .dead, .dead, .dead, .val false [⟨(.int .i64), .sh, i5⟩]] ++ deads 21, []⟩
theorem laws_szMatrixS.l5_eq (k : Nat) (x3 : List (Int × Int × Int × List Int)) (i4 : Int) (i5 : Int) : laws_szMatrixS.l5 (k + 1) x3 i4 i5 =
  if (decide (i5 < (x3.length : Int))) = true then
    if 0 ≤ i5 ∧ i5 < (x3.length : Int) then
      (laws_szMatrix.F (x3.getD i5.toNat (0, 0, 0, ([] : List Int)), i4, ())).bind fun r6 =>
        if (decide ((r6.1.1 : Int) < (0 : Int))) = true then
          some (((-1 : Int), ()), ())
        else
          laws_szMatrixS.l5 k x3 (r6.1.1 : Int) (IntKind.i64.wrap (i5 + (1 : Int)))
    else
      none
  else
    some ((i4, ()), ()) := by kernel_rfl
noncomputable def laws_szMatrixS.T (k : Nat) (a_1 : List (Int × Int × Int × List Int)) (left_2 : Int) : Option ((Int × Unit) × (Unit)) :=
  if (decide ((IntKind.i64.wrap (left_2 - (a_1.length : Int))) < (0 : Int))) = true then
    some (((-1 : Int), ()), ())
  else
    laws_szMatrixS.l5 k a_1 (IntKind.i64.wrap (left_2 - (a_1.length : Int))) (0 : Int)
theorem laws_szMatrixS.run (k : Nat) (a_1 : List (Int × Int × Int × List Int)) (left_2 : Int) : runFn laws_szMatrixS.cfg laws_szMatrixS.fin laws_szMatrixS.code (initSt laws_szMatrixS.sig.ps (a_1, left_2, ()) 27) k = laws_szMatrixS.T k a_1 left_2 := by kernel_rfl
theorem laws_szMatrixS.of (a_1 : List (Int × Int × Int × List Int)) (left_2 : Int) {r : (Int × Unit) × (Unit)} (h : Ev (fun k => laws_szMatrixS.T k a_1 left_2) r) : laws_szMatrixS.F (a_1, left_2, ()) = some r := Ev.run (fun k => laws_szMatrixS.run k a_1 left_2) h
theorem laws_szMatrixS.ok : CtxOK Go.Proofs.Try.prog laws_szMatrixS.ctx := ⟨List.forall_mem_nil _, mixed_ok, tab_ok tab_good, List.forall_mem_cons.2 ⟨laws_szMatrix.S, List.forall_mem_nil _⟩, List.forall_mem_nil _⟩
theorem laws_szMatrixS.S : Sound Go.Proofs.Try.prog ⟨56, laws_szMatrixS.sig, laws_szMatrixS.F⟩ := sound_any (fn := Go.Proofs.Try.f56) (code := laws_szMatrixS.code) (g := laws_szMatrixS.cfg) (res := [.tmp 4]) Go.Proofs.Try.func56 (by kernel_rfl) (by kernel_rfl) laws_szMatrixS.ok (by kernel_rfl) (by kernel_rfl) (Nat.le_of_ble_eq_true (by kernel_rfl)) (by kernel_rfl)
/-! ### laws_szCosheaf -/
noncomputable def laws_szCosheaf.sig : Sig := ⟨[.val true TSheaf, .val false (.int .i64)], [(.val false, (.int .i64), .deep)]⟩
noncomputable def laws_szCosheaf.ctx : Ctx := ⟨tabOf tabl, [⟨29, laws_szComplex.sig, laws_szComplex.F⟩, ⟨55, laws_szInt64S.sig, laws_szInt64S.F⟩, ⟨56, laws_szMatrixS.sig, laws_szMatrixS.F⟩], [], []⟩
noncomputable def laws_szCosheaf.cfg : Cfg := ⟨laws_szCosheaf.ctx, [], [], fun _ => ([], [])⟩
noncomputable def laws_szCosheaf.code : Code := (Go.Proofs.Try.f19).body.getD .skip
noncomputable def laws_szCosheaf.fin := finK laws_szCosheaf.ctx laws_szCosheaf.sig [.tmp 4]
noncomputable def laws_szCosheaf.F (d : (List (List Int) × Int × List Int × List (Int × Int × Int × List Int)) × Int × Unit) : Option ((Int × Unit) × (Unit)) := anyK (runFn laws_szCosheaf.cfg laws_szCosheaf.fin laws_szCosheaf.code (initSt laws_szCosheaf.sig.ps d 24))
noncomputable def laws_szCosheaf.T (a_1 : List (List Int)) (a_2 : Int) (a_3 : List Int) (a_4 : List (Int × Int × Int × List Int)) (left_5 : Int) : Option ((Int × Unit) × (Unit)) :=
  (laws_szComplex.F (a_1, left_5, ())).bind fun r6 =>
    if (decide ((r6.1.1 : Int) < (0 : Int))) = true then
      some (((-1 : Int), ()), ())
    else
      (laws_szInt64S.F (a_3, (r6.1.1 : Int), ())).bind fun r7 =>
        if (decide ((r7.1.1 : Int) < (0 : Int))) = true then
          some (((-1 : Int), ()), ())
        else
          (laws_szMatrixS.F (a_4, (r7.1.1 : Int), ())).bind fun r8 =>
            if (decide ((r8.1.1 : Int) < (0 : Int))) = true then
              some (((-1 : Int), ()), ())
            else
              some (((r8.1.1 : Int), ()), ())
theorem laws_szCosheaf.run (k : Nat) (a_1 : List (List Int)) (a_2 : Int) (a_3 : List Int) (a_4 : List (Int × Int × Int × List Int)) (left_5 : Int) : runFn laws_szCosheaf.cfg laws_szCosheaf.fin laws_szCosheaf.code (initSt laws_szCosheaf.sig.ps ((a_1, (a_2, (a_3, a_4))), left_5, ()) 24) k = laws_szCosheaf.T a_1 a_2 a_3 a_4 left_5 := by kernel_rfl
theorem laws_szCosheaf.eq (a_1 : List (List Int)) (a_2 : Int) (a_3 : List Int) (a_4 : List (Int × Int × Int × List Int)) (left_5 : Int) : laws_szCosheaf.F ((a_1, (a_2, (a_3, a_4))), left_5, ()) = laws_szCosheaf.T a_1 a_2 a_3 a_4 left_5 := (congrArg anyK (funext fun k => laws_szCosheaf.run k a_1 a_2 a_3 a_4 left_5)).trans (anyK_const _)
theorem laws_szCosheaf.ok : CtxOK Go.Proofs.Try.prog laws_szCosheaf.ctx := ⟨List.forall_mem_nil _, mixed_ok, tab_ok tab_good, List.forall_mem_cons.2 ⟨laws_szComplex.S, List.forall_mem_cons.2 ⟨laws_szInt64S.S, List.forall_mem_cons.2 ⟨laws_szMatrixS.S, List.forall_mem_nil _⟩⟩⟩, List.forall_mem_nil _⟩
theorem laws_szCosheaf.S : Sound Go.Proofs.Try.prog ⟨19, laws_szCosheaf.sig, laws_szCosheaf.F⟩ := sound_any (fn := Go.Proofs.Try.f19) (code := laws_szCosheaf.code) (g := laws_szCosheaf.cfg) (res := [.tmp 4]) Go.Proofs.Try.func19 (by kernel_rfl) (by kernel_rfl) laws_szCosheaf.ok (by kernel_rfl) (by kernel_rfl) (Nat.le_of_ble_eq_true (by kernel_rfl)) (by kernel_rfl)
/-! ### spec_l00Same -/
noncomputable def spec_l00Same.sig : Sig := ⟨[.val false (.sl (.int .i64)), .val false (.sl (.int .i64))], [(.val false, .bool, .deep)]⟩
noncomputable def spec_l00Same.ctx : Ctx := ⟨tabOf tabl, [], [], []⟩
noncomputable def spec_l00Same.cfg : Cfg := ⟨spec_l00Same.ctx, [], [], fun id => match id with | 4 => ([0, 1, 5], []) | _ => ([], [])⟩
noncomputable def spec_l00Same.code : Code := (Go.Proofs.Try.f102).body.getD .skip
noncomputable def spec_l00Same.fin := finK spec_l00Same.ctx spec_l00Same.sig [.tmp 4]
noncomputable def spec_l00Same.F (d : List Int × List Int × Unit) : Option ((Bool × Unit) × (Unit)) := anyK (runFn spec_l00Same.cfg spec_l00Same.fin spec_l00Same.code (initSt spec_l00Same.sig.ps d 26))
noncomputable def spec_l00Same.l4 (k : Nat) (x3 : List Int) (x4 : List Int) (i5 : Int) : Option ((Bool × Unit) × (Unit)) :=
  Go.Vm.runT spec_l00Same.cfg spec_l00Same.fin k [.inLoop (sub [1, 1, 0, 1, 0, 0] spec_l00Same.code), .inBlock 0, .code (sub [1, 1, 1] spec_l00Same.code)]
    ⟨[.val false [⟨(.sl (.int .i64)), .sh, x3⟩], .val false [⟨(.sl (.int .i64)), .sh, x4⟩], .dead, .dead, .dead, .val false [⟨(.int .i64), .sh, i5⟩]] ++ deads 20, []⟩
theorem spec_l00Same.l4_eq (k : Nat) (x3 : List Int) (x4 : List Int) (i5 : Int) : spec_l00Same.l4 (k + 1) x3 x4 i5 =
  if (decide (i5 < (x3.length : Int))) = true then
    if 0 ≤ i5 ∧ i5 < (x3.length : Int) then
      if 0 ≤ i5 ∧ i5 < (x4.length : Int) then
        if ((x3.getD i5.toNat 0 : Int) != (x4.getD i5.toNat 0 : Int)) = true then
          some ((false, ()), ())
        else
          spec_l00Same.l4 k x3 x4 (IntKind.i64.wrap (i5 + (1 : Int)))
      else
        none
    else
      none
  else
    some ((true, ()), ()) := by kernel_rfl
noncomputable def spec_l00Same.T (k : Nat) (a_1 : List Int) (b_2 : List Int) : Option ((Bool × Unit) × (Unit)) :=
  if ((a_1.length : Int) != (b_2.length : Int)) = true then
    some ((false, ()), ())
  else
    spec_l00Same.l4 k a_1 b_2 (0 : Int)
theorem spec_l00Same.run (k : Nat) (a_1 : List Int) (b_2 : List Int) : runFn spec_l00Same.cfg spec_l00Same.fin spec_l00Same.code (initSt spec_l00Same.sig.ps (a_1, b_2, ()) 26) k = spec_l00Same.T k a_1 b_2 := by kernel_rfl
theorem spec_l00Same.of (a_1 : List Int) (b_2 : List Int) {r : (Bool × Unit) × (Unit)} (h : Ev (fun k => spec_l00Same.T k a_1 b_2) r) : spec_l00Same.F (a_1, b_2, ()) = some r := Ev.run (fun k => spec_l00Same.run k a_1 b_2) h
theorem spec_l00Same.ok : CtxOK Go.Proofs.Try.prog spec_l00Same.ctx := ⟨List.forall_mem_nil _, mixed_ok, tab_ok tab_good, List.forall_mem_nil _, List.forall_mem_nil _⟩
theorem spec_l00Same.S : Sound Go.Proofs.Try.prog ⟨102, spec_l00Same.sig, spec_l00Same.F⟩ := sound_any (fn := Go.Proofs.Try.f102) (code := spec_l00Same.code) (g := spec_l00Same.cfg) (res := [.tmp 4]) Go.Proofs.Try.func102 (by kernel_rfl) (by kernel_rfl) spec_l00Same.ok (by kernel_rfl) (by kernel_rfl) (Nat.le_of_ble_eq_true (by kernel_rfl)) (by kernel_rfl)
/-! ### spec_l05Same -/
noncomputable def spec_l05Same.sig : Sig := ⟨[.rptr (.sl (.sl (.int .i64))), .rptr (.sl (.sl (.int .i64)))], [(.val false, .bool, .deep)]⟩
noncomputable def spec_l05Same.ctx : Ctx := ⟨tabOf tabl, [⟨102, spec_l00Same.sig, spec_l00Same.F⟩], [], []⟩
noncomputable def spec_l05Same.cfg : Cfg := ⟨spec_l05Same.ctx, [], [], fun id => match id with | 4 => ([0, 1, 5], []) | _ => ([], [])⟩
noncomputable def spec_l05Same.code : Code := (Go.Proofs.Try.f101).body.getD .skip
noncomputable def spec_l05Same.fin := finK spec_l05Same.ctx spec_l05Same.sig [.tmp 4]
noncomputable def spec_l05Same.F (d : List (List Int) × List (List Int) × Unit) : Option ((Bool × Unit) × (Unit)) := anyK (runFn spec_l05Same.cfg spec_l05Same.fin spec_l05Same.code (initSt spec_l05Same.sig.ps d 42))
noncomputable def spec_l05Same.l4 (k : Nat) (x3 : List (List Int)) (x4 : List (List Int)) (i5 : Int) : Option ((Bool × Unit) × (Unit)) :=
  Go.Vm.runT spec_l05Same.cfg spec_l05Same.fin k [.inLoop (sub [1, 1, 0, 1, 0, 0] spec_l05Same.code), .inBlock 0, .code (sub [1, 1, 1] spec_l05Same.code)]
    ⟨[.rptr [⟨(.sl (.sl (.int .i64))), .sh, x3⟩], .rptr [⟨(.sl (.sl (.int .i64))), .sh, x4⟩], .dead, .dead, .dead, .val false [⟨(.int .i64), .sh, i5⟩]] ++ deads 36, []⟩
theorem spec_l05Same.l4_eq (k : Nat) (x3 : List (List Int)) (x4 : List (List Int)) (i5 : Int) : spec_l05Same.l4 (k + 1) x3 x4 i5 =
  if (decide (i5 < (x3.length : Int))) = true then
    if 0 ≤ i5 ∧ i5 < (x3.length : Int) then
      if 0 ≤ i5 ∧ i5 < (x4.length : Int) then
        (spec_l00Same.F (x3.getD i5.toNat ([] : List Int), x4.getD i5.toNat ([] : List Int), ())).bind fun r6 =>
          if (!(r6.1.1 : Bool)) = true then
            some ((false, ()), ())
          else
            spec_l05Same.l4 k x3 x4 (IntKind.i64.wrap (i5 + (1 : Int)))
      else
        none
    else
      none
  else
    some ((true, ()), ()) := by kernel_rfl
noncomputable def spec_l05Same.T (k : Nat) (a_1 : List (List Int)) (b_2 : List (List Int)) : Option ((Bool × Unit) × (Unit)) :=
  if ((a_1.length : Int) != (b_2.length : Int)) = true then
    some ((false, ()), ())
  else
    spec_l05Same.l4 k a_1 b_2 (0 : Int)
theorem spec_l05Same.run (k : Nat) (a_1 : List (List Int)) (b_2 : List (List Int)) : runFn spec_l05Same.cfg spec_l05Same.fin spec_l05Same.code (initSt spec_l05Same.sig.ps (a_1, b_2, ()) 42) k = spec_l05Same.T k a_1 b_2 := by kernel_rfl
theorem spec_l05Same.of (a_1 : List (List Int)) (b_2 : List (List Int)) {r : (Bool × Unit) × (Unit)} (h : Ev (fun k => spec_l05Same.T k a_1 b_2) r) : spec_l05Same.F (a_1, b_2, ()) = some r := Ev.run (fun k => spec_l05Same.run k a_1 b_2) h
theorem spec_l05Same.ok : CtxOK Go.Proofs.Try.prog spec_l05Same.ctx := ⟨List.forall_mem_nil _, mixed_ok, tab_ok tab_good, List.forall_mem_cons.2 ⟨spec_l00Same.S, List.forall_mem_nil _⟩, List.forall_mem_nil _⟩
theorem spec_l05Same.S : Sound Go.Proofs.Try.prog ⟨101, spec_l05Same.sig, spec_l05Same.F⟩ := sound_any (fn := Go.Proofs.Try.f101) (code := spec_l05Same.code) (g := spec_l05Same.cfg) (res := [.tmp 4]) Go.Proofs.Try.func101 (by kernel_rfl) (by kernel_rfl) spec_l05Same.ok (by kernel_rfl) (by kernel_rfl) (Nat.le_of_ble_eq_true (by kernel_rfl)) (by kernel_rfl)
/-! ### spec_l03Same -/
noncomputable def spec_l03Same.sig : Sig := ⟨[.rptr TMatrix, .rptr TMatrix], [(.val false, .bool, .deep)]⟩
noncomputable def spec_l03Same.ctx : Ctx := ⟨tabOf tabl, [], [], []⟩
noncomputable def spec_l03Same.cfg : Cfg := ⟨spec_l03Same.ctx, [], [], fun id => match id with | 4 => ([0, 1, 5], []) | _ => ([], [])⟩
noncomputable def spec_l03Same.code : Code := (Go.Proofs.Try.f103).body.getD .skip
noncomputable def spec_l03Same.fin := finK spec_l03Same.ctx spec_l03Same.sig [.tmp 4]
noncomputable def spec_l03Same.F (d : (Int × Int × Int × List Int) × (Int × Int × Int × List Int) × Unit) : Option ((Bool × Unit) × (Unit)) := anyK (runFn spec_l03Same.cfg spec_l03Same.fin spec_l03Same.code (initSt spec_l03Same.sig.ps d 74))
noncomputable def spec_l03Same.l4 (k : Nat) (i9 : Int) (i10 : Int) (i11 : Int) (x12 : List Int) (i13 : Int) (i14 : Int) (i15 : Int) (x16 : List Int) (i17 : Int) : Option ((Bool × Unit) × (Unit)) :=
  Go.Vm.runT spec_l03Same.cfg spec_l03Same.fin k [.inLoop (sub [1, 1, 0, 1, 0, 0] spec_l03Same.code), .inBlock 0, .code (sub [1, 1, 1] spec_l03Same.code)]
    ⟨[.rptr [⟨(.int .i64), .sh, i9⟩, ⟨(.int .i64), .sh, i10⟩, ⟨(.int .i64), .sh, i11⟩, ⟨(.sl (.int .i64)), .sh, x12⟩], .rptr [⟨(.int .i64), .sh, i13⟩, ⟨(.int .i64), .sh, i14⟩, ⟨(.int .i64), .sh, i15⟩, ⟨(.sl (.int .i64)), .sh, x16⟩], .dead, .dead, .dead, .val false [⟨(.int .i64), .sh, i17⟩]] ++ deads 68, []⟩
theorem spec_l03Same.l4_eq (k : Nat) (i9 : Int) (i10 : Int) (i11 : Int) (x12 : List Int) (i13 : Int) (i14 : Int) (i15 : Int) (x16 : List Int) (i17 : Int) : spec_l03Same.l4 (k + 1) i9 i10 i11 x12 i13 i14 i15 x16 i17 =
  if (decide (i17 < (x12.length : Int))) = true then
    if 0 ≤ i17 ∧ i17 < (x12.length : Int) then
      if 0 ≤ i17 ∧ i17 < (x16.length : Int) then
        if ((x12.getD i17.toNat 0 : Int) != (x16.getD i17.toNat 0 : Int)) = true then
          some ((false, ()), ())
        else
          spec_l03Same.l4 k i9 i10 i11 x12 i13 i14 i15 x16 (IntKind.i64.wrap (i17 + (1 : Int)))
      else
        none
    else
      none
  else
    some ((true, ()), ()) := by kernel_rfl
noncomputable def spec_l03Same.T (k : Nat) (toArray_1 : Int) (toArray_2 : Int) (toArray_3 : Int) (toArray_4 : List Int) (a_5 : Int) (a_6 : Int) (a_7 : Int) (a_8 : List Int) : Option ((Bool × Unit) × (Unit)) :=
  if (toArray_1 != a_5) = true then
    some ((false, ()), ())
  else
    if (toArray_2 != a_6) = true then
      some ((false, ()), ())
    else
      if (toArray_3 != a_7) = true then
        some ((false, ()), ())
      else
        if ((toArray_4.length : Int) != (a_8.length : Int)) = true then
          some ((false, ()), ())
        else
          spec_l03Same.l4 k toArray_1 toArray_2 toArray_3 toArray_4 a_5 a_6 a_7 a_8 (0 : Int)
theorem spec_l03Same.run (k : Nat) (toArray_1 : Int) (toArray_2 : Int) (toArray_3 : Int) (toArray_4 : List Int) (a_5 : Int) (a_6 : Int) (a_7 : Int) (a_8 : List Int) : runFn spec_l03Same.cfg spec_l03Same.fin spec_l03Same.code (initSt spec_l03Same.sig.ps ((toArray_1, (toArray_2, (toArray_3, toArray_4))), (a_5, (a_6, (a_7, a_8))), ()) 74) k = spec_l03Same.T k toArray_1 toArray_2 toArray_3 toArray_4 a_5 a_6 a_7 a_8 := by kernel_rfl
theorem spec_l03Same.of (toArray_1 : Int) (toArray_2 : Int) (toArray_3 : Int) (toArray_4 : List Int) (a_5 : Int) (a_6 : Int) (a_7 : Int) (a_8 : List Int) {r : (Bool × Unit) × (Unit)} (h : Ev (fun k => spec_l03Same.T k toArray_1 toArray_2 toArray_3 toArray_4 a_5 a_6 a_7 a_8) r) : spec_l03Same.F ((toArray_1, (toArray_2, (toArray_3, toArray_4))), (a_5, (a_6, (a_7, a_8))), ()) = some r := Ev.run (fun k => spec_l03Same.run k toArray_1 toArray_2 toArray_3 toArray_4 a_5 a_6 a_7 a_8) h
theorem spec_l03Same.ok : CtxOK Go.Proofs.Try.prog spec_l03Same.ctx := ⟨List.forall_mem_nil _, mixed_ok, tab_ok tab_good, List.forall_mem_nil _, List.forall_mem_nil _⟩
theorem spec_l03Same.S : Sound Go.Proofs.Try.prog ⟨103, spec_l03Same.sig, spec_l03Same.F⟩ := sound_any (fn := Go.Proofs.Try.f103) (code := spec_l03Same.code) (g := spec_l03Same.cfg) (res := [.tmp 4]) Go.Proofs.Try.func103 (by kernel_rfl) (by kernel_rfl) spec_l03Same.ok (by kernel_rfl) (by kernel_rfl) (Nat.le_of_ble_eq_true (by kernel_rfl)) (by kernel_rfl)
/-! ### spec_l09Same -/
noncomputable def spec_l09Same.sig : Sig := ⟨[.rptr TSheaf, .rptr TSheaf], [(.val false, .bool, .deep)]⟩
noncomputable def spec_l09Same.ctx : Ctx := ⟨tabOf tabl, [⟨101, spec_l05Same.sig, spec_l05Same.F⟩, ⟨102, spec_l00Same.sig, spec_l00Same.F⟩, ⟨103, spec_l03Same.sig, spec_l03Same.F⟩], [], []⟩
noncomputable def spec_l09Same.cfg : Cfg := ⟨spec_l09Same.ctx, [], [], fun id => match id with | 4 => ([0, 1, 5], []) | _ => ([], [])⟩
noncomputable def spec_l09Same.code : Code := (Go.Proofs.Try.f57).body.getD .skip
noncomputable def spec_l09Same.fin := finK spec_l09Same.ctx spec_l09Same.sig [.tmp 4]
noncomputable def spec_l09Same.F (d : (List (List Int) × Int × List Int × List (Int × Int × Int × List Int)) × (List (List Int) × Int × List Int × List (Int × Int × Int × List Int)) × Unit) : Option ((Bool × Unit) × (Unit)) := anyK (runFn spec_l09Same.cfg spec_l09Same.fin spec_l09Same.code (initSt spec_l09Same.sig.ps d 73))
noncomputable def spec_l09Same.l4 (k : Nat) (x11 : List (List Int)) (i12 : Int) (x13 : List Int) (x14 : List (Int × Int × Int × List Int)) (x15 : List (List Int)) (i16 : Int) (x17 : List Int) (x18 : List (Int × Int × Int × List Int)) (i19 : Int) : Option ((Bool × Unit) × (Unit)) :=
  Go.Vm.runT spec_l09Same.cfg spec_l09Same.fin k [.inLoop (sub [1, 1, 0, 1, 0, 0] spec_l09Same.code), .inBlock 0, .code (sub [1, 1, 1] spec_l09Same.code)]
    ⟨[.rptr [⟨(.sl (.sl (.int .i64))), .sh, x11⟩, ⟨(.int .i64), .sh, i12⟩, ⟨(.sl (.int .i64)), .sh, x13⟩, ⟨(.sl TMatrix), .sh, x14⟩], .rptr [⟨(.sl (.sl (.int .i64))), .sh, x15⟩, ⟨(.int .i64), .sh, i16⟩, ⟨(.sl (.int .i64)), .sh, x17⟩, ⟨(.sl TMatrix), .sh, x18⟩], .dead, .dead, .dead, .val false [⟨(.int .i64), .sh, i19⟩]] ++ deads 67, []⟩
theorem spec_l09Same.l4_eq (k : Nat) (x11 : List (List Int)) (i12 : Int) (x13 : List Int) (x14 : List (Int × Int × Int × List Int)) (x15 : List (List Int)) (i16 : Int) (x17 : List Int) (x18 : List (Int × Int × Int × List Int)) (i19 : Int) : spec_l09Same.l4 (k + 1) x11 i12 x13 x14 x15 i16 x17 x18 i19 =
  if (decide (i19 < (x14.length : Int))) = true then
    if 0 ≤ i19 ∧ i19 < (x14.length : Int) then
      if 0 ≤ i19 ∧ i19 < (x18.length : Int) then
        (spec_l03Same.F (x14.getD i19.toNat (0, 0, 0, ([] : List Int)), x18.getD i19.toNat (0, 0, 0, ([] : List Int)), ())).bind fun r20 =>
          if (!(r20.1.1 : Bool)) = true then
            some ((false, ()), ())
          else
            spec_l09Same.l4 k x11 i12 x13 x14 x15 i16 x17 x18 (IntKind.i64.wrap (i19 + (1 : Int)))
      else
        none
    else
      none
  else
    some ((true, ()), ()) := by kernel_rfl
noncomputable def spec_l09Same.T (k : Nat) (toArray_1 : List (List Int)) (toArray_2 : Int) (toArray_3 : List Int) (toArray_4 : List (Int × Int × Int × List Int)) (a_5 : List (List Int)) (a_6 : Int) (a_7 : List Int) (a_8 : List (Int × Int × Int × List Int)) : Option ((Bool × Unit) × (Unit)) :=
  (spec_l05Same.F (toArray_1, a_5, ())).bind fun r9 =>
    if (!(r9.1.1 : Bool)) = true then
      some ((false, ()), ())
    else
      if (toArray_2 != a_6) = true then
        some ((false, ()), ())
      else
        (spec_l00Same.F (toArray_3, a_7, ())).bind fun r10 =>
          if (!(r10.1.1 : Bool)) = true then
            some ((false, ()), ())
          else
            if ((toArray_4.length : Int) != (a_8.length : Int)) = true then
              some ((false, ()), ())
            else
              spec_l09Same.l4 k toArray_1 toArray_2 toArray_3 toArray_4 a_5 a_6 a_7 a_8 (0 : Int)
theorem spec_l09Same.run (k : Nat) (toArray_1 : List (List Int)) (toArray_2 : Int) (toArray_3 : List Int) (toArray_4 : List (Int × Int × Int × List Int)) (a_5 : List (List Int)) (a_6 : Int) (a_7 : List Int) (a_8 : List (Int × Int × Int × List Int)) : runFn spec_l09Same.cfg spec_l09Same.fin spec_l09Same.code (initSt spec_l09Same.sig.ps ((toArray_1, (toArray_2, (toArray_3, toArray_4))), (a_5, (a_6, (a_7, a_8))), ()) 73) k = spec_l09Same.T k toArray_1 toArray_2 toArray_3 toArray_4 a_5 a_6 a_7 a_8 := by kernel_rfl
theorem spec_l09Same.of (toArray_1 : List (List Int)) (toArray_2 : Int) (toArray_3 : List Int) (toArray_4 : List (Int × Int × Int × List Int)) (a_5 : List (List Int)) (a_6 : Int) (a_7 : List Int) (a_8 : List (Int × Int × Int × List Int)) {r : (Bool × Unit) × (Unit)} (h : Ev (fun k => spec_l09Same.T k toArray_1 toArray_2 toArray_3 toArray_4 a_5 a_6 a_7 a_8) r) : spec_l09Same.F ((toArray_1, (toArray_2, (toArray_3, toArray_4))), (a_5, (a_6, (a_7, a_8))), ()) = some r := Ev.run (fun k => spec_l09Same.run k toArray_1 toArray_2 toArray_3 toArray_4 a_5 a_6 a_7 a_8) h
theorem spec_l09Same.ok : CtxOK Go.Proofs.Try.prog spec_l09Same.ctx := ⟨List.forall_mem_nil _, mixed_ok, tab_ok tab_good, List.forall_mem_cons.2 ⟨spec_l05Same.S, List.forall_mem_cons.2 ⟨spec_l00Same.S, List.forall_mem_cons.2 ⟨spec_l03Same.S, List.forall_mem_nil _⟩⟩⟩, List.forall_mem_nil _⟩
theorem spec_l09Same.S : Sound Go.Proofs.Try.prog ⟨57, spec_l09Same.sig, spec_l09Same.F⟩ := sound_any (fn := Go.Proofs.Try.f57) (code := spec_l09Same.code) (g := spec_l09Same.cfg) (res := [.tmp 4]) Go.Proofs.Try.func57 (by kernel_rfl) (by kernel_rfl) spec_l09Same.ok (by kernel_rfl) (by kernel_rfl) (Nat.le_of_ble_eq_true (by kernel_rfl)) (by kernel_rfl)
/-! ### spec_SameCosheaf -/
noncomputable def spec_SameCosheaf.sig : Sig := ⟨[.val true TSheaf, .val true TSheaf], [(.val false, .bool, .deep)]⟩
noncomputable def spec_SameCosheaf.ctx : Ctx := ⟨tabOf tabl, [⟨57, spec_l09Same.sig, spec_l09Same.F⟩], [], []⟩
noncomputable def spec_SameCosheaf.cfg : Cfg := ⟨spec_SameCosheaf.ctx, [], [], fun _ => ([], [])⟩
noncomputable def spec_SameCosheaf.code : Code := (Go.Proofs.Try.f20).body.getD .skip
noncomputable def spec_SameCosheaf.fin := finK spec_SameCosheaf.ctx spec_SameCosheaf.sig [.tmp 4]
noncomputable def spec_SameCosheaf.F (d : (List (List Int) × Int × List Int × List (Int × Int × Int × List Int)) × (List (List Int) × Int × List Int × List (Int × Int × Int × List Int)) × Unit) : Option ((Bool × Unit) × (Unit)) := anyK (runFn spec_SameCosheaf.cfg spec_SameCosheaf.fin spec_SameCosheaf.code (initSt spec_SameCosheaf.sig.ps d 26))
noncomputable def spec_SameCosheaf.T (a_1 : List (List Int)) (a_2 : Int) (a_3 : List Int) (a_4 : List (Int × Int × Int × List Int)) (b_5 : List (List Int)) (b_6 : Int) (b_7 : List Int) (b_8 : List (Int × Int × Int × List Int)) : Option ((Bool × Unit) × (Unit)) :=
  (spec_l09Same.F ((a_1, (a_2, (a_3, a_4))), (b_5, (b_6, (b_7, b_8))), ())).bind fun r9 =>
    some (((r9.1.1 : Bool), ()), ())
theorem spec_SameCosheaf.run (k : Nat) (a_1 : List (List Int)) (a_2 : Int) (a_3 : List Int) (a_4 : List (Int × Int × Int × List Int)) (b_5 : List (List Int)) (b_6 : Int) (b_7 : List Int) (b_8 : List (Int × Int × Int × List Int)) : runFn spec_SameCosheaf.cfg spec_SameCosheaf.fin spec_SameCosheaf.code (initSt spec_SameCosheaf.sig.ps ((a_1, (a_2, (a_3, a_4))), (b_5, (b_6, (b_7, b_8))), ()) 26) k = spec_SameCosheaf.T a_1 a_2 a_3 a_4 b_5 b_6 b_7 b_8 := by kernel_rfl
theorem spec_SameCosheaf.eq (a_1 : List (List Int)) (a_2 : Int) (a_3 : List Int) (a_4 : List (Int × Int × Int × List Int)) (b_5 : List (List Int)) (b_6 : Int) (b_7 : List Int) (b_8 : List (Int × Int × Int × List Int)) : spec_SameCosheaf.F ((a_1, (a_2, (a_3, a_4))), (b_5, (b_6, (b_7, b_8))), ()) = spec_SameCosheaf.T a_1 a_2 a_3 a_4 b_5 b_6 b_7 b_8 := (congrArg anyK (funext fun k => spec_SameCosheaf.run k a_1 a_2 a_3 a_4 b_5 b_6 b_7 b_8)).trans (anyK_const _)
theorem spec_SameCosheaf.ok : CtxOK Go.Proofs.Try.prog spec_SameCosheaf.ctx := ⟨List.forall_mem_nil _, mixed_ok, tab_ok tab_good, List.forall_mem_cons.2 ⟨spec_l09Same.S, List.forall_mem_nil _⟩, List.forall_mem_nil _⟩
theorem spec_SameCosheaf.S : Sound Go.Proofs.Try.prog ⟨20, spec_SameCosheaf.sig, spec_SameCosheaf.F⟩ := sound_any (fn := Go.Proofs.Try.f20) (code := spec_SameCosheaf.code) (g := spec_SameCosheaf.cfg) (res := [.tmp 4]) Go.Proofs.Try.func20 (by kernel_rfl) (by kernel_rfl) spec_SameCosheaf.ok (by kernel_rfl) (by kernel_rfl) (Nat.le_of_ble_eq_true (by kernel_rfl)) (by kernel_rfl)
/-! ### laws_toInt64S -/
noncomputable def laws_toInt64S.sig : Sig := ⟨[.val false (.sl (.int .i64))], [(.val false, (.sl (.int .i64)), .deep)]⟩
noncomputable def laws_toInt64S.ctx : Ctx := ⟨tabOf tabl, [], [], []⟩
noncomputable def laws_toInt64S.cfg : Cfg := ⟨laws_toInt64S.ctx, [], [], fun id => match id with | 3 => ([0, 3, 4], [12]) | _ => ([], [])⟩
noncomputable def laws_toInt64S.code : Code := (Go.Proofs.Try.f15).body.getD .skip
noncomputable def laws_toInt64S.fin := finK laws_toInt64S.ctx laws_toInt64S.sig [.tmp 2]
noncomputable def laws_toInt64S.F (d : List Int × Unit) : Option ((List Int × Unit) × (Unit)) := anyK (runFn laws_toInt64S.cfg laws_toInt64S.fin laws_toInt64S.code (initSt laws_toInt64S.sig.ps d 22))
noncomputable def laws_toInt64S.l3 (k : Nat) (x2 : List Int) (i3 : Int) (x4 : List Int) : Option ((List Int × Unit) × (Unit)) :=
  Go.Vm.runT laws_toInt64S.cfg laws_toInt64S.fin k [.inLoop (sub [1, 1, 0, 1, 0, 0] laws_toInt64S.code), .inBlock 0, .code (sub [1, 1, 1] laws_toInt64S.code)]
    ⟨[.val false [⟨(.sl (.int .i64)), .sh, x2⟩], .dead, .dead, .view 12 (.root 0) 1 false, .val false [⟨(.int .i64), .sh, i3⟩]] ++ deads 17, [(12, ⟨false, [⟨(.sl (.int .i64)), .deep, x4⟩]⟩)]⟩
theorem laws_toInt64S.l3_eq (k : Nat) (x2 : List Int) (i3 : Int) (x4 : List Int) : laws_toInt64S.l3 (k + 1) x2 i3 x4 =
  if (decide (i3 < (x2.length : Int))) = true then
    if 0 ≤ i3 ∧ i3 < (x2.length : Int) then
      if 0 ≤ i3 ∧ i3 < (x4.length : Int) then
        laws_toInt64S.l3 k x2 (IntKind.i64.wrap (i3 + (1 : Int))) (x4.set i3.toNat (x2.getD i3.toNat 0 : Int))
      else
        none
    else
      none
  else
    some ((x4, ()), ()) := by kernel_rfl
noncomputable def laws_toInt64S.T (k : Nat) (a_1 : List Int) : Option ((List Int × Unit) × (Unit)) :=
  if 0 ≤ (a_1.length : Int) ∧ (a_1.length : Int) ≤ (bigN : Int) then
    laws_toInt64S.l3 k a_1 (0 : Int) (List.replicate (a_1.length : Int).toNat 0)
  else
    none
theorem laws_toInt64S.run (k : Nat) (a_1 : List Int) : runFn laws_toInt64S.cfg laws_toInt64S.fin laws_toInt64S.code (initSt laws_toInt64S.sig.ps (a_1, ()) 22) k = laws_toInt64S.T k a_1 := by kernel_rfl
theorem laws_toInt64S.of (a_1 : List Int) {r : (List Int × Unit) × (Unit)} (h : Ev (fun k => laws_toInt64S.T k a_1) r) : laws_toInt64S.F (a_1, ()) = some r := Ev.run (fun k => laws_toInt64S.run k a_1) h
theorem laws_toInt64S.ok : CtxOK Go.Proofs.Try.prog laws_toInt64S.ctx := ⟨List.forall_mem_nil _, mixed_ok, tab_ok tab_good, List.forall_mem_nil _, List.forall_mem_nil _⟩
theorem laws_toInt64S.S : Sound Go.Proofs.Try.prog ⟨15, laws_toInt64S.sig, laws_toInt64S.F⟩ := sound_any (fn := Go.Proofs.Try.f15) (code := laws_toInt64S.code) (g := laws_toInt64S.cfg) (res := [.tmp 2]) Go.Proofs.Try.func15 (by kernel_rfl) (by kernel_rfl) laws_toInt64S.ok (by kernel_rfl) (by kernel_rfl) (Nat.le_of_ble_eq_true (by kernel_rfl)) (by kernel_rfl)
/-! ### laws_toInt64SS -/
noncomputable def laws_toInt64SS.sig : Sig := ⟨[.val false (.sl (.sl (.int .i64)))], [(.val false, (.sl (.sl (.int .i64))), .deep)]⟩
noncomputable def laws_toInt64SS.ctx : Ctx := ⟨tabOf tabl, [⟨15, laws_toInt64S.sig, laws_toInt64S.F⟩], [], []⟩
noncomputable def laws_toInt64SS.cfg : Cfg := ⟨laws_toInt64SS.ctx, [], [], fun id => match id with | 3 => ([0, 3, 4], [12]) | _ => ([], [])⟩
noncomputable def laws_toInt64SS.code : Code := (Go.Proofs.Try.f69).body.getD .skip
noncomputable def laws_toInt64SS.fin := finK laws_toInt64SS.ctx laws_toInt64SS.sig [.tmp 2]
noncomputable def laws_toInt64SS.F (d : List (List Int) × Unit) : Option ((List (List Int) × Unit) × (Unit)) := anyK (runFn laws_toInt64SS.cfg laws_toInt64SS.fin laws_toInt64SS.code (initSt laws_toInt64SS.sig.ps d 23))
noncomputable def laws_toInt64SS.l3 (k : Nat) (x2 : List (List Int)) (i3 : Int) (x4 : List (List Int)) : Option ((List (List Int) × Unit) × (Unit)) :=
  Go.Vm.runT laws_toInt64SS.cfg laws_toInt64SS.fin k [.inLoop (sub [1, 1, 0, 1, 0, 0] laws_toInt64SS.code), .inBlock 0, .code (sub [1, 1, 1] laws_toInt64SS.code)]
    ⟨[.val false [⟨(.sl (.sl (.int .i64))), .sh, x2⟩], .dead, .dead, .view 12 (.root 0) 1 false, .val false [⟨(.int .i64), .sh, i3⟩]] ++ deads 18, [(12, ⟨false, [⟨(.sl (.sl (.int .i64))), .deep, x4⟩]⟩)]⟩
theorem laws_toInt64SS.l3_eq (k : Nat) (x2 : List (List Int)) (i3 : Int) (x4 : List (List Int)) : laws_toInt64SS.l3 (k + 1) x2 i3 x4 =
  if (decide (i3 < (x2.length : Int))) = true then
    if 0 ≤ i3 ∧ i3 < (x2.length : Int) then
      (laws_toInt64S.F (x2.getD i3.toNat ([] : List Int), ())).bind fun r5 =>
        if 0 ≤ i3 ∧ i3 < (x4.length : Int) then
          laws_toInt64SS.l3 k x2 (IntKind.i64.wrap (i3 + (1 : Int))) (x4.set i3.toNat r5.1.1)
        else
          none
    else
      none
  else
    some ((x4, ()), ()) := by kernel_rfl
noncomputable def laws_toInt64SS.T (k : Nat) (a_1 : List (List Int)) : Option ((List (List Int) × Unit) × (Unit)) :=
  if 0 ≤ (a_1.length : Int) ∧ (a_1.length : Int) ≤ (bigN : Int) then
    laws_toInt64SS.l3 k a_1 (0 : Int) (List.replicate (a_1.length : Int).toNat ([] : List Int))
  else
    none
theorem laws_toInt64SS.run (k : Nat) (a_1 : List (List Int)) : runFn laws_toInt64SS.cfg laws_toInt64SS.fin laws_toInt64SS.code (initSt laws_toInt64SS.sig.ps (a_1, ()) 23) k = laws_toInt64SS.T k a_1 := by kernel_rfl
theorem laws_toInt64SS.of (a_1 : List (List Int)) {r : (List (List Int) × Unit) × (Unit)} (h : Ev (fun k => laws_toInt64SS.T k a_1) r) : laws_toInt64SS.F (a_1, ()) = some r := Ev.run (fun k => laws_toInt64SS.run k a_1) h
theorem laws_toInt64SS.ok : CtxOK Go.Proofs.Try.prog laws_toInt64SS.ctx := ⟨List.forall_mem_nil _, mixed_ok, tab_ok tab_good, List.forall_mem_cons.2 ⟨laws_toInt64S.S, List.forall_mem_nil _⟩, List.forall_mem_nil _⟩
theorem laws_toInt64SS.S : Sound Go.Proofs.Try.prog ⟨69, laws_toInt64SS.sig, laws_toInt64SS.F⟩ := sound_any (fn := Go.Proofs.Try.f69) (code := laws_toInt64SS.code) (g := laws_toInt64SS.cfg) (res := [.tmp 2]) Go.Proofs.Try.func69 (by kernel_rfl) (by kernel_rfl) laws_toInt64SS.ok (by kernel_rfl) (by kernel_rfl) (Nat.le_of_ble_eq_true (by kernel_rfl)) (by kernel_rfl)
/-! ### laws_toComplex -/
noncomputable def laws_toComplex.sig : Sig := ⟨[.val true (.sl (.sl (.int .i64)))], [(.val true, (.sl (.sl (.int .i64))), .deep)]⟩
noncomputable def laws_toComplex.ctx : Ctx := ⟨tabOf tabl, [⟨69, laws_toInt64SS.sig, laws_toInt64SS.F⟩], [], []⟩
noncomputable def laws_toComplex.cfg : Cfg := ⟨laws_toComplex.ctx, [], [], fun _ => ([], [])⟩
noncomputable def laws_toComplex.code : Code := (Go.Proofs.Try.f31).body.getD .skip
noncomputable def laws_toComplex.fin := finK laws_toComplex.ctx laws_toComplex.sig [.cell 2 45]
noncomputable def laws_toComplex.F (d : List (List Int) × Unit) : Option ((List (List Int) × Unit) × (Unit)) := anyK (runFn laws_toComplex.cfg laws_toComplex.fin laws_toComplex.code (initSt laws_toComplex.sig.ps d 9))
noncomputable def laws_toComplex.T (a_1 : List (List Int)) : Option ((List (List Int) × Unit) × (Unit)) :=
  (laws_toInt64SS.F (a_1, ())).bind fun r2 =>
    some ((r2.1.1, ()), ())
theorem laws_toComplex.run (k : Nat) (a_1 : List (List Int)) : runFn laws_toComplex.cfg laws_toComplex.fin laws_toComplex.code (initSt laws_toComplex.sig.ps (a_1, ()) 9) k = laws_toComplex.T a_1 := by kernel_rfl
theorem laws_toComplex.eq (a_1 : List (List Int)) : laws_toComplex.F (a_1, ()) = laws_toComplex.T a_1 := (congrArg anyK (funext fun k => laws_toComplex.run k a_1)).trans (anyK_const _)
theorem laws_toComplex.ok : CtxOK Go.Proofs.Try.prog laws_toComplex.ctx := ⟨List.forall_mem_nil _, mixed_ok, tab_ok tab_good, List.forall_mem_cons.2 ⟨laws_toInt64SS.S, List.forall_mem_nil _⟩, List.forall_mem_nil _⟩
theorem laws_toComplex.S : Sound Go.Proofs.Try.prog ⟨31, laws_toComplex.sig, laws_toComplex.F⟩ := sound_any (fn := Go.Proofs.Try.f31) (code := laws_toComplex.code) (g := laws_toComplex.cfg) (res := [.cell 2 45]) Go.Proofs.Try.func31 (by kernel_rfl) (by kernel_rfl) laws_toComplex.ok (by kernel_rfl) (by kernel_rfl) (Nat.le_of_ble_eq_true (by kernel_rfl)) (by kernel_rfl)
/-! ### laws_toMatrix -/
noncomputable def laws_toMatrix.sig : Sig := ⟨[.val true TMatrix], [(.val true, TMatrix, .deep)]⟩
noncomputable def laws_toMatrix.ctx : Ctx := ⟨tabOf tabl, [⟨15, laws_toInt64S.sig, laws_toInt64S.F⟩], [], []⟩
noncomputable def laws_toMatrix.cfg : Cfg := ⟨laws_toMatrix.ctx, [], [], fun _ => ([], [])⟩
noncomputable def laws_toMatrix.code : Code := (Go.Proofs.Try.f104).body.getD .skip
noncomputable def laws_toMatrix.fin := finK laws_toMatrix.ctx laws_toMatrix.sig [.cell 2 99]
noncomputable def laws_toMatrix.F (d : (Int × Int × Int × List Int) × Unit) : Option (((Int × Int × Int × List Int) × Unit) × (Unit)) := anyK (runFn laws_toMatrix.cfg laws_toMatrix.fin laws_toMatrix.code (initSt laws_toMatrix.sig.ps d 18))
noncomputable def laws_toMatrix.T (a_1 : Int) (a_2 : Int) (a_3 : Int) (a_4 : List Int) : Option (((Int × Int × Int × List Int) × Unit) × (Unit)) :=
  (laws_toInt64S.F (a_4, ())).bind fun r5 =>
    some (((a_1, (a_2, (a_3, r5.1.1))), ()), ())
theorem laws_toMatrix.run (k : Nat) (a_1 : Int) (a_2 : Int) (a_3 : Int) (a_4 : List Int) : runFn laws_toMatrix.cfg laws_toMatrix.fin laws_toMatrix.code (initSt laws_toMatrix.sig.ps ((a_1, (a_2, (a_3, a_4))), ()) 18) k = laws_toMatrix.T a_1 a_2 a_3 a_4 := by kernel_rfl
theorem laws_toMatrix.eq (a_1 : Int) (a_2 : Int) (a_3 : Int) (a_4 : List Int) : laws_toMatrix.F ((a_1, (a_2, (a_3, a_4))), ()) = laws_toMatrix.T a_1 a_2 a_3 a_4 := (congrArg anyK (funext fun k => laws_toMatrix.run k a_1 a_2 a_3 a_4)).trans (anyK_const _)
theorem laws_toMatrix.ok : CtxOK Go.Proofs.Try.prog laws_toMatrix.ctx := ⟨List.forall_mem_nil _, mixed_ok, tab_ok tab_good, List.forall_mem_cons.2 ⟨laws_toInt64S.S, List.forall_mem_nil _⟩, List.forall_mem_nil _⟩
theorem laws_toMatrix.S : Sound Go.Proofs.Try.prog ⟨104, laws_toMatrix.sig, laws_toMatrix.F⟩ := sound_any (fn := Go.Proofs.Try.f104) (code := laws_toMatrix.code) (g := laws_toMatrix.cfg) (res := [.cell 2 99]) Go.Proofs.Try.func104 (by kernel_rfl) (by kernel_rfl) laws_toMatrix.ok (by kernel_rfl) (by kernel_rfl) (Nat.le_of_ble_eq_true (by kernel_rfl)) (by kernel_rfl)
/-! ### laws_toMatrixS -/
noncomputable def laws_toMatrixS.sig : Sig := ⟨[.val false (.sl TMatrix)], [(.val false, (.sl TMatrix), .deep)]⟩
noncomputable def laws_toMatrixS.ctx : Ctx := ⟨tabOf tabl, [⟨104, laws_toMatrix.sig, laws_toMatrix.F⟩], [], []⟩
noncomputable def laws_toMatrixS.cfg : Cfg := ⟨laws_toMatrixS.ctx, [], [], fun id => match id with | 3 => ([0, 3, 4], [12]) | _ => ([], [])⟩
noncomputable def laws_toMatrixS.code : Code := (Go.Proofs.Try.f58).body.getD .skip
noncomputable def laws_toMatrixS.fin := finK laws_toMatrixS.ctx laws_toMatrixS.sig [.tmp 2]
noncomputable def laws_toMatrixS.F (d : List (Int × Int × Int × List Int) × Unit) : Option ((List (Int × Int × Int × List Int) × Unit) × (Unit)) := anyK (runFn laws_toMatrixS.cfg laws_toMatrixS.fin laws_toMatrixS.code (initSt laws_toMatrixS.sig.ps d 23))
noncomputable def laws_toMatrixS.l3 (k : Nat) (x2 : List (Int × Int × Int × List Int)) (i3 : Int) (x4 : List (Int × Int × Int × List Int)) : Option ((List (Int × Int × Int × List Int) × Unit) × (Unit)) :=
  Go.Vm.runT laws_toMatrixS.cfg laws_toMatrixS.fin k [.inLoop (sub [1, 1, 0, 1, 0, 0] laws_toMatrixS.code), .inBlock 0, .code (sub [1, 1, 1] laws_toMatrixS.code)]
    ⟨[.val false [⟨(.sl TMatrix), .sh, x2⟩], .dead, .dead, .view 12 (.root 0) 1 false, .val false [⟨(.int .i64), .sh, i3⟩]] ++ deads 18, [(12, ⟨false, [⟨(.sl TMatrix), .deep, x4⟩]⟩)]⟩
theorem laws_toMatrixS.l3_eq (k : Nat) (x2 : List (Int × Int × Int × List Int)) (i3 : Int) (x4 : List (Int × Int × Int × List Int)) : laws_toMatrixS.l3 (k + 1) x2 i3 x4 =
  if (decide (i3 < (x2.length : Int))) = true then
    if 0 ≤ i3 ∧ i3 < (x2.length : Int) then
      (laws_toMatrix.F (x2.getD i3.toNat (0, 0, 0, ([] : List Int)), ())).bind fun r5 =>
        if 0 ≤ i3 ∧ i3 < (x4.length : Int) then
          laws_toMatrixS.l3 k x2 (IntKind.i64.wrap (i3 + (1 : Int))) (x4.set i3.toNat r5.1.1)
        else
          none
    else
      none
  else
    some ((x4, ()), ()) := by kernel_rfl
noncomputable def laws_toMatrixS.T (k : Nat) (a_1 : List (Int × Int × Int × List Int)) : Option ((List (Int × Int × Int × List Int) × Unit) × (Unit)) :=
  if 0 ≤ (a_1.length : Int) ∧ (a_1.length : Int) ≤ (bigN : Int) then
    laws_toMatrixS.l3 k a_1 (0 : Int) (List.replicate (a_1.length : Int).toNat (0, 0, 0, ([] : List Int)))
  else
    none
theorem laws_toMatrixS.run (k : Nat) (a_1 : List (Int × Int × Int × List Int)) : runFn laws_toMatrixS.cfg laws_toMatrixS.fin laws_toMatrixS.code (initSt laws_toMatrixS.sig.ps (a_1, ()) 23) k = laws_toMatrixS.T k a_1 := by kernel_rfl
theorem laws_toMatrixS.of (a_1 : List (Int × Int × Int × List Int)) {r : (List (Int × Int × Int × List Int) × Unit) × (Unit)} (h : Ev (fun k => laws_toMatrixS.T k a_1) r) : laws_toMatrixS.F (a_1, ()) = some r := Ev.run (fun k => laws_toMatrixS.run k a_1) h
theorem laws_toMatrixS.ok : CtxOK Go.Proofs.Try.prog laws_toMatrixS.ctx := ⟨List.forall_mem_nil _, mixed_ok, tab_ok tab_good, List.forall_mem_cons.2 ⟨laws_toMatrix.S, List.forall_mem_nil _⟩, List.forall_mem_nil _⟩
theorem laws_toMatrixS.S : Sound Go.Proofs.Try.prog ⟨58, laws_toMatrixS.sig, laws_toMatrixS.F⟩ := sound_any (fn := Go.Proofs.Try.f58) (code := laws_toMatrixS.code) (g := laws_toMatrixS.cfg) (res := [.tmp 2]) Go.Proofs.Try.func58 (by kernel_rfl) (by kernel_rfl) laws_toMatrixS.ok (by kernel_rfl) (by kernel_rfl) (Nat.le_of_ble_eq_true (by kernel_rfl)) (by kernel_rfl)
/-! ### laws_toCosheaf -/
noncomputable def laws_toCosheaf.sig : Sig := ⟨[.val true TSheaf], [(.val true, TSheaf, .deep)]⟩
noncomputable def laws_toCosheaf.ctx : Ctx := ⟨tabOf tabl, [⟨15, laws_toInt64S.sig, laws_toInt64S.F⟩, ⟨31, laws_toComplex.sig, laws_toComplex.F⟩, ⟨58, laws_toMatrixS.sig, laws_toMatrixS.F⟩], [], []⟩
noncomputable def laws_toCosheaf.cfg : Cfg := ⟨laws_toCosheaf.ctx, [], [], fun _ => ([], [])⟩
noncomputable def laws_toCosheaf.code : Code := (Go.Proofs.Try.f21).body.getD .skip
noncomputable def laws_toCosheaf.fin := finK laws_toCosheaf.ctx laws_toCosheaf.sig [.cell 2 48]
noncomputable def laws_toCosheaf.F (d : (List (List Int) × Int × List Int × List (Int × Int × Int × List Int)) × Unit) : Option (((List (List Int) × Int × List Int × List (Int × Int × Int × List Int)) × Unit) × (Unit)) := anyK (runFn laws_toCosheaf.cfg laws_toCosheaf.fin laws_toCosheaf.code (initSt laws_toCosheaf.sig.ps d 20))
noncomputable def laws_toCosheaf.T (a_1 : List (List Int)) (a_2 : Int) (a_3 : List Int) (a_4 : List (Int × Int × Int × List Int)) : Option (((List (List Int) × Int × List Int × List (Int × Int × Int × List Int)) × Unit) × (Unit)) :=
  (laws_toComplex.F (a_1, ())).bind fun r5 =>
    (laws_toInt64S.F (a_3, ())).bind fun r6 =>
      (laws_toMatrixS.F (a_4, ())).bind fun r7 =>
        some (((r5.1.1, (a_2, (r6.1.1, r7.1.1))), ()), ())
theorem laws_toCosheaf.run (k : Nat) (a_1 : List (List Int)) (a_2 : Int) (a_3 : List Int) (a_4 : List (Int × Int × Int × List Int)) : runFn laws_toCosheaf.cfg laws_toCosheaf.fin laws_toCosheaf.code (initSt laws_toCosheaf.sig.ps ((a_1, (a_2, (a_3, a_4))), ()) 20) k = laws_toCosheaf.T a_1 a_2 a_3 a_4 := by kernel_rfl
theorem laws_toCosheaf.eq (a_1 : List (List Int)) (a_2 : Int) (a_3 : List Int) (a_4 : List (Int × Int × Int × List Int)) : laws_toCosheaf.F ((a_1, (a_2, (a_3, a_4))), ()) = laws_toCosheaf.T a_1 a_2 a_3 a_4 := (congrArg anyK (funext fun k => laws_toCosheaf.run k a_1 a_2 a_3 a_4)).trans (anyK_const _)
theorem laws_toCosheaf.ok : CtxOK Go.Proofs.Try.prog laws_toCosheaf.ctx := ⟨List.forall_mem_nil _, mixed_ok, tab_ok tab_good, List.forall_mem_cons.2 ⟨laws_toInt64S.S, List.forall_mem_cons.2 ⟨laws_toComplex.S, List.forall_mem_cons.2 ⟨laws_toMatrixS.S, List.forall_mem_nil _⟩⟩⟩, List.forall_mem_nil _⟩
theorem laws_toCosheaf.S : Sound Go.Proofs.Try.prog ⟨21, laws_toCosheaf.sig, laws_toCosheaf.F⟩ := sound_any (fn := Go.Proofs.Try.f21) (code := laws_toCosheaf.code) (g := laws_toCosheaf.cfg) (res := [.cell 2 48]) Go.Proofs.Try.func21 (by kernel_rfl) (by kernel_rfl) laws_toCosheaf.ok (by kernel_rfl) (by kernel_rfl) (Nat.le_of_ble_eq_true (by kernel_rfl)) (by kernel_rfl)
/-! ### slices_EqualFunc_LLint64_LLint64_Lint64_Lint64 -/
noncomputable def slices_EqualFunc_LLint64_LLint64_Lint64_Lint64.sig : Sig := ⟨[.val false (.sl (.sl (.int .i64))), .val false (.sl (.sl (.int .i64))), .fnx ⟨[(false, (.sl (.int .i64))), (false, (.sl (.int .i64)))], [(.val false, .bool, .deep)]⟩], [(.val false, .bool, .deep)]⟩
noncomputable def slices_EqualFunc_LLint64_LLint64_Lint64_Lint64.ctx : Ctx := ⟨tabOf tabl, [], [], []⟩
noncomputable def slices_EqualFunc_LLint64_LLint64_Lint64_Lint64.cfg : Cfg := ⟨slices_EqualFunc_LLint64_LLint64_Lint64_Lint64.ctx, [], [], fun id => match id with | 4 => ([1, 2, 15, 16, 17], []) | _ => ([], [])⟩
noncomputable def slices_EqualFunc_LLint64_LLint64_Lint64_Lint64.code : Code := (Go.Proofs.Try.f172).body.getD .skip
noncomputable def slices_EqualFunc_LLint64_LLint64_Lint64_Lint64.fin := finK slices_EqualFunc_LLint64_LLint64_Lint64_Lint64.ctx slices_EqualFunc_LLint64_LLint64_Lint64_Lint64.sig [.tmp 6]
noncomputable def slices_EqualFunc_LLint64_LLint64_Lint64_Lint64.F (d : List (List Int) × List (List Int) × ((List Int × List Int × Unit) → Option (Bool × Unit)) × Unit) : Option ((Bool × Unit) × (Unit)) := anyK (runFn slices_EqualFunc_LLint64_LLint64_Lint64_Lint64.cfg slices_EqualFunc_LLint64_LLint64_Lint64_Lint64.fin slices_EqualFunc_LLint64_LLint64_Lint64_Lint64.code (initSt slices_EqualFunc_LLint64_LLint64_Lint64_Lint64.sig.ps d 32))
noncomputable def slices_EqualFunc_LLint64_LLint64_Lint64_Lint64.l4 (k : Nat) (x4 : List (List Int)) (f5 : (List Int × List Int × Unit) → Option (Bool × Unit)) (x6 : List (List Int)) (i7 : Int) (i8 : Int) : Option ((Bool × Unit) × (Unit)) :=
  Go.Vm.runT slices_EqualFunc_LLint64_LLint64_Lint64_Lint64.cfg slices_EqualFunc_LLint64_LLint64_Lint64_Lint64.fin k [.inLoop (sub [1, 1, 0, 1, 0, 0] slices_EqualFunc_LLint64_LLint64_Lint64_Lint64.code), .inBlock 0, .code (sub [1, 1, 1] slices_EqualFunc_LLint64_LLint64_Lint64_Lint64.code)]
    ⟨[.dead, .val false [⟨(.sl (.sl (.int .i64))), .sh, x4⟩], .fnx ⟨[(false, (.sl (.int .i64))), (false, (.sl (.int .i64)))], [(.val false, .bool, .deep)]⟩ f5, .dead, .dead, .dead, .dead, .dead, .dead, .dead, .dead, .dead, .dead, .dead, .dead, .val false [⟨(.sl (.sl (.int .i64))), .sh, x6⟩], .val false [⟨(.int .i64), .sh, i7⟩], .val false [⟨(.int .i64), .sh, i8⟩]] ++ deads 14, []⟩
theorem slices_EqualFunc_LLint64_LLint64_Lint64_Lint64.l4_eq (k : Nat) (x4 : List (List Int)) (f5 : (List Int × List Int × Unit) → Option (Bool × Unit)) (x6 : List (List Int)) (i7 : Int) (i8 : Int) : slices_EqualFunc_LLint64_LLint64_Lint64_Lint64.l4 (k + 1) x4 f5 x6 i7 i8 =
  if (decide (i8 < i7)) = true then
    if 0 ≤ i8 ∧ i8 < (x6.length : Int) then
      if 0 ≤ i8 ∧ i8 < (x4.length : Int) then
        (f5 (x6.getD i8.toNat ([] : List Int), x4.getD i8.toNat ([] : List Int), ())).bind fun r9 =>
          if (!(r9.1 : Bool)) = true then
            some ((false, ()), ())
          else
            slices_EqualFunc_LLint64_LLint64_Lint64_Lint64.l4 k x4 f5 x6 i7 (IntKind.i64.wrap (i8 + (1 : Int)))
      else
        none
    else
      none
  else
    some ((true, ()), ()) := by kernel_rfl
noncomputable def slices_EqualFunc_LLint64_LLint64_Lint64_Lint64.T (k : Nat) (s1_1 : List (List Int)) (s2_2 : List (List Int)) (f_3 : (List Int × List Int × Unit) → Option (Bool × Unit)) : Option ((Bool × Unit) × (Unit)) :=
  if ((s1_1.length : Int) != (s2_2.length : Int)) = true then
    some ((false, ()), ())
  else
    slices_EqualFunc_LLint64_LLint64_Lint64_Lint64.l4 k s2_2 f_3 s1_1 (s1_1.length : Int) (0 : Int)
theorem slices_EqualFunc_LLint64_LLint64_Lint64_Lint64.run (k : Nat) (s1_1 : List (List Int)) (s2_2 : List (List Int)) (f_3 : (List Int × List Int × Unit) → Option (Bool × Unit)) : runFn slices_EqualFunc_LLint64_LLint64_Lint64_Lint64.cfg slices_EqualFunc_LLint64_LLint64_Lint64_Lint64.fin slices_EqualFunc_LLint64_LLint64_Lint64_Lint64.code (initSt slices_EqualFunc_LLint64_LLint64_Lint64_Lint64.sig.ps (s1_1, s2_2, f_3, ()) 32) k = slices_EqualFunc_LLint64_LLint64_Lint64_Lint64.T k s1_1 s2_2 f_3 := by kernel_rfl
theorem slices_EqualFunc_LLint64_LLint64_Lint64_Lint64.of (s1_1 : List (List Int)) (s2_2 : List (List Int)) (f_3 : (List Int × List Int × Unit) → Option (Bool × Unit)) {r : (Bool × Unit) × (Unit)} (h : Ev (fun k => slices_EqualFunc_LLint64_LLint64_Lint64_Lint64.T k s1_1 s2_2 f_3) r) : slices_EqualFunc_LLint64_LLint64_Lint64_Lint64.F (s1_1, s2_2, f_3, ()) = some r := Ev.run (fun k => slices_EqualFunc_LLint64_LLint64_Lint64_Lint64.run k s1_1 s2_2 f_3) h
theorem slices_EqualFunc_LLint64_LLint64_Lint64_Lint64.ok : CtxOK Go.Proofs.Try.prog slices_EqualFunc_LLint64_LLint64_Lint64_Lint64.ctx := ⟨List.forall_mem_nil _, mixed_ok, tab_ok tab_good, List.forall_mem_nil _, List.forall_mem_nil _⟩
theorem slices_EqualFunc_LLint64_LLint64_Lint64_Lint64.S : Sound Go.Proofs.Try.prog ⟨172, slices_EqualFunc_LLint64_LLint64_Lint64_Lint64.sig, slices_EqualFunc_LLint64_LLint64_Lint64_Lint64.F⟩ := sound_any (fn := Go.Proofs.Try.f172) (code := slices_EqualFunc_LLint64_LLint64_Lint64_Lint64.code) (g := slices_EqualFunc_LLint64_LLint64_Lint64_Lint64.cfg) (res := [.tmp 6]) Go.Proofs.Try.func172 (by kernel_rfl) (by kernel_rfl) slices_EqualFunc_LLint64_LLint64_Lint64_Lint64.ok (by kernel_rfl) (by kernel_rfl) (Nat.le_of_ble_eq_true (by kernel_rfl)) (by kernel_rfl)
/-! ### slices_Equal_Lint64_int64 -/
noncomputable def slices_Equal_Lint64_int64.sig : Sig := ⟨[.val false (.sl (.int .i64)), .val false (.sl (.int .i64))], [(.val false, .bool, .deep)]⟩
noncomputable def slices_Equal_Lint64_int64.ctx : Ctx := ⟨tabOf tabl, [], [], []⟩
noncomputable def slices_Equal_Lint64_int64.cfg : Cfg := ⟨slices_Equal_Lint64_int64.ctx, [], [], fun id => match id with | 4 => ([0, 1, 12, 13], []) | _ => ([], [])⟩
noncomputable def slices_Equal_Lint64_int64.code : Code := (Go.Proofs.Try.f105).body.getD .skip
noncomputable def slices_Equal_Lint64_int64.fin := finK slices_Equal_Lint64_int64.ctx slices_Equal_Lint64_int64.sig [.tmp 4]
noncomputable def slices_Equal_Lint64_int64.F (d : List Int × List Int × Unit) : Option ((Bool × Unit) × (Unit)) := anyK (runFn slices_Equal_Lint64_int64.cfg slices_Equal_Lint64_int64.fin slices_Equal_Lint64_int64.code (initSt slices_Equal_Lint64_int64.sig.ps d 26))
noncomputable def slices_Equal_Lint64_int64.l4 (k : Nat) (x3 : List Int) (x4 : List Int) (i5 : Int) (i6 : Int) : Option ((Bool × Unit) × (Unit)) :=
  Go.Vm.runT slices_Equal_Lint64_int64.cfg slices_Equal_Lint64_int64.fin k [.inLoop (sub [1, 1, 0, 1, 0, 0] slices_Equal_Lint64_int64.code), .inBlock 0, .code (sub [1, 1, 1] slices_Equal_Lint64_int64.code)]
    ⟨[.val false [⟨(.sl (.int .i64)), .sh, x3⟩], .val false [⟨(.sl (.int .i64)), .sh, x4⟩], .dead, .dead, .dead, .dead, .dead, .dead, .dead, .dead, .dead, .dead, .val false [⟨(.int .i64), .sh, i5⟩], .val false [⟨(.int .i64), .sh, i6⟩]] ++ deads 12, []⟩
theorem slices_Equal_Lint64_int64.l4_eq (k : Nat) (x3 : List Int) (x4 : List Int) (i5 : Int) (i6 : Int) : slices_Equal_Lint64_int64.l4 (k + 1) x3 x4 i5 i6 =
  if (decide (i6 < i5)) = true then
    if 0 ≤ i6 ∧ i6 < (x3.length : Int) then
      if 0 ≤ i6 ∧ i6 < (x4.length : Int) then
        if ((x3.getD i6.toNat 0 : Int) != (x4.getD i6.toNat 0 : Int)) = true then
          some ((false, ()), ())
        else
          slices_Equal_Lint64_int64.l4 k x3 x4 i5 (IntKind.i64.wrap (i6 + (1 : Int)))
      else
        none
    else
      none
  else
    some ((true, ()), ()) := by kernel_rfl
noncomputable def slices_Equal_Lint64_int64.T (k : Nat) (s1_1 : List Int) (s2_2 : List Int) : Option ((Bool × Unit) × (Unit)) :=
  if ((s1_1.length : Int) != (s2_2.length : Int)) = true then
    some ((false, ()), ())
  else
    slices_Equal_Lint64_int64.l4 k s1_1 s2_2 (s1_1.length : Int) (0 : Int)
theorem slices_Equal_Lint64_int64.run (k : Nat) (s1_1 : List Int) (s2_2 : List Int) : runFn slices_Equal_Lint64_int64.cfg slices_Equal_Lint64_int64.fin slices_Equal_Lint64_int64.code (initSt slices_Equal_Lint64_int64.sig.ps (s1_1, s2_2, ()) 26) k = slices_Equal_Lint64_int64.T k s1_1 s2_2 := by kernel_rfl
theorem slices_Equal_Lint64_int64.of (s1_1 : List Int) (s2_2 : List Int) {r : (Bool × Unit) × (Unit)} (h : Ev (fun k => slices_Equal_Lint64_int64.T k s1_1 s2_2) r) : slices_Equal_Lint64_int64.F (s1_1, s2_2, ()) = some r := Ev.run (fun k => slices_Equal_Lint64_int64.run k s1_1 s2_2) h
theorem slices_Equal_Lint64_int64.ok : CtxOK Go.Proofs.Try.prog slices_Equal_Lint64_int64.ctx := ⟨List.forall_mem_nil _, mixed_ok, tab_ok tab_good, List.forall_mem_nil _, List.forall_mem_nil _⟩
theorem slices_Equal_Lint64_int64.S : Sound Go.Proofs.Try.prog ⟨105, slices_Equal_Lint64_int64.sig, slices_Equal_Lint64_int64.F⟩ := sound_any (fn := Go.Proofs.Try.f105) (code := slices_Equal_Lint64_int64.code) (g := slices_Equal_Lint64_int64.cfg) (res := [.tmp 4]) Go.Proofs.Try.func105 (by kernel_rfl) (by kernel_rfl) slices_Equal_Lint64_int64.ok (by kernel_rfl) (by kernel_rfl) (Nat.le_of_ble_eq_true (by kernel_rfl)) (by kernel_rfl)
noncomputable def slices_Equal_Lint64_int64.cloG (y : Unit) (d : List Int × List Int × Unit) : Option (Bool × Unit) := (slices_Equal_Lint64_int64.F (joinIns [] [(false, (.sl (.int .i64))), (false, (.sl (.int .i64)))] d y)).map (·.1)
noncomputable def slices_Equal_Lint64_int64.clo : Clo := ⟨105, ⟨[(false, (.sl (.int .i64))), (false, (.sl (.int .i64)))], [(.val false, .bool, .deep)]⟩, [], slices_Equal_Lint64_int64.cloG⟩
theorem slices_Equal_Lint64_int64.cloS : SoundClo Go.Proofs.Try.prog slices_Equal_Lint64_int64.clo := sound_clo (s := ⟨[(false, (.sl (.int .i64))), (false, (.sl (.int .i64)))], [(.val false, .bool, .deep)]⟩) (caps := []) rfl slices_Equal_Lint64_int64.S
/-! ### impl_areSame -/
noncomputable def impl_areSame.sig : Sig := ⟨[.val false (.sl (.sl (.int .i64))), .val false (.sl (.sl (.int .i64)))], [(.val false, .bool, .deep)]⟩
noncomputable def impl_areSame.ctx : Ctx := ⟨tabOf tabl, [⟨172, slices_EqualFunc_LLint64_LLint64_Lint64_Lint64.sig, slices_EqualFunc_LLint64_LLint64_Lint64_Lint64.F⟩], [slices_Equal_Lint64_int64.clo], []⟩
noncomputable def impl_areSame.cfg : Cfg := ⟨impl_areSame.ctx, [], [], fun _ => ([], [])⟩
noncomputable def impl_areSame.code : Code := (Go.Proofs.Try.f136).body.getD .skip
noncomputable def impl_areSame.fin := finK impl_areSame.ctx impl_areSame.sig [.tmp 4]
noncomputable def impl_areSame.F (d : List (List Int) × List (List Int) × Unit) : Option ((Bool × Unit) × (Unit)) := anyK (runFn impl_areSame.cfg impl_areSame.fin impl_areSame.code (initSt impl_areSame.sig.ps d 8))
noncomputable def impl_areSame.T (a_1 : List (List Int)) (b_2 : List (List Int)) : Option ((Bool × Unit) × (Unit)) :=
  (slices_EqualFunc_LLint64_LLint64_Lint64_Lint64.F (a_1, b_2, slices_Equal_Lint64_int64.cloG (()), ())).bind fun r3 =>
    some (((r3.1.1 : Bool), ()), ())
theorem impl_areSame.run (k : Nat) (a_1 : List (List Int)) (b_2 : List (List Int)) : runFn impl_areSame.cfg impl_areSame.fin impl_areSame.code (initSt impl_areSame.sig.ps (a_1, b_2, ()) 8) k = impl_areSame.T a_1 b_2 := by kernel_rfl
theorem impl_areSame.eq (a_1 : List (List Int)) (b_2 : List (List Int)) : impl_areSame.F (a_1, b_2, ()) = impl_areSame.T a_1 b_2 := (congrArg anyK (funext fun k => impl_areSame.run k a_1 b_2)).trans (anyK_const _)
theorem impl_areSame.ok : CtxOK Go.Proofs.Try.prog impl_areSame.ctx := ⟨List.forall_mem_nil _, mixed_ok, tab_ok tab_good, List.forall_mem_cons.2 ⟨slices_EqualFunc_LLint64_LLint64_Lint64_Lint64.S, List.forall_mem_nil _⟩, List.forall_mem_cons.2 ⟨slices_Equal_Lint64_int64.cloS, List.forall_mem_nil _⟩⟩
theorem impl_areSame.S : Sound Go.Proofs.Try.prog ⟨136, impl_areSame.sig, impl_areSame.F⟩ := sound_any (fn := Go.Proofs.Try.f136) (code := impl_areSame.code) (g := impl_areSame.cfg) (res := [.tmp 4]) Go.Proofs.Try.func136 (by kernel_rfl) (by kernel_rfl) impl_areSame.ok (by kernel_rfl) (by kernel_rfl) (Nat.le_of_ble_eq_true (by kernel_rfl)) (by kernel_rfl)
/-! ### impl_SameComplex -/
noncomputable def impl_SameComplex.sig : Sig := ⟨[.val true (.sl (.sl (.int .i64))), .val true (.sl (.sl (.int .i64)))], [(.val false, .bool, .deep)]⟩
noncomputable def impl_SameComplex.ctx : Ctx := ⟨tabOf tabl, [⟨136, impl_areSame.sig, impl_areSame.F⟩], [], []⟩
noncomputable def impl_SameComplex.cfg : Cfg := ⟨impl_SameComplex.ctx, [], [], fun _ => ([], [])⟩
noncomputable def impl_SameComplex.code : Code := (Go.Proofs.Try.f80).body.getD .skip
noncomputable def impl_SameComplex.fin := finK impl_SameComplex.ctx impl_SameComplex.sig [.tmp 4]
noncomputable def impl_SameComplex.F (d : List (List Int) × List (List Int) × Unit) : Option ((Bool × Unit) × (Unit)) := anyK (runFn impl_SameComplex.cfg impl_SameComplex.fin impl_SameComplex.code (initSt impl_SameComplex.sig.ps d 10))
noncomputable def impl_SameComplex.T (a_1 : List (List Int)) (b_2 : List (List Int)) : Option ((Bool × Unit) × (Unit)) :=
  (impl_areSame.F (a_1, b_2, ())).bind fun r3 =>
    some (((r3.1.1 : Bool), ()), ())
theorem impl_SameComplex.run (k : Nat) (a_1 : List (List Int)) (b_2 : List (List Int)) : runFn impl_SameComplex.cfg impl_SameComplex.fin impl_SameComplex.code (initSt impl_SameComplex.sig.ps (a_1, b_2, ()) 10) k = impl_SameComplex.T a_1 b_2 := by kernel_rfl
theorem impl_SameComplex.eq (a_1 : List (List Int)) (b_2 : List (List Int)) : impl_SameComplex.F (a_1, b_2, ()) = impl_SameComplex.T a_1 b_2 := (congrArg anyK (funext fun k => impl_SameComplex.run k a_1 b_2)).trans (anyK_const _)
theorem impl_SameComplex.ok : CtxOK Go.Proofs.Try.prog impl_SameComplex.ctx := ⟨List.forall_mem_nil _, mixed_ok, tab_ok tab_good, List.forall_mem_cons.2 ⟨impl_areSame.S, List.forall_mem_nil _⟩, List.forall_mem_nil _⟩
theorem impl_SameComplex.S : Sound Go.Proofs.Try.prog ⟨80, impl_SameComplex.sig, impl_SameComplex.F⟩ := sound_any (fn := Go.Proofs.Try.f80) (code := impl_SameComplex.code) (g := impl_SameComplex.cfg) (res := [.tmp 4]) Go.Proofs.Try.func80 (by kernel_rfl) (by kernel_rfl) impl_SameComplex.ok (by kernel_rfl) (by kernel_rfl) (Nat.le_of_ble_eq_true (by kernel_rfl)) (by kernel_rfl)
/-! ### slices_EqualFunc_Limpl_Matrix_Limpl_Matrix_impl_Matrix_impl_Matrix -/
noncomputable def slices_EqualFunc_Limpl_Matrix_Limpl_Matrix_impl_Matrix_impl_Matrix.sig : Sig := ⟨[.val false (.sl TMatrix), .val false (.sl TMatrix), .fnx ⟨[(true, TMatrix), (true, TMatrix)], [(.val false, .bool, .deep)]⟩], [(.val false, .bool, .deep)]⟩
noncomputable def slices_EqualFunc_Limpl_Matrix_Limpl_Matrix_impl_Matrix_impl_Matrix.ctx : Ctx := ⟨tabOf tabl, [], [], []⟩
noncomputable def slices_EqualFunc_Limpl_Matrix_Limpl_Matrix_impl_Matrix_impl_Matrix.cfg : Cfg := ⟨slices_EqualFunc_Limpl_Matrix_Limpl_Matrix_impl_Matrix_impl_Matrix.ctx, [], [], fun id => match id with | 4 => ([1, 2, 15, 16, 17], []) | _ => ([], [])⟩
noncomputable def slices_EqualFunc_Limpl_Matrix_Limpl_Matrix_impl_Matrix_impl_Matrix.code : Code := (Go.Proofs.Try.f106).body.getD .skip
noncomputable def slices_EqualFunc_Limpl_Matrix_Limpl_Matrix_impl_Matrix_impl_Matrix.fin := finK slices_EqualFunc_Limpl_Matrix_Limpl_Matrix_impl_Matrix_impl_Matrix.ctx slices_EqualFunc_Limpl_Matrix_Limpl_Matrix_impl_Matrix_impl_Matrix.sig [.tmp 6]
noncomputable def slices_EqualFunc_Limpl_Matrix_Limpl_Matrix_impl_Matrix_impl_Matrix.F (d : List (Int × Int × Int × List Int) × List (Int × Int × Int × List Int) × (((Int × Int × Int × List Int) × (Int × Int × Int × List Int) × Unit) → Option (Bool × Unit)) × Unit) : Option ((Bool × Unit) × (Unit)) := anyK (runFn slices_EqualFunc_Limpl_Matrix_Limpl_Matrix_impl_Matrix_impl_Matrix.cfg slices_EqualFunc_Limpl_Matrix_Limpl_Matrix_impl_Matrix_impl_Matrix.fin slices_EqualFunc_Limpl_Matrix_Limpl_Matrix_impl_Matrix_impl_Matrix.code (initSt slices_EqualFunc_Limpl_Matrix_Limpl_Matrix_impl_Matrix_impl_Matrix.sig.ps d 32))
noncomputable def slices_EqualFunc_Limpl_Matrix_Limpl_Matrix_impl_Matrix_impl_Matrix.l4 (k : Nat) (x4 : List (Int × Int × Int × List Int)) (f5 : ((Int × Int × Int × List Int) × (Int × Int × Int × List Int) × Unit) → Option (Bool × Unit)) (x6 : List (Int × Int × Int × List Int)) (i7 : Int) (i8 : Int) : Option ((Bool × Unit) × (Unit)) :=
  Go.Vm.runT slices_EqualFunc_Limpl_Matrix_Limpl_Matrix_impl_Matrix_impl_Matrix.cfg slices_EqualFunc_Limpl_Matrix_Limpl_Matrix_impl_Matrix_impl_Matrix.fin k [.inLoop (sub [1, 1, 0, 1, 0, 0] slices_EqualFunc_Limpl_Matrix_Limpl_Matrix_impl_Matrix_impl_Matrix.code), .inBlock 0, .code (sub [1, 1, 1] slices_EqualFunc_Limpl_Matrix_Limpl_Matrix_impl_Matrix_impl_Matrix.code)]
    ⟨[.dead, .val false [⟨(.sl TMatrix), .sh, x4⟩], .fnx ⟨[(true, TMatrix), (true, TMatrix)], [(.val false, .bool, .deep)]⟩ f5, .dead, .dead, .dead, .dead, .dead, .dead, .dead, .dead, .dead, .dead, .dead, .dead, .val false [⟨(.sl TMatrix), .sh, x6⟩], .val false [⟨(.int .i64), .sh, i7⟩], .val false [⟨(.int .i64), .sh, i8⟩]] ++ deads 14, []⟩
theorem slices_EqualFunc_Limpl_Matrix_Limpl_Matrix_impl_Matrix_impl_Matrix.l4_eq (k : Nat) (x4 : List (Int × Int × Int × List Int)) (f5 : ((Int × Int × Int × List Int) × (Int × Int × Int × List Int) × Unit) → Option (Bool × Unit)) (x6 : List (Int × Int × Int × List Int)) (i7 : Int) (i8 : Int) : slices_EqualFunc_Limpl_Matrix_Limpl_Matrix_impl_Matrix_impl_Matrix.l4 (k + 1) x4 f5 x6 i7 i8 =
  if (decide (i8 < i7)) = true then
    if 0 ≤ i8 ∧ i8 < (x6.length : Int) then
      if 0 ≤ i8 ∧ i8 < (x4.length : Int) then
        (f5 (x6.getD i8.toNat (0, 0, 0, ([] : List Int)), x4.getD i8.toNat (0, 0, 0, ([] : List Int)), ())).bind fun r9 =>
          if (!(r9.1 : Bool)) = true then
            some ((false, ()), ())
          else
            slices_EqualFunc_Limpl_Matrix_Limpl_Matrix_impl_Matrix_impl_Matrix.l4 k x4 f5 x6 i7 (IntKind.i64.wrap (i8 + (1 : Int)))
      else
        none
    else
      none
  else
    some ((true, ()), ()) := by kernel_rfl
noncomputable def slices_EqualFunc_Limpl_Matrix_Limpl_Matrix_impl_Matrix_impl_Matrix.T (k : Nat) (s1_1 : List (Int × Int × Int × List Int)) (s2_2 : List (Int × Int × Int × List Int)) (f_3 : ((Int × Int × Int × List Int) × (Int × Int × Int × List Int) × Unit) → Option (Bool × Unit)) : Option ((Bool × Unit) × (Unit)) :=
  if ((s1_1.length : Int) != (s2_2.length : Int)) = true then
    some ((false, ()), ())
  else
    slices_EqualFunc_Limpl_Matrix_Limpl_Matrix_impl_Matrix_impl_Matrix.l4 k s2_2 f_3 s1_1 (s1_1.length : Int) (0 : Int)
theorem slices_EqualFunc_Limpl_Matrix_Limpl_Matrix_impl_Matrix_impl_Matrix.run (k : Nat) (s1_1 : List (Int × Int × Int × List Int)) (s2_2 : List (Int × Int × Int × List Int)) (f_3 : ((Int × Int × Int × List Int) × (Int × Int × Int × List Int) × Unit) → Option (Bool × Unit)) : runFn slices_EqualFunc_Limpl_Matrix_Limpl_Matrix_impl_Matrix_impl_Matrix.cfg slices_EqualFunc_Limpl_Matrix_Limpl_Matrix_impl_Matrix_impl_Matrix.fin slices_EqualFunc_Limpl_Matrix_Limpl_Matrix_impl_Matrix_impl_Matrix.code (initSt slices_EqualFunc_Limpl_Matrix_Limpl_Matrix_impl_Matrix_impl_Matrix.sig.ps (s1_1, s2_2, f_3, ()) 32) k = slices_EqualFunc_Limpl_Matrix_Limpl_Matrix_impl_Matrix_impl_Matrix.T k s1_1 s2_2 f_3 := by kernel_rfl
theorem slices_EqualFunc_Limpl_Matrix_Limpl_Matrix_impl_Matrix_impl_Matrix.of (s1_1 : List (Int × Int × Int × List Int)) (s2_2 : List (Int × Int × Int × List Int)) (f_3 : ((Int × Int × Int × List Int) × (Int × Int × Int × List Int) × Unit) → Option (Bool × Unit)) {r : (Bool × Unit) × (Unit)} (h : Ev (fun k => slices_EqualFunc_Limpl_Matrix_Limpl_Matrix_impl_Matrix_impl_Matrix.T k s1_1 s2_2 f_3) r) : slices_EqualFunc_Limpl_Matrix_Limpl_Matrix_impl_Matrix_impl_Matrix.F (s1_1, s2_2, f_3, ()) = some r := Ev.run (fun k => slices_EqualFunc_Limpl_Matrix_Limpl_Matrix_impl_Matrix_impl_Matrix.run k s1_1 s2_2 f_3) h
theorem slices_EqualFunc_Limpl_Matrix_Limpl_Matrix_impl_Matrix_impl_Matrix.ok : CtxOK Go.Proofs.Try.prog slices_EqualFunc_Limpl_Matrix_Limpl_Matrix_impl_Matrix_impl_Matrix.ctx := ⟨List.forall_mem_nil _, mixed_ok, tab_ok tab_good, List.forall_mem_nil _, List.forall_mem_nil _⟩
theorem slices_EqualFunc_Limpl_Matrix_Limpl_Matrix_impl_Matrix_impl_Matrix.S : Sound Go.Proofs.Try.prog ⟨106, slices_EqualFunc_Limpl_Matrix_Limpl_Matrix_impl_Matrix_impl_Matrix.sig, slices_EqualFunc_Limpl_Matrix_Limpl_Matrix_impl_Matrix_impl_Matrix.F⟩ := sound_any (fn := Go.Proofs.Try.f106) (code := slices_EqualFunc_Limpl_Matrix_Limpl_Matrix_impl_Matrix_impl_Matrix.code) (g := slices_EqualFunc_Limpl_Matrix_Limpl_Matrix_impl_Matrix_impl_Matrix.cfg) (res := [.tmp 6]) Go.Proofs.Try.func106 (by kernel_rfl) (by kernel_rfl) slices_EqualFunc_Limpl_Matrix_Limpl_Matrix_impl_Matrix_impl_Matrix.ok (by kernel_rfl) (by kernel_rfl) (Nat.le_of_ble_eq_true (by kernel_rfl)) (by kernel_rfl)
/-! ### impl_SameMatrix -/
noncomputable def impl_SameMatrix.sig : Sig := ⟨[.val true TMatrix, .val true TMatrix], [(.val false, .bool, .deep)]⟩
noncomputable def impl_SameMatrix.ctx : Ctx := ⟨tabOf tabl, [⟨105, slices_Equal_Lint64_int64.sig, slices_Equal_Lint64_int64.F⟩], [], []⟩
noncomputable def impl_SameMatrix.cfg : Cfg := ⟨impl_SameMatrix.ctx, [], [], fun _ => ([], [])⟩
noncomputable def impl_SameMatrix.code : Code := (Go.Proofs.Try.f107).body.getD .skip
noncomputable def impl_SameMatrix.fin := finK impl_SameMatrix.ctx impl_SameMatrix.sig [.tmp 4]
noncomputable def impl_SameMatrix.F (d : (Int × Int × Int × List Int) × (Int × Int × Int × List Int) × Unit) : Option ((Bool × Unit) × (Unit)) := anyK (runFn impl_SameMatrix.cfg impl_SameMatrix.fin impl_SameMatrix.code (initSt impl_SameMatrix.sig.ps d 31))
noncomputable def impl_SameMatrix.T (a_1 : Int) (a_2 : Int) (a_3 : Int) (a_4 : List Int) (b_5 : Int) (b_6 : Int) (b_7 : Int) (b_8 : List Int) : Option ((Bool × Unit) × (Unit)) :=
  if (a_1 == b_5) = true then
    if (a_2 == b_6) = true then
      if (a_3 == b_7) = true then
        (slices_Equal_Lint64_int64.F (a_4, b_8, ())).bind fun r9 =>
          some (((r9.1.1 : Bool), ()), ())
      else
        some ((false, ()), ())
    else
      some ((false, ()), ())
  else
    some ((false, ()), ())
theorem impl_SameMatrix.run (k : Nat) (a_1 : Int) (a_2 : Int) (a_3 : Int) (a_4 : List Int) (b_5 : Int) (b_6 : Int) (b_7 : Int) (b_8 : List Int) : runFn impl_SameMatrix.cfg impl_SameMatrix.fin impl_SameMatrix.code (initSt impl_SameMatrix.sig.ps ((a_1, (a_2, (a_3, a_4))), (b_5, (b_6, (b_7, b_8))), ()) 31) k = impl_SameMatrix.T a_1 a_2 a_3 a_4 b_5 b_6 b_7 b_8 := by kernel_rfl
theorem impl_SameMatrix.eq (a_1 : Int) (a_2 : Int) (a_3 : Int) (a_4 : List Int) (b_5 : Int) (b_6 : Int) (b_7 : Int) (b_8 : List Int) : impl_SameMatrix.F ((a_1, (a_2, (a_3, a_4))), (b_5, (b_6, (b_7, b_8))), ()) = impl_SameMatrix.T a_1 a_2 a_3 a_4 b_5 b_6 b_7 b_8 := (congrArg anyK (funext fun k => impl_SameMatrix.run k a_1 a_2 a_3 a_4 b_5 b_6 b_7 b_8)).trans (anyK_const _)
theorem impl_SameMatrix.ok : CtxOK Go.Proofs.Try.prog impl_SameMatrix.ctx := ⟨List.forall_mem_nil _, mixed_ok, tab_ok tab_good, List.forall_mem_cons.2 ⟨slices_Equal_Lint64_int64.S, List.forall_mem_nil _⟩, List.forall_mem_nil _⟩
theorem impl_SameMatrix.S : Sound Go.Proofs.Try.prog ⟨107, impl_SameMatrix.sig, impl_SameMatrix.F⟩ := sound_any (fn := Go.Proofs.Try.f107) (code := impl_SameMatrix.code) (g := impl_SameMatrix.cfg) (res := [.tmp 4]) Go.Proofs.Try.func107 (by kernel_rfl) (by kernel_rfl) impl_SameMatrix.ok (by kernel_rfl) (by kernel_rfl) (Nat.le_of_ble_eq_true (by kernel_rfl)) (by kernel_rfl)
noncomputable def impl_SameMatrix.cloG (y : Unit) (d : (Int × Int × Int × List Int) × (Int × Int × Int × List Int) × Unit) : Option (Bool × Unit) := (impl_SameMatrix.F (joinIns [] [(true, TMatrix), (true, TMatrix)] d y)).map (·.1)
noncomputable def impl_SameMatrix.clo : Clo := ⟨107, ⟨[(true, TMatrix), (true, TMatrix)], [(.val false, .bool, .deep)]⟩, [], impl_SameMatrix.cloG⟩
theorem impl_SameMatrix.cloS : SoundClo Go.Proofs.Try.prog impl_SameMatrix.clo := sound_clo (s := ⟨[(true, TMatrix), (true, TMatrix)], [(.val false, .bool, .deep)]⟩) (caps := []) rfl impl_SameMatrix.S
/-! ### impl_SameSheaf -/
noncomputable def impl_SameSheaf.sig : Sig := ⟨[.val true TSheaf, .val true TSheaf], [(.val false, .bool, .deep)]⟩
noncomputable def impl_SameSheaf.ctx : Ctx := ⟨tabOf tabl, [⟨80, impl_SameComplex.sig, impl_SameComplex.F⟩, ⟨105, slices_Equal_Lint64_int64.sig, slices_Equal_Lint64_int64.F⟩, ⟨106, slices_EqualFunc_Limpl_Matrix_Limpl_Matrix_impl_Matrix_impl_Matrix.sig, slices_EqualFunc_Limpl_Matrix_Limpl_Matrix_impl_Matrix_impl_Matrix.F⟩], [impl_SameMatrix.clo], []⟩
noncomputable def impl_SameSheaf.cfg : Cfg := ⟨impl_SameSheaf.ctx, [], [], fun _ => ([], [])⟩
noncomputable def impl_SameSheaf.code : Code := (Go.Proofs.Try.f59).body.getD .skip
noncomputable def impl_SameSheaf.fin := finK impl_SameSheaf.ctx impl_SameSheaf.sig [.tmp 4]
noncomputable def impl_SameSheaf.F (d : (List (List Int) × Int × List Int × List (Int × Int × Int × List Int)) × (List (List Int) × Int × List Int × List (Int × Int × Int × List Int)) × Unit) : Option ((Bool × Unit) × (Unit)) := anyK (runFn impl_SameSheaf.cfg impl_SameSheaf.fin impl_SameSheaf.code (initSt impl_SameSheaf.sig.ps d 31))
noncomputable def impl_SameSheaf.T (a_1 : List (List Int)) (a_2 : Int) (a_3 : List Int) (a_4 : List (Int × Int × Int × List Int)) (b_5 : List (List Int)) (b_6 : Int) (b_7 : List Int) (b_8 : List (Int × Int × Int × List Int)) : Option ((Bool × Unit) × (Unit)) :=
  (impl_SameComplex.F (a_1, b_5, ())).bind fun r9 =>
    if (r9.1.1 : Bool) = true then
      if (a_2 == b_6) = true then
        (slices_Equal_Lint64_int64.F (a_3, b_7, ())).bind fun r10 =>
          if (r10.1.1 : Bool) = true then
            (slices_EqualFunc_Limpl_Matrix_Limpl_Matrix_impl_Matrix_impl_Matrix.F (a_4, b_8, impl_SameMatrix.cloG (()), ())).bind fun r11 =>
              some (((r11.1.1 : Bool), ()), ())
          else
            some ((false, ()), ())
      else
        some ((false, ()), ())
    else
      some ((false, ()), ())
theorem impl_SameSheaf.run (k : Nat) (a_1 : List (List Int)) (a_2 : Int) (a_3 : List Int) (a_4 : List (Int × Int × Int × List Int)) (b_5 : List (List Int)) (b_6 : Int) (b_7 : List Int) (b_8 : List (Int × Int × Int × List Int)) : runFn impl_SameSheaf.cfg impl_SameSheaf.fin impl_SameSheaf.code (initSt impl_SameSheaf.sig.ps ((a_1, (a_2, (a_3, a_4))), (b_5, (b_6, (b_7, b_8))), ()) 31) k = impl_SameSheaf.T a_1 a_2 a_3 a_4 b_5 b_6 b_7 b_8 := by kernel_rfl
theorem impl_SameSheaf.eq (a_1 : List (List Int)) (a_2 : Int) (a_3 : List Int) (a_4 : List (Int × Int × Int × List Int)) (b_5 : List (List Int)) (b_6 : Int) (b_7 : List Int) (b_8 : List (Int × Int × Int × List Int)) : impl_SameSheaf.F ((a_1, (a_2, (a_3, a_4))), (b_5, (b_6, (b_7, b_8))), ()) = impl_SameSheaf.T a_1 a_2 a_3 a_4 b_5 b_6 b_7 b_8 := (congrArg anyK (funext fun k => impl_SameSheaf.run k a_1 a_2 a_3 a_4 b_5 b_6 b_7 b_8)).trans (anyK_const _)
theorem impl_SameSheaf.ok : CtxOK Go.Proofs.Try.prog impl_SameSheaf.ctx := ⟨List.forall_mem_nil _, mixed_ok, tab_ok tab_good, List.forall_mem_cons.2 ⟨impl_SameComplex.S, List.forall_mem_cons.2 ⟨slices_Equal_Lint64_int64.S, List.forall_mem_cons.2 ⟨slices_EqualFunc_Limpl_Matrix_Limpl_Matrix_impl_Matrix_impl_Matrix.S, List.forall_mem_nil _⟩⟩⟩, List.forall_mem_cons.2 ⟨impl_SameMatrix.cloS, List.forall_mem_nil _⟩⟩
theorem impl_SameSheaf.S : Sound Go.Proofs.Try.prog ⟨59, impl_SameSheaf.sig, impl_SameSheaf.F⟩ := sound_any (fn := Go.Proofs.Try.f59) (code := impl_SameSheaf.code) (g := impl_SameSheaf.cfg) (res := [.tmp 4]) Go.Proofs.Try.func59 (by kernel_rfl) (by kernel_rfl) impl_SameSheaf.ok (by kernel_rfl) (by kernel_rfl) (Nat.le_of_ble_eq_true (by kernel_rfl)) (by kernel_rfl)
/-! ### impl_SameCosheaf -/
noncomputable def impl_SameCosheaf.sig : Sig := ⟨[.val true TSheaf, .val true TSheaf], [(.val false, .bool, .deep)]⟩
noncomputable def impl_SameCosheaf.ctx : Ctx := ⟨tabOf tabl, [⟨59, impl_SameSheaf.sig, impl_SameSheaf.F⟩], [], []⟩
noncomputable def impl_SameCosheaf.cfg : Cfg := ⟨impl_SameCosheaf.ctx, [], [], fun _ => ([], [])⟩
noncomputable def impl_SameCosheaf.code : Code := (Go.Proofs.Try.f22).body.getD .skip
noncomputable def impl_SameCosheaf.fin := finK impl_SameCosheaf.ctx impl_SameCosheaf.sig [.tmp 4]
noncomputable def impl_SameCosheaf.F (d : (List (List Int) × Int × List Int × List (Int × Int × Int × List Int)) × (List (List Int) × Int × List Int × List (Int × Int × Int × List Int)) × Unit) : Option ((Bool × Unit) × (Unit)) := anyK (runFn impl_SameCosheaf.cfg impl_SameCosheaf.fin impl_SameCosheaf.code (initSt impl_SameCosheaf.sig.ps d 8))
noncomputable def impl_SameCosheaf.T (a_1 : List (List Int)) (a_2 : Int) (a_3 : List Int) (a_4 : List (Int × Int × Int × List Int)) (b_5 : List (List Int)) (b_6 : Int) (b_7 : List Int) (b_8 : List (Int × Int × Int × List Int)) : Option ((Bool × Unit) × (Unit)) :=
  (impl_SameSheaf.F ((a_1, (a_2, (a_3, a_4))), (b_5, (b_6, (b_7, b_8))), ())).bind fun r9 =>
    some (((r9.1.1 : Bool), ()), ())
theorem impl_SameCosheaf.run (k : Nat) (a_1 : List (List Int)) (a_2 : Int) (a_3 : List Int) (a_4 : List (Int × Int × Int × List Int)) (b_5 : List (List Int)) (b_6 : Int) (b_7 : List Int) (b_8 : List (Int × Int × Int × List Int)) : runFn impl_SameCosheaf.cfg impl_SameCosheaf.fin impl_SameCosheaf.code (initSt impl_SameCosheaf.sig.ps ((a_1, (a_2, (a_3, a_4))), (b_5, (b_6, (b_7, b_8))), ()) 8) k = impl_SameCosheaf.T a_1 a_2 a_3 a_4 b_5 b_6 b_7 b_8 := by kernel_rfl
theorem impl_SameCosheaf.eq (a_1 : List (List Int)) (a_2 : Int) (a_3 : List Int) (a_4 : List (Int × Int × Int × List Int)) (b_5 : List (List Int)) (b_6 : Int) (b_7 : List Int) (b_8 : List (Int × Int × Int × List Int)) : impl_SameCosheaf.F ((a_1, (a_2, (a_3, a_4))), (b_5, (b_6, (b_7, b_8))), ()) = impl_SameCosheaf.T a_1 a_2 a_3 a_4 b_5 b_6 b_7 b_8 := (congrArg anyK (funext fun k => impl_SameCosheaf.run k a_1 a_2 a_3 a_4 b_5 b_6 b_7 b_8)).trans (anyK_const _)
theorem impl_SameCosheaf.ok : CtxOK Go.Proofs.Try.prog impl_SameCosheaf.ctx := ⟨List.forall_mem_nil _, mixed_ok, tab_ok tab_good, List.forall_mem_cons.2 ⟨impl_SameSheaf.S, List.forall_mem_nil _⟩, List.forall_mem_nil _⟩
theorem impl_SameCosheaf.S : Sound Go.Proofs.Try.prog ⟨22, impl_SameCosheaf.sig, impl_SameCosheaf.F⟩ := sound_any (fn := Go.Proofs.Try.f22) (code := impl_SameCosheaf.code) (g := impl_SameCosheaf.cfg) (res := [.tmp 4]) Go.Proofs.Try.func22 (by kernel_rfl) (by kernel_rfl) impl_SameCosheaf.ok (by kernel_rfl) (by kernel_rfl) (Nat.le_of_ble_eq_true (by kernel_rfl)) (by kernel_rfl)
/-! ### laws_eqInt64S -/
noncomputable def laws_eqInt64S.sig : Sig := ⟨[.val false (.sl (.int .i64)), .val false (.sl (.int .i64))], [(.val false, .bool, .deep)]⟩
noncomputable def laws_eqInt64S.ctx : Ctx := ⟨tabOf tabl, [], [], []⟩
noncomputable def laws_eqInt64S.cfg : Cfg := ⟨laws_eqInt64S.ctx, [], [], fun id => match id with | 4 => ([0, 1, 5], []) | _ => ([], [])⟩
noncomputable def laws_eqInt64S.code : Code := (Go.Proofs.Try.f18).body.getD .skip
noncomputable def laws_eqInt64S.fin := finK laws_eqInt64S.ctx laws_eqInt64S.sig [.tmp 4]
noncomputable def laws_eqInt64S.F (d : List Int × List Int × Unit) : Option ((Bool × Unit) × (Unit)) := anyK (runFn laws_eqInt64S.cfg laws_eqInt64S.fin laws_eqInt64S.code (initSt laws_eqInt64S.sig.ps d 26))
noncomputable def laws_eqInt64S.l4 (k : Nat) (x3 : List Int) (x4 : List Int) (i5 : Int) : Option ((Bool × Unit) × (Unit)) :=
  Go.Vm.runT laws_eqInt64S.cfg laws_eqInt64S.fin k [.inLoop (sub [1, 1, 0, 1, 0, 0] laws_eqInt64S.code), .inBlock 0, .code (sub [1, 1, 1] laws_eqInt64S.code)]
    ⟨[.val false [⟨(.sl (.int .i64)), .sh, x3⟩], .val false [⟨(.sl (.int .i64)), .sh, x4⟩], .dead, .dead, .dead, .val false [⟨(.int .i64), .sh, i5⟩]] ++ deads 20, []⟩
theorem laws_eqInt64S.l4_eq (k : Nat) (x3 : List Int) (x4 : List Int) (i5 : Int) : laws_eqInt64S.l4 (k + 1) x3 x4 i5 =
  if (decide (i5 < (x3.length : Int))) = true then
    if 0 ≤ i5 ∧ i5 < (x3.length : Int) then
      if 0 ≤ i5 ∧ i5 < (x4.length : Int) then
        if ((x3.getD i5.toNat 0 : Int) != (x4.getD i5.toNat 0 : Int)) = true then
          some ((false, ()), ())
        else
          laws_eqInt64S.l4 k x3 x4 (IntKind.i64.wrap (i5 + (1 : Int)))
      else
        none
    else
      none
  else
    some ((true, ()), ()) := by kernel_rfl
noncomputable def laws_eqInt64S.T (k : Nat) (a_1 : List Int) (b_2 : List Int) : Option ((Bool × Unit) × (Unit)) :=
  if ((a_1.length : Int) != (b_2.length : Int)) = true then
    some ((false, ()), ())
  else
    laws_eqInt64S.l4 k a_1 b_2 (0 : Int)
theorem laws_eqInt64S.run (k : Nat) (a_1 : List Int) (b_2 : List Int) : runFn laws_eqInt64S.cfg laws_eqInt64S.fin laws_eqInt64S.code (initSt laws_eqInt64S.sig.ps (a_1, b_2, ()) 26) k = laws_eqInt64S.T k a_1 b_2 := by kernel_rfl
theorem laws_eqInt64S.of (a_1 : List Int) (b_2 : List Int) {r : (Bool × Unit) × (Unit)} (h : Ev (fun k => laws_eqInt64S.T k a_1 b_2) r) : laws_eqInt64S.F (a_1, b_2, ()) = some r := Ev.run (fun k => laws_eqInt64S.run k a_1 b_2) h
theorem laws_eqInt64S.ok : CtxOK Go.Proofs.Try.prog laws_eqInt64S.ctx := ⟨List.forall_mem_nil _, mixed_ok, tab_ok tab_good, List.forall_mem_nil _, List.forall_mem_nil _⟩
theorem laws_eqInt64S.S : Sound Go.Proofs.Try.prog ⟨18, laws_eqInt64S.sig, laws_eqInt64S.F⟩ := sound_any (fn := Go.Proofs.Try.f18) (code := laws_eqInt64S.code) (g := laws_eqInt64S.cfg) (res := [.tmp 4]) Go.Proofs.Try.func18 (by kernel_rfl) (by kernel_rfl) laws_eqInt64S.ok (by kernel_rfl) (by kernel_rfl) (Nat.le_of_ble_eq_true (by kernel_rfl)) (by kernel_rfl)
/-! ### laws_eqInt64SS -/
noncomputable def laws_eqInt64SS.sig : Sig := ⟨[.val false (.sl (.sl (.int .i64))), .val false (.sl (.sl (.int .i64)))], [(.val false, .bool, .deep)]⟩
noncomputable def laws_eqInt64SS.ctx : Ctx := ⟨tabOf tabl, [⟨18, laws_eqInt64S.sig, laws_eqInt64S.F⟩], [], []⟩
noncomputable def laws_eqInt64SS.cfg : Cfg := ⟨laws_eqInt64SS.ctx, [], [], fun id => match id with | 4 => ([0, 1, 5], []) | _ => ([], [])⟩
noncomputable def laws_eqInt64SS.code : Code := (Go.Proofs.Try.f72).body.getD .skip
noncomputable def laws_eqInt64SS.fin := finK laws_eqInt64SS.ctx laws_eqInt64SS.sig [.tmp 4]
noncomputable def laws_eqInt64SS.F (d : List (List Int) × List (List Int) × Unit) : Option ((Bool × Unit) × (Unit)) := anyK (runFn laws_eqInt64SS.cfg laws_eqInt64SS.fin laws_eqInt64SS.code (initSt laws_eqInt64SS.sig.ps d 27))
noncomputable def laws_eqInt64SS.l4 (k : Nat) (x3 : List (List Int)) (x4 : List (List Int)) (i5 : Int) : Option ((Bool × Unit) × (Unit)) :=
  Go.Vm.runT laws_eqInt64SS.cfg laws_eqInt64SS.fin k [.inLoop (sub [1, 1, 0, 1, 0, 0] laws_eqInt64SS.code), .inBlock 0, .code (sub [1, 1, 1] laws_eqInt64SS.code)]
    ⟨[.val false [⟨(.sl (.sl (.int .i64))), .sh, x3⟩], .val false [⟨(.sl (.sl (.int .i64))), .sh, x4⟩], .dead, .dead, .dead, .val false [⟨(.int .i64), .sh, i5⟩]] ++ deads 21, []⟩
theorem laws_eqInt64SS.l4_eq (k : Nat) (x3 : List (List Int)) (x4 : List (List Int)) (i5 : Int) : laws_eqInt64SS.l4 (k + 1) x3 x4 i5 =
  if (decide (i5 < (x3.length : Int))) = true then
    if 0 ≤ i5 ∧ i5 < (x3.length : Int) then
      if 0 ≤ i5 ∧ i5 < (x4.length : Int) then
        (laws_eqInt64S.F (x3.getD i5.toNat ([] : List Int), x4.getD i5.toNat ([] : List Int), ())).bind fun r6 =>
          if (!(r6.1.1 : Bool)) = true then
            some ((false, ()), ())
          else
            laws_eqInt64SS.l4 k x3 x4 (IntKind.i64.wrap (i5 + (1 : Int)))
      else
        none
    else
      none
  else
    some ((true, ()), ()) := by kernel_rfl
noncomputable def laws_eqInt64SS.T (k : Nat) (a_1 : List (List Int)) (b_2 : List (List Int)) : Option ((Bool × Unit) × (Unit)) :=
  if ((a_1.length : Int) != (b_2.length : Int)) = true then
    some ((false, ()), ())
  else
    laws_eqInt64SS.l4 k a_1 b_2 (0 : Int)
theorem laws_eqInt64SS.run (k : Nat) (a_1 : List (List Int)) (b_2 : List (List Int)) : runFn laws_eqInt64SS.cfg laws_eqInt64SS.fin laws_eqInt64SS.code (initSt laws_eqInt64SS.sig.ps (a_1, b_2, ()) 27) k = laws_eqInt64SS.T k a_1 b_2 := by kernel_rfl
theorem laws_eqInt64SS.of (a_1 : List (List Int)) (b_2 : List (List Int)) {r : (Bool × Unit) × (Unit)} (h : Ev (fun k => laws_eqInt64SS.T k a_1 b_2) r) : laws_eqInt64SS.F (a_1, b_2, ()) = some r := Ev.run (fun k => laws_eqInt64SS.run k a_1 b_2) h
theorem laws_eqInt64SS.ok : CtxOK Go.Proofs.Try.prog laws_eqInt64SS.ctx := ⟨List.forall_mem_nil _, mixed_ok, tab_ok tab_good, List.forall_mem_cons.2 ⟨laws_eqInt64S.S, List.forall_mem_nil _⟩, List.forall_mem_nil _⟩
theorem laws_eqInt64SS.S : Sound Go.Proofs.Try.prog ⟨72, laws_eqInt64SS.sig, laws_eqInt64SS.F⟩ := sound_any (fn := Go.Proofs.Try.f72) (code := laws_eqInt64SS.code) (g := laws_eqInt64SS.cfg) (res := [.tmp 4]) Go.Proofs.Try.func72 (by kernel_rfl) (by kernel_rfl) laws_eqInt64SS.ok (by kernel_rfl) (by kernel_rfl) (Nat.le_of_ble_eq_true (by kernel_rfl)) (by kernel_rfl)
/-! ### laws_eqComplex -/
noncomputable def laws_eqComplex.sig : Sig := ⟨[.val true (.sl (.sl (.int .i64))), .val true (.sl (.sl (.int .i64)))], [(.val false, .bool, .deep)]⟩
noncomputable def laws_eqComplex.ctx : Ctx := ⟨tabOf tabl, [⟨72, laws_eqInt64SS.sig, laws_eqInt64SS.F⟩], [], []⟩
noncomputable def laws_eqComplex.cfg : Cfg := ⟨laws_eqComplex.ctx, [], [], fun _ => ([], [])⟩
noncomputable def laws_eqComplex.code : Code := (Go.Proofs.Try.f33).body.getD .skip
noncomputable def laws_eqComplex.fin := finK laws_eqComplex.ctx laws_eqComplex.sig [.tmp 4]
noncomputable def laws_eqComplex.F (d : List (List Int) × List (List Int) × Unit) : Option ((Bool × Unit) × (Unit)) := anyK (runFn laws_eqComplex.cfg laws_eqComplex.fin laws_eqComplex.code (initSt laws_eqComplex.sig.ps d 11))
noncomputable def laws_eqComplex.T (a_1 : List (List Int)) (b_2 : List (List Int)) : Option ((Bool × Unit) × (Unit)) :=
  (laws_eqInt64SS.F (a_1, b_2, ())).bind fun r3 =>
    if (!(r3.1.1 : Bool)) = true then
      some ((false, ()), ())
    else
      some ((true, ()), ())
theorem laws_eqComplex.run (k : Nat) (a_1 : List (List Int)) (b_2 : List (List Int)) : runFn laws_eqComplex.cfg laws_eqComplex.fin laws_eqComplex.code (initSt laws_eqComplex.sig.ps (a_1, b_2, ()) 11) k = laws_eqComplex.T a_1 b_2 := by kernel_rfl
theorem laws_eqComplex.eq (a_1 : List (List Int)) (b_2 : List (List Int)) : laws_eqComplex.F (a_1, b_2, ()) = laws_eqComplex.T a_1 b_2 := (congrArg anyK (funext fun k => laws_eqComplex.run k a_1 b_2)).trans (anyK_const _)
theorem laws_eqComplex.ok : CtxOK Go.Proofs.Try.prog laws_eqComplex.ctx := ⟨List.forall_mem_nil _, mixed_ok, tab_ok tab_good, List.forall_mem_cons.2 ⟨laws_eqInt64SS.S, List.forall_mem_nil _⟩, List.forall_mem_nil _⟩
theorem laws_eqComplex.S : Sound Go.Proofs.Try.prog ⟨33, laws_eqComplex.sig, laws_eqComplex.F⟩ := sound_any (fn := Go.Proofs.Try.f33) (code := laws_eqComplex.code) (g := laws_eqComplex.cfg) (res := [.tmp 4]) Go.Proofs.Try.func33 (by kernel_rfl) (by kernel_rfl) laws_eqComplex.ok (by kernel_rfl) (by kernel_rfl) (Nat.le_of_ble_eq_true (by kernel_rfl)) (by kernel_rfl)
/-! ### laws_eqMatrix -/
noncomputable def laws_eqMatrix.sig : Sig := ⟨[.val true TMatrix, .val true TMatrix], [(.val false, .bool, .deep)]⟩
noncomputable def laws_eqMatrix.ctx : Ctx := ⟨tabOf tabl, [⟨18, laws_eqInt64S.sig, laws_eqInt64S.F⟩], [], []⟩
noncomputable def laws_eqMatrix.cfg : Cfg := ⟨laws_eqMatrix.ctx, [], [], fun _ => ([], [])⟩
noncomputable def laws_eqMatrix.code : Code := (Go.Proofs.Try.f108).body.getD .skip
noncomputable def laws_eqMatrix.fin := finK laws_eqMatrix.ctx laws_eqMatrix.sig [.tmp 4]
noncomputable def laws_eqMatrix.F (d : (Int × Int × Int × List Int) × (Int × Int × Int × List Int) × Unit) : Option ((Bool × Unit) × (Unit)) := anyK (runFn laws_eqMatrix.cfg laws_eqMatrix.fin laws_eqMatrix.code (initSt laws_eqMatrix.sig.ps d 26))
noncomputable def laws_eqMatrix.T (a_1 : Int) (a_2 : Int) (a_3 : Int) (a_4 : List Int) (b_5 : Int) (b_6 : Int) (b_7 : Int) (b_8 : List Int) : Option ((Bool × Unit) × (Unit)) :=
  if (a_1 != b_5) = true then
    some ((false, ()), ())
  else
    if (a_2 != b_6) = true then
      some ((false, ()), ())
    else
      if (a_3 != b_7) = true then
        some ((false, ()), ())
      else
        (laws_eqInt64S.F (a_4, b_8, ())).bind fun r9 =>
          if (!(r9.1.1 : Bool)) = true then
            some ((false, ()), ())
          else
            some ((true, ()), ())
theorem laws_eqMatrix.run (k : Nat) (a_1 : Int) (a_2 : Int) (a_3 : Int) (a_4 : List Int) (b_5 : Int) (b_6 : Int) (b_7 : Int) (b_8 : List Int) : runFn laws_eqMatrix.cfg laws_eqMatrix.fin laws_eqMatrix.code (initSt laws_eqMatrix.sig.ps ((a_1, (a_2, (a_3, a_4))), (b_5, (b_6, (b_7, b_8))), ()) 26) k = laws_eqMatrix.T a_1 a_2 a_3 a_4 b_5 b_6 b_7 b_8 := by kernel_rfl
theorem laws_eqMatrix.eq (a_1 : Int) (a_2 : Int) (a_3 : Int) (a_4 : List Int) (b_5 : Int) (b_6 : Int) (b_7 : Int) (b_8 : List Int) : laws_eqMatrix.F ((a_1, (a_2, (a_3, a_4))), (b_5, (b_6, (b_7, b_8))), ()) = laws_eqMatrix.T a_1 a_2 a_3 a_4 b_5 b_6 b_7 b_8 := (congrArg anyK (funext fun k => laws_eqMatrix.run k a_1 a_2 a_3 a_4 b_5 b_6 b_7 b_8)).trans (anyK_const _)
theorem laws_eqMatrix.ok : CtxOK Go.Proofs.Try.prog laws_eqMatrix.ctx := ⟨List.forall_mem_nil _, mixed_ok, tab_ok tab_good, List.forall_mem_cons.2 ⟨laws_eqInt64S.S, List.forall_mem_nil _⟩, List.forall_mem_nil _⟩
theorem laws_eqMatrix.S : Sound Go.Proofs.Try.prog ⟨108, laws_eqMatrix.sig, laws_eqMatrix.F⟩ := sound_any (fn := Go.Proofs.Try.f108) (code := laws_eqMatrix.code) (g := laws_eqMatrix.cfg) (res := [.tmp 4]) Go.Proofs.Try.func108 (by kernel_rfl) (by kernel_rfl) laws_eqMatrix.ok (by kernel_rfl) (by kernel_rfl) (Nat.le_of_ble_eq_true (by kernel_rfl)) (by kernel_rfl)
/-! ### laws_eqMatrixS -/
noncomputable def laws_eqMatrixS.sig : Sig := ⟨[.val false (.sl TMatrix), .val false (.sl TMatrix)], [(.val false, .bool, .deep)]⟩
noncomputable def laws_eqMatrixS.ctx : Ctx := ⟨tabOf tabl, [⟨108, laws_eqMatrix.sig, laws_eqMatrix.F⟩], [], []⟩
noncomputable def laws_eqMatrixS.cfg : Cfg := ⟨laws_eqMatrixS.ctx, [], [], fun id => match id with | 4 => ([0, 1, 5], []) | _ => ([], [])⟩
noncomputable def laws_eqMatrixS.code : Code := (Go.Proofs.Try.f60).body.getD .skip
noncomputable def laws_eqMatrixS.fin := finK laws_eqMatrixS.ctx laws_eqMatrixS.sig [.tmp 4]
noncomputable def laws_eqMatrixS.F (d : List (Int × Int × Int × List Int) × List (Int × Int × Int × List Int) × Unit) : Option ((Bool × Unit) × (Unit)) := anyK (runFn laws_eqMatrixS.cfg laws_eqMatrixS.fin laws_eqMatrixS.code (initSt laws_eqMatrixS.sig.ps d 27))
noncomputable def laws_eqMatrixS.l4 (k : Nat) (x3 : List (Int × Int × Int × List Int)) (x4 : List (Int × Int × Int × List Int)) (i5 : Int) : Option ((Bool × Unit) × (Unit)) :=
  Go.Vm.runT laws_eqMatrixS.cfg laws_eqMatrixS.fin k [.inLoop (sub [1, 1, 0, 1, 0, 0] laws_eqMatrixS.code), .inBlock 0, .code (sub [1, 1, 1] laws_eqMatrixS.code)]
    ⟨[.val false [⟨(.sl TMatrix), .sh, x3⟩], .val false [⟨(.sl TMatrix), .sh, x4⟩], .dead, .dead, .dead, .val false [⟨(.int .i64), .sh, i5⟩]] ++ deads 21, []⟩
theorem laws_eqMatrixS.l4_eq (k : Nat) (x3 : List (Int × Int × Int × List Int)) (x4 : List (Int × Int × Int × List Int)) (i5 : Int) : laws_eqMatrixS.l4 (k + 1) x3 x4 i5 =
  if (decide (i5 < (x3.length : Int))) = true then
    if 0 ≤ i5 ∧ i5 < (x3.length : Int) then
      if 0 ≤ i5 ∧ i5 < (x4.length : Int) then
        (laws_eqMatrix.F (x3.getD i5.toNat (0, 0, 0, ([] : List Int)), x4.getD i5.toNat (0, 0, 0, ([] : List Int)), ())).bind fun r6 =>
          if (!(r6.1.1 : Bool)) = true then
            some ((false, ()), ())
          else
            laws_eqMatrixS.l4 k x3 x4 (IntKind.i64.wrap (i5 + (1 : Int)))
      else
        none
    else
      none
  else
    some ((true, ()), ()) := by kernel_rfl
noncomputable def laws_eqMatrixS.T (k : Nat) (a_1 : List (Int × Int × Int × List Int)) (b_2 : List (Int × Int × Int × List Int)) : Option ((Bool × Unit) × (Unit)) :=
  if ((a_1.length : Int) != (b_2.length : Int)) = true then
    some ((false, ()), ())
  else
    laws_eqMatrixS.l4 k a_1 b_2 (0 : Int)
theorem laws_eqMatrixS.run (k : Nat) (a_1 : List (Int × Int × Int × List Int)) (b_2 : List (Int × Int × Int × List Int)) : runFn laws_eqMatrixS.cfg laws_eqMatrixS.fin laws_eqMatrixS.code (initSt laws_eqMatrixS.sig.ps (a_1, b_2, ()) 27) k = laws_eqMatrixS.T k a_1 b_2 := by kernel_rfl
theorem laws_eqMatrixS.of (a_1 : List (Int × Int × Int × List Int)) (b_2 : List (Int × Int × Int × List Int)) {r : (Bool × Unit) × (Unit)} (h : Ev (fun k => laws_eqMatrixS.T k a_1 b_2) r) : laws_eqMatrixS.F (a_1, b_2, ()) = some r := Ev.run (fun k => laws_eqMatrixS.run k a_1 b_2) h
theorem laws_eqMatrixS.ok : CtxOK Go.Proofs.Try.prog laws_eqMatrixS.ctx := ⟨List.forall_mem_nil _, mixed_ok, tab_ok tab_good, List.forall_mem_cons.2 ⟨laws_eqMatrix.S, List.forall_mem_nil _⟩, List.forall_mem_nil _⟩
theorem laws_eqMatrixS.S : Sound Go.Proofs.Try.prog ⟨60, laws_eqMatrixS.sig, laws_eqMatrixS.F⟩ := sound_any (fn := Go.Proofs.Try.f60) (code := laws_eqMatrixS.code) (g := laws_eqMatrixS.cfg) (res := [.tmp 4]) Go.Proofs.Try.func60 (by kernel_rfl) (by kernel_rfl) laws_eqMatrixS.ok (by kernel_rfl) (by kernel_rfl) (Nat.le_of_ble_eq_true (by kernel_rfl)) (by kernel_rfl)
/-! ### laws_eqCosheaf -/
noncomputable def laws_eqCosheaf.sig : Sig := ⟨[.val true TSheaf, .val true TSheaf], [(.val false, .bool, .deep)]⟩
noncomputable def laws_eqCosheaf.ctx : Ctx := ⟨tabOf tabl, [⟨18, laws_eqInt64S.sig, laws_eqInt64S.F⟩, ⟨33, laws_eqComplex.sig, laws_eqComplex.F⟩, ⟨60, laws_eqMatrixS.sig, laws_eqMatrixS.F⟩], [], []⟩
noncomputable def laws_eqCosheaf.cfg : Cfg := ⟨laws_eqCosheaf.ctx, [], [], fun _ => ([], [])⟩
noncomputable def laws_eqCosheaf.code : Code := (Go.Proofs.Try.f23).body.getD .skip
noncomputable def laws_eqCosheaf.fin := finK laws_eqCosheaf.ctx laws_eqCosheaf.sig [.tmp 4]
noncomputable def laws_eqCosheaf.F (d : (List (List Int) × Int × List Int × List (Int × Int × Int × List Int)) × (List (List Int) × Int × List Int × List (Int × Int × Int × List Int)) × Unit) : Option ((Bool × Unit) × (Unit)) := anyK (runFn laws_eqCosheaf.cfg laws_eqCosheaf.fin laws_eqCosheaf.code (initSt laws_eqCosheaf.sig.ps d 28))
noncomputable def laws_eqCosheaf.T (a_1 : List (List Int)) (a_2 : Int) (a_3 : List Int) (a_4 : List (Int × Int × Int × List Int)) (b_5 : List (List Int)) (b_6 : Int) (b_7 : List Int) (b_8 : List (Int × Int × Int × List Int)) : Option ((Bool × Unit) × (Unit)) :=
  (laws_eqComplex.F (a_1, b_5, ())).bind fun r9 =>
    if (!(r9.1.1 : Bool)) = true then
      some ((false, ()), ())
    else
      if (a_2 != b_6) = true then
        some ((false, ()), ())
      else
        (laws_eqInt64S.F (a_3, b_7, ())).bind fun r10 =>
          if (!(r10.1.1 : Bool)) = true then
            some ((false, ()), ())
          else
            (laws_eqMatrixS.F (a_4, b_8, ())).bind fun r11 =>
              if (!(r11.1.1 : Bool)) = true then
                some ((false, ()), ())
              else
                some ((true, ()), ())
theorem laws_eqCosheaf.run (k : Nat) (a_1 : List (List Int)) (a_2 : Int) (a_3 : List Int) (a_4 : List (Int × Int × Int × List Int)) (b_5 : List (List Int)) (b_6 : Int) (b_7 : List Int) (b_8 : List (Int × Int × Int × List Int)) : runFn laws_eqCosheaf.cfg laws_eqCosheaf.fin laws_eqCosheaf.code (initSt laws_eqCosheaf.sig.ps ((a_1, (a_2, (a_3, a_4))), (b_5, (b_6, (b_7, b_8))), ()) 28) k = laws_eqCosheaf.T a_1 a_2 a_3 a_4 b_5 b_6 b_7 b_8 := by kernel_rfl
theorem laws_eqCosheaf.eq (a_1 : List (List Int)) (a_2 : Int) (a_3 : List Int) (a_4 : List (Int × Int × Int × List Int)) (b_5 : List (List Int)) (b_6 : Int) (b_7 : List Int) (b_8 : List (Int × Int × Int × List Int)) : laws_eqCosheaf.F ((a_1, (a_2, (a_3, a_4))), (b_5, (b_6, (b_7, b_8))), ()) = laws_eqCosheaf.T a_1 a_2 a_3 a_4 b_5 b_6 b_7 b_8 := (congrArg anyK (funext fun k => laws_eqCosheaf.run k a_1 a_2 a_3 a_4 b_5 b_6 b_7 b_8)).trans (anyK_const _)
theorem laws_eqCosheaf.ok : CtxOK Go.Proofs.Try.prog laws_eqCosheaf.ctx := ⟨List.forall_mem_nil _, mixed_ok, tab_ok tab_good, List.forall_mem_cons.2 ⟨laws_eqInt64S.S, List.forall_mem_cons.2 ⟨laws_eqComplex.S, List.forall_mem_cons.2 ⟨laws_eqMatrixS.S, List.forall_mem_nil _⟩⟩⟩, List.forall_mem_nil _⟩
theorem laws_eqCosheaf.S : Sound Go.Proofs.Try.prog ⟨23, laws_eqCosheaf.sig, laws_eqCosheaf.F⟩ := sound_any (fn := Go.Proofs.Try.f23) (code := laws_eqCosheaf.code) (g := laws_eqCosheaf.cfg) (res := [.tmp 4]) Go.Proofs.Try.func23 (by kernel_rfl) (by kernel_rfl) laws_eqCosheaf.ok (by kernel_rfl) (by kernel_rfl) (Nat.le_of_ble_eq_true (by kernel_rfl)) (by kernel_rfl)
/-! ### laws_FnExactSameCosheaf -/
noncomputable def laws_FnExactSameCosheaf.sig : Sig := ⟨[.val true TSheaf, .val true TSheaf], [(.val false, .bool, .deep)]⟩
noncomputable def laws_FnExactSameCosheaf.ctx : Ctx := ⟨tabOf tabl, [⟨19, laws_szCosheaf.sig, laws_szCosheaf.F⟩, ⟨20, spec_SameCosheaf.sig, spec_SameCosheaf.F⟩, ⟨21, laws_toCosheaf.sig, laws_toCosheaf.F⟩, ⟨22, impl_SameCosheaf.sig, impl_SameCosheaf.F⟩, ⟨23, laws_eqCosheaf.sig, laws_eqCosheaf.F⟩], [], []⟩
noncomputable def laws_FnExactSameCosheaf.cfg : Cfg := ⟨laws_FnExactSameCosheaf.ctx, [], [], fun _ => ([], [])⟩
noncomputable def laws_FnExactSameCosheaf.code : Code := (Go.Proofs.Try.f4).body.getD .skip
noncomputable def laws_FnExactSameCosheaf.fin := finK laws_FnExactSameCosheaf.ctx laws_FnExactSameCosheaf.sig [.tmp 4]
noncomputable def laws_FnExactSameCosheaf.F (d : (List (List Int) × Int × List Int × List (Int × Int × Int × List Int)) × (List (List Int) × Int × List Int × List (Int × Int × Int × List Int)) × Unit) : Option ((Bool × Unit) × (Unit)) := anyK (runFn laws_FnExactSameCosheaf.cfg laws_FnExactSameCosheaf.fin laws_FnExactSameCosheaf.code (initSt laws_FnExactSameCosheaf.sig.ps d 45))
noncomputable def laws_FnExactSameCosheaf.T (aA_1 : List (List Int)) (aA_2 : Int) (aA_3 : List Int) (aA_4 : List (Int × Int × Int × List Int)) (aB_5 : List (List Int)) (aB_6 : Int) (aB_7 : List Int) (aB_8 : List (Int × Int × Int × List Int)) : Option ((Bool × Unit) × (Unit)) :=
  (laws_szCosheaf.F ((aA_1, (aA_2, (aA_3, aA_4))), (1048576 : Int), ())).bind fun r9 =>
    if (decide ((r9.1.1 : Int) < (0 : Int))) = true then
      some ((true, ()), ())
    else
      (laws_szCosheaf.F ((aB_5, (aB_6, (aB_7, aB_8))), (r9.1.1 : Int), ())).bind fun r10 =>
        if (decide ((r10.1.1 : Int) < (0 : Int))) = true then
          some ((true, ()), ())
        else
          (laws_toCosheaf.F ((aA_1, (aA_2, (aA_3, aA_4))), ())).bind fun r11 =>
            (laws_toCosheaf.F ((aB_5, (aB_6, (aB_7, aB_8))), ())).bind fun r12 =>
              (spec_SameCosheaf.F (r11.1.1, r12.1.1, ())).bind fun r13 =>
                (laws_toCosheaf.F ((aA_1, (aA_2, (aA_3, aA_4))), ())).bind fun r14 =>
                  (laws_toCosheaf.F ((aB_5, (aB_6, (aB_7, aB_8))), ())).bind fun r15 =>
                    (impl_SameCosheaf.F (r14.1.1, r15.1.1, ())).bind fun r16 =>
                      if (!((r16.1.1 : Bool) == (r13.1.1 : Bool))) = true then
                        some ((false, ()), ())
                      else
                        (laws_toCosheaf.F ((aA_1, (aA_2, (aA_3, aA_4))), ())).bind fun r17 =>
                          (laws_eqCosheaf.F (r14.1.1, r17.1.1, ())).bind fun r18 =>
                            if (!(r18.1.1 : Bool)) = true then
                              some ((false, ()), ())
                            else
                              (laws_toCosheaf.F ((aB_5, (aB_6, (aB_7, aB_8))), ())).bind fun r19 =>
                                (laws_eqCosheaf.F (r15.1.1, r19.1.1, ())).bind fun r20 =>
                                  if (!(r20.1.1 : Bool)) = true then
                                    some ((false, ()), ())
                                  else
                                    some ((true, ()), ())
theorem laws_FnExactSameCosheaf.run (k : Nat) (aA_1 : List (List Int)) (aA_2 : Int) (aA_3 : List Int) (aA_4 : List (Int × Int × Int × List Int)) (aB_5 : List (List Int)) (aB_6 : Int) (aB_7 : List Int) (aB_8 : List (Int × Int × Int × List Int)) : runFn laws_FnExactSameCosheaf.cfg laws_FnExactSameCosheaf.fin laws_FnExactSameCosheaf.code (initSt laws_FnExactSameCosheaf.sig.ps ((aA_1, (aA_2, (aA_3, aA_4))), (aB_5, (aB_6, (aB_7, aB_8))), ()) 45) k = laws_FnExactSameCosheaf.T aA_1 aA_2 aA_3 aA_4 aB_5 aB_6 aB_7 aB_8 := by kernel_rfl
theorem laws_FnExactSameCosheaf.eq (aA_1 : List (List Int)) (aA_2 : Int) (aA_3 : List Int) (aA_4 : List (Int × Int × Int × List Int)) (aB_5 : List (List Int)) (aB_6 : Int) (aB_7 : List Int) (aB_8 : List (Int × Int × Int × List Int)) : laws_FnExactSameCosheaf.F ((aA_1, (aA_2, (aA_3, aA_4))), (aB_5, (aB_6, (aB_7, aB_8))), ()) = laws_FnExactSameCosheaf.T aA_1 aA_2 aA_3 aA_4 aB_5 aB_6 aB_7 aB_8 := (congrArg anyK (funext fun k => laws_FnExactSameCosheaf.run k aA_1 aA_2 aA_3 aA_4 aB_5 aB_6 aB_7 aB_8)).trans (anyK_const _)
theorem laws_FnExactSameCosheaf.ok : CtxOK Go.Proofs.Try.prog laws_FnExactSameCosheaf.ctx := ⟨List.forall_mem_nil _, mixed_ok, tab_ok tab_good, List.forall_mem_cons.2 ⟨laws_szCosheaf.S, List.forall_mem_cons.2 ⟨spec_SameCosheaf.S, List.forall_mem_cons.2 ⟨laws_toCosheaf.S, List.forall_mem_cons.2 ⟨impl_SameCosheaf.S, List.forall_mem_cons.2 ⟨laws_eqCosheaf.S, List.forall_mem_nil _⟩⟩⟩⟩⟩, List.forall_mem_nil _⟩
theorem laws_FnExactSameCosheaf.S : Sound Go.Proofs.Try.prog ⟨4, laws_FnExactSameCosheaf.sig, laws_FnExactSameCosheaf.F⟩ := sound_any (fn := Go.Proofs.Try.f4) (code := laws_FnExactSameCosheaf.code) (g := laws_FnExactSameCosheaf.cfg) (res := [.tmp 4]) Go.Proofs.Try.func4 (by kernel_rfl) (by kernel_rfl) laws_FnExactSameCosheaf.ok (by kernel_rfl) (by kernel_rfl) (Nat.le_of_ble_eq_true (by kernel_rfl)) (by kernel_rfl)
end Go.Proofs.Ytpibalgbkhpcbaa
