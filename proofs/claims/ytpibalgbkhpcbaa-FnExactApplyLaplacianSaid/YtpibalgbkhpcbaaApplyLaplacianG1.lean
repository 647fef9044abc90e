/- The functions, as the machine runs them. -/
import Derived.Test.YtpibalgbkhpcbaaVm3
import Derived.Test.YtpibalgbkhpcbaaProg
import Derived.KernelRfl
namespace Go.Proofs.Ytpibalgbkhpcbaa
open Go Go.Vm
set_option linter.unusedVariables false
set_option linter.unusedSimpArgs false
abbrev TEdge_1 : Ty := .pair (.int .i64) (.int .i64)
abbrev TEdge : Ty := .pair (.int .i64) TEdge_1
abbrev TGraph : Ty := .pair (.int .i64) (.sl TEdge)
def tabl : List (Nat × TInfo) := [
  (2, ⟨false, (.int .i64), 0, []⟩),
  (3, ⟨false, (.int .i64), 0, []⟩),
  (4, ⟨false, .bool, 0, []⟩),
  (22, ⟨false, (.sl TEdge), 114, []⟩),
  (24, ⟨true, TGraph, 0, [(0, 1, false), (1, 1, false)]⟩),
  (25, ⟨false, (.sl (.int .i64)), 2, []⟩),
  (29, ⟨false, (.sl TEdge), 110, []⟩),
  (31, ⟨true, TGraph, 0, [(0, 1, false), (1, 1, false)]⟩),
  (37, ⟨false, (.sl (.sl (.int .i64))), 25, []⟩),
  (110, ⟨true, TEdge, 0, [(0, 1, false), (1, 1, false), (2, 1, false)]⟩),
  (114, ⟨true, TEdge, 0, [(0, 1, false), (1, 1, false), (2, 1, false)]⟩),
  (178, ⟨false, (.sl (.int .i64)), 3, []⟩)]
theorem tab_good : tabB Go.Proofs.Try.prog tabl = true := by kernel_rfl
theorem tab_open : openB Go.Proofs.Try.prog tabl = true := by kernel_rfl
theorem mixed_ok : Go.Proofs.Try.prog.follows .mixedOrders = true := by kernel_rfl
/-! ### laws_szEdgeS -/
noncomputable def laws_szEdgeS.sig : Sig := ⟨[.val false (.sl TEdge), .val false (.int .i64)], [(.val false, (.int .i64), .deep)]⟩
noncomputable def laws_szEdgeS.ctx : Ctx := ⟨tabOf tabl, [], [], []⟩
noncomputable def laws_szEdgeS.cfg : Cfg := ⟨laws_szEdgeS.ctx, [], [], fun _ => ([], [])⟩
noncomputable def laws_szEdgeS.code : Code := (Go.Proofs.Try.f46).body.getD .skip
noncomputable def laws_szEdgeS.fin := finK laws_szEdgeS.ctx laws_szEdgeS.sig [.tmp 4]
noncomputable def laws_szEdgeS.F (d : List (Int × Int × Int) × Int × Unit) : Option ((Int × Unit) × (Unit)) := anyK (runFn laws_szEdgeS.cfg laws_szEdgeS.fin laws_szEdgeS.code (initSt laws_szEdgeS.sig.ps d 12))
noncomputable def laws_szEdgeS.T (a_1 : List (Int × Int × Int)) (left_2 : Int) : Option ((Int × Unit) × (Unit)) :=
  if (decide ((IntKind.i64.wrap (left_2 - (a_1.length : Int))) < (0 : Int))) = true then
    some (((-1 : Int), ()), ())
  else
    some ((IntKind.i64.wrap (left_2 - (a_1.length : Int)), ()), ())
theorem laws_szEdgeS.run (k : Nat) (a_1 : List (Int × Int × Int)) (left_2 : Int) : runFn laws_szEdgeS.cfg laws_szEdgeS.fin laws_szEdgeS.code (initSt laws_szEdgeS.sig.ps (a_1, left_2, ()) 12) k = laws_szEdgeS.T a_1 left_2 := by kernel_rfl
theorem laws_szEdgeS.eq (a_1 : List (Int × Int × Int)) (left_2 : Int) : laws_szEdgeS.F (a_1, left_2, ()) = laws_szEdgeS.T a_1 left_2 := (congrArg anyK (funext fun k => laws_szEdgeS.run k a_1 left_2)).trans (anyK_const _)
theorem laws_szEdgeS.ok : CtxOK Go.Proofs.Try.prog laws_szEdgeS.ctx := ⟨List.forall_mem_nil _, mixed_ok, tab_ok tab_good, List.forall_mem_nil _, List.forall_mem_nil _⟩
theorem laws_szEdgeS.S : Sound Go.Proofs.Try.prog ⟨46, laws_szEdgeS.sig, laws_szEdgeS.F⟩ := sound_any (fn := Go.Proofs.Try.f46) (code := laws_szEdgeS.code) (g := laws_szEdgeS.cfg) (res := [.tmp 4]) Go.Proofs.Try.func46 (by kernel_rfl) (by kernel_rfl) laws_szEdgeS.ok (by kernel_rfl) (by kernel_rfl) (Nat.le_of_ble_eq_true (by kernel_rfl)) (by kernel_rfl)
/-! ### laws_szGraph -/
noncomputable def laws_szGraph.sig : Sig := ⟨[.val true TGraph, .val false (.int .i64)], [(.val false, (.int .i64), .deep)]⟩
noncomputable def laws_szGraph.ctx : Ctx := ⟨tabOf tabl, [⟨46, laws_szEdgeS.sig, laws_szEdgeS.F⟩], [], []⟩
noncomputable def laws_szGraph.cfg : Cfg := ⟨laws_szGraph.ctx, [], [], fun _ => ([], [])⟩
noncomputable def laws_szGraph.code : Code := (Go.Proofs.Try.f12).body.getD .skip
noncomputable def laws_szGraph.fin := finK laws_szGraph.ctx laws_szGraph.sig [.tmp 4]
noncomputable def laws_szGraph.F (d : (Int × List (Int × Int × Int)) × Int × Unit) : Option ((Int × Unit) × (Unit)) := anyK (runFn laws_szGraph.cfg laws_szGraph.fin laws_szGraph.code (initSt laws_szGraph.sig.ps d 12))
noncomputable def laws_szGraph.T (a_1 : Int) (a_2 : List (Int × Int × Int)) (left_3 : Int) : Option ((Int × Unit) × (Unit)) :=
  (laws_szEdgeS.F (a_2, left_3, ())).bind fun r4 =>
    if (decide ((r4.1.1 : Int) < (0 : Int))) = true then
      some (((-1 : Int), ()), ())
    else
      some (((r4.1.1 : Int), ()), ())
theorem laws_szGraph.run (k : Nat) (a_1 : Int) (a_2 : List (Int × Int × Int)) (left_3 : Int) : runFn laws_szGraph.cfg laws_szGraph.fin laws_szGraph.code (initSt laws_szGraph.sig.ps ((a_1, a_2), left_3, ()) 12) k = laws_szGraph.T a_1 a_2 left_3 := by kernel_rfl
theorem laws_szGraph.eq (a_1 : Int) (a_2 : List (Int × Int × Int)) (left_3 : Int) : laws_szGraph.F ((a_1, a_2), left_3, ()) = laws_szGraph.T a_1 a_2 left_3 := (congrArg anyK (funext fun k => laws_szGraph.run k a_1 a_2 left_3)).trans (anyK_const _)
theorem laws_szGraph.ok : CtxOK Go.Proofs.Try.prog laws_szGraph.ctx := ⟨List.forall_mem_nil _, mixed_ok, tab_ok tab_good, List.forall_mem_cons.2 ⟨laws_szEdgeS.S, List.forall_mem_nil _⟩, List.forall_mem_nil _⟩
theorem laws_szGraph.S : Sound Go.Proofs.Try.prog ⟨12, laws_szGraph.sig, laws_szGraph.F⟩ := sound_any (fn := Go.Proofs.Try.f12) (code := laws_szGraph.code) (g := laws_szGraph.cfg) (res := [.tmp 4]) Go.Proofs.Try.func12 (by kernel_rfl) (by kernel_rfl) laws_szGraph.ok (by kernel_rfl) (by kernel_rfl) (Nat.le_of_ble_eq_true (by kernel_rfl)) (by kernel_rfl)
/-! ### laws_toEdge -/
noncomputable def laws_toEdge.sig : Sig := ⟨[.val true TEdge], [(.val true, TEdge, .deep)]⟩
noncomputable def laws_toEdge.ctx : Ctx := ⟨tabOf tabl, [], [], []⟩
noncomputable def laws_toEdge.cfg : Cfg := ⟨laws_toEdge.ctx, [], [], fun _ => ([], [])⟩
noncomputable def laws_toEdge.code : Code := (Go.Proofs.Try.f93).body.getD .skip
noncomputable def laws_toEdge.fin := finK laws_toEdge.ctx laws_toEdge.sig [.cell 2 110]
noncomputable def laws_toEdge.F (d : (Int × Int × Int) × Unit) : Option (((Int × Int × Int) × Unit) × (Unit)) := anyK (runFn laws_toEdge.cfg laws_toEdge.fin laws_toEdge.code (initSt laws_toEdge.sig.ps d 14))
noncomputable def laws_toEdge.T (a_1 : Int) (a_2 : Int) (a_3 : Int) : Option (((Int × Int × Int) × Unit) × (Unit)) :=
  some (((a_1, (a_2, a_3)), ()), ())
theorem laws_toEdge.run (k : Nat) (a_1 : Int) (a_2 : Int) (a_3 : Int) : runFn laws_toEdge.cfg laws_toEdge.fin laws_toEdge.code (initSt laws_toEdge.sig.ps ((a_1, (a_2, a_3)), ()) 14) k = laws_toEdge.T a_1 a_2 a_3 := by kernel_rfl
theorem laws_toEdge.eq (a_1 : Int) (a_2 : Int) (a_3 : Int) : laws_toEdge.F ((a_1, (a_2, a_3)), ()) = laws_toEdge.T a_1 a_2 a_3 := (congrArg anyK (funext fun k => laws_toEdge.run k a_1 a_2 a_3)).trans (anyK_const _)
theorem laws_toEdge.ok : CtxOK Go.Proofs.Try.prog laws_toEdge.ctx := ⟨List.forall_mem_nil _, mixed_ok, tab_ok tab_good, List.forall_mem_nil _, List.forall_mem_nil _⟩
theorem laws_toEdge.S : Sound Go.Proofs.Try.prog ⟨93, laws_toEdge.sig, laws_toEdge.F⟩ := sound_any (fn := Go.Proofs.Try.f93) (code := laws_toEdge.code) (g := laws_toEdge.cfg) (res := [.cell 2 110]) Go.Proofs.Try.func93 (by kernel_rfl) (by kernel_rfl) laws_toEdge.ok (by kernel_rfl) (by kernel_rfl) (Nat.le_of_ble_eq_true (by kernel_rfl)) (by kernel_rfl)
/-! ### laws_toEdgeS -/
noncomputable def laws_toEdgeS.sig : Sig := ⟨[.val false (.sl TEdge)], [(.val false, (.sl TEdge), .deep)]⟩
noncomputable def laws_toEdgeS.ctx : Ctx := ⟨tabOf tabl, [⟨93, laws_toEdge.sig, laws_toEdge.F⟩], [], []⟩
noncomputable def laws_toEdgeS.cfg : Cfg := ⟨laws_toEdgeS.ctx, [], [], fun id => match id with | 3 => ([0, 3, 4], [12]) | _ => ([], [])⟩
noncomputable def laws_toEdgeS.code : Code := (Go.Proofs.Try.f50).body.getD .skip
noncomputable def laws_toEdgeS.fin := finK laws_toEdgeS.ctx laws_toEdgeS.sig [.tmp 2]
noncomputable def laws_toEdgeS.F (d : List (Int × Int × Int) × Unit) : Option ((List (Int × Int × Int) × Unit) × (Unit)) := anyK (runFn laws_toEdgeS.cfg laws_toEdgeS.fin laws_toEdgeS.code (initSt laws_toEdgeS.sig.ps d 23))
noncomputable def laws_toEdgeS.l3 (k : Nat) (x2 : List (Int × Int × Int)) (i3 : Int) (x4 : List (Int × Int × Int)) : Option ((List (Int × Int × Int) × Unit) × (Unit)) :=
  Go.Vm.runT laws_toEdgeS.cfg laws_toEdgeS.fin k [.inLoop (sub [1, 1, 0, 1, 0, 0] laws_toEdgeS.code), .inBlock 0, .code (sub [1, 1, 1] laws_toEdgeS.code)]
    ⟨[.val false [⟨(.sl TEdge), .sh, x2⟩], .dead, .dead, .view 12 (.root 0) 1 false, .val false [⟨(.int .i64), .sh, i3⟩]] ++ deads 18, [(12, ⟨false, [⟨(.sl TEdge), .deep, x4⟩]⟩)]⟩
theorem laws_toEdgeS.l3_eq (k : Nat) (x2 : List (Int × Int × Int)) (i3 : Int) (x4 : List (Int × Int × Int)) : laws_toEdgeS.l3 (k + 1) x2 i3 x4 =
  if (decide (i3 < (x2.length : Int))) = true then
    if 0 ≤ i3 ∧ i3 < (x2.length : Int) then
      (laws_toEdge.F (x2.getD i3.toNat (0, 0, 0), ())).bind fun r5 =>
        if 0 ≤ i3 ∧ i3 < (x4.length : Int) then
          laws_toEdgeS.l3 k x2 (IntKind.i64.wrap (i3 + (1 : Int))) (x4.set i3.toNat r5.1.1)
        else
          none
    else
      none
  else
    some ((x4, ()), ()) := by kernel_rfl
noncomputable def laws_toEdgeS.T (k : Nat) (a_1 : List (Int × Int × Int)) : Option ((List (Int × Int × Int) × Unit) × (Unit)) :=
  if 0 ≤ (a_1.length : Int) ∧ (a_1.length : Int) ≤ (bigN : Int) then
    laws_toEdgeS.l3 k a_1 (0 : Int) (List.replicate (a_1.length : Int).toNat (0, 0, 0))
  else
    none
theorem laws_toEdgeS.run (k : Nat) (a_1 : List (Int × Int × Int)) : runFn laws_toEdgeS.cfg laws_toEdgeS.fin laws_toEdgeS.code (initSt laws_toEdgeS.sig.ps (a_1, ()) 23) k = laws_toEdgeS.T k a_1 := by kernel_rfl
theorem laws_toEdgeS.of (a_1 : List (Int × Int × Int)) {r : (List (Int × Int × Int) × Unit) × (Unit)} (h : Ev (fun k => laws_toEdgeS.T k a_1) r) : laws_toEdgeS.F (a_1, ()) = some r := Ev.run (fun k => laws_toEdgeS.run k a_1) h
theorem laws_toEdgeS.ok : CtxOK Go.Proofs.Try.prog laws_toEdgeS.ctx := ⟨List.forall_mem_nil _, mixed_ok, tab_ok tab_good, List.forall_mem_cons.2 ⟨laws_toEdge.S, List.forall_mem_nil _⟩, List.forall_mem_nil _⟩
theorem laws_toEdgeS.S : Sound Go.Proofs.Try.prog ⟨50, laws_toEdgeS.sig, laws_toEdgeS.F⟩ := sound_any (fn := Go.Proofs.Try.f50) (code := laws_toEdgeS.code) (g := laws_toEdgeS.cfg) (res := [.tmp 2]) Go.Proofs.Try.func50 (by kernel_rfl) (by kernel_rfl) laws_toEdgeS.ok (by kernel_rfl) (by kernel_rfl) (Nat.le_of_ble_eq_true (by kernel_rfl)) (by kernel_rfl)
/-! ### laws_toGraph -/
noncomputable def laws_toGraph.sig : Sig := ⟨[.val true TGraph], [(.val true, TGraph, .deep)]⟩
noncomputable def laws_toGraph.ctx : Ctx := ⟨tabOf tabl, [⟨50, laws_toEdgeS.sig, laws_toEdgeS.F⟩], [], []⟩
noncomputable def laws_toGraph.cfg : Cfg := ⟨laws_toGraph.ctx, [], [], fun _ => ([], [])⟩
noncomputable def laws_toGraph.code : Code := (Go.Proofs.Try.f14).body.getD .skip
noncomputable def laws_toGraph.fin := finK laws_toGraph.ctx laws_toGraph.sig [.cell 2 31]
noncomputable def laws_toGraph.F (d : (Int × List (Int × Int × Int)) × Unit) : Option (((Int × List (Int × Int × Int)) × Unit) × (Unit)) := anyK (runFn laws_toGraph.cfg laws_toGraph.fin laws_toGraph.code (initSt laws_toGraph.sig.ps d 12))
noncomputable def laws_toGraph.T (a_1 : Int) (a_2 : List (Int × Int × Int)) : Option (((Int × List (Int × Int × Int)) × Unit) × (Unit)) :=
  (laws_toEdgeS.F (a_2, ())).bind fun r3 =>
    some (((a_1, r3.1.1), ()), ())
theorem laws_toGraph.run (k : Nat) (a_1 : Int) (a_2 : List (Int × Int × Int)) : runFn laws_toGraph.cfg laws_toGraph.fin laws_toGraph.code (initSt laws_toGraph.sig.ps ((a_1, a_2), ()) 12) k = laws_toGraph.T a_1 a_2 := by kernel_rfl
theorem laws_toGraph.eq (a_1 : Int) (a_2 : List (Int × Int × Int)) : laws_toGraph.F ((a_1, a_2), ()) = laws_toGraph.T a_1 a_2 := (congrArg anyK (funext fun k => laws_toGraph.run k a_1 a_2)).trans (anyK_const _)
theorem laws_toGraph.ok : CtxOK Go.Proofs.Try.prog laws_toGraph.ctx := ⟨List.forall_mem_nil _, mixed_ok, tab_ok tab_good, List.forall_mem_cons.2 ⟨laws_toEdgeS.S, List.forall_mem_nil _⟩, List.forall_mem_nil _⟩
theorem laws_toGraph.S : Sound Go.Proofs.Try.prog ⟨14, laws_toGraph.sig, laws_toGraph.F⟩ := sound_any (fn := Go.Proofs.Try.f14) (code := laws_toGraph.code) (g := laws_toGraph.cfg) (res := [.cell 2 31]) Go.Proofs.Try.func14 (by kernel_rfl) (by kernel_rfl) laws_toGraph.ok (by kernel_rfl) (by kernel_rfl) (Nat.le_of_ble_eq_true (by kernel_rfl)) (by kernel_rfl)
/-! ### laws_toInt64S -/
noncomputable def laws_toInt64S.sig : Sig := ⟨[.val false (.sl (.int .i64))], [(.val false, (.sl (.int .i64)), .deep)]⟩
noncomputable def laws_toInt64S.ctx : Ctx := ⟨tabOf tabl, [], [], []⟩
noncomputable def laws_toInt64S.cfg : Cfg := ⟨laws_toInt64S.ctx, [], [], fun id => match id with | 3 => ([0, 3, 4], [12]) | _ => ([], [])⟩
noncomputable def laws_toInt64S.code : Code := (Go.Proofs.Try.f15).body.getD .skip
noncomputable def laws_toInt64S.fin := finK laws_toInt64S.ctx laws_toInt64S.sig [.tmp 2]
noncomputable def laws_toInt64S.F (d : List Int × Unit) : Option ((List Int × Unit) × (Unit)) := anyK (runFn laws_toInt64S.cfg laws_toInt64S.fin laws_toInt64S.code (initSt laws_toInt64S.sig.ps d 22))
noncomputable def laws_toInt64S.l3 (k : Nat) (x2 : List Int) (i3 : Int) (x4 : List Int) : Option ((List Int × Unit) × (Unit)) :=
  Go.Vm.runT laws_toInt64S.cfg laws_toInt64S.fin k [.inLoop (sub [1, 1, 0, 1, 0, 0] laws_toInt64S.code), .inBlock 0, .code (sub [1, 1, 1] laws_toInt64S.code)]
    ⟨[.val false [⟨(.sl (.int .i64)), .sh, x2⟩], .dead, .dead, .view 12 (.root 0) 1 false, .val false [⟨(.int .i64), .sh, i3⟩]] ++ deads 17, [(12, ⟨false, [⟨(.sl (.int .i64)), .deep, x4⟩]⟩)]⟩
theorem laws_toInt64S.l3_eq (k : Nat) (x2 : List Int) (i3 : Int) (x4 : List Int) : laws_toInt64S.l3 (k + 1) x2 i3 x4 =
  if (decide (i3 < (x2.length : Int))) = true then
    if 0 ≤ i3 ∧ i3 < (x2.length : Int) then
      if 0 ≤ i3 ∧ i3 < (x4.length : Int) then
        laws_toInt64S.l3 k x2 (IntKind.i64.wrap (i3 + (1 : Int))) (x4.set i3.toNat (x2.getD i3.toNat 0 : Int))
      else
        none
    else
      none
  else
    some ((x4, ()), ()) := by kernel_rfl
noncomputable def laws_toInt64S.T (k : Nat) (a_1 : List Int) : Option ((List Int × Unit) × (Unit)) :=
  if 0 ≤ (a_1.length : Int) ∧ (a_1.length : Int) ≤ (bigN : Int) then
    laws_toInt64S.l3 k a_1 (0 : Int) (List.replicate (a_1.length : Int).toNat 0)
  else
    none
theorem laws_toInt64S.run (k : Nat) (a_1 : List Int) : runFn laws_toInt64S.cfg laws_toInt64S.fin laws_toInt64S.code (initSt laws_toInt64S.sig.ps (a_1, ()) 22) k = laws_toInt64S.T k a_1 := by kernel_rfl
theorem laws_toInt64S.of (a_1 : List Int) {r : (List Int × Unit) × (Unit)} (h : Ev (fun k => laws_toInt64S.T k a_1) r) : laws_toInt64S.F (a_1, ()) = some r := Ev.run (fun k => laws_toInt64S.run k a_1) h
theorem laws_toInt64S.ok : CtxOK Go.Proofs.Try.prog laws_toInt64S.ctx := ⟨List.forall_mem_nil _, mixed_ok, tab_ok tab_good, List.forall_mem_nil _, List.forall_mem_nil _⟩
theorem laws_toInt64S.S : Sound Go.Proofs.Try.prog ⟨15, laws_toInt64S.sig, laws_toInt64S.F⟩ := sound_any (fn := Go.Proofs.Try.f15) (code := laws_toInt64S.code) (g := laws_toInt64S.cfg) (res := [.tmp 2]) Go.Proofs.Try.func15 (by kernel_rfl) (by kernel_rfl) laws_toInt64S.ok (by kernel_rfl) (by kernel_rfl) (Nat.le_of_ble_eq_true (by kernel_rfl)) (by kernel_rfl)
/-! ### laws_eqEdge -/
noncomputable def laws_eqEdge.sig : Sig := ⟨[.val true TEdge, .val true TEdge], [(.val false, .bool, .deep)]⟩
noncomputable def laws_eqEdge.ctx : Ctx := ⟨tabOf tabl, [], [], []⟩
noncomputable def laws_eqEdge.cfg : Cfg := ⟨laws_eqEdge.ctx, [], [], fun _ => ([], [])⟩
noncomputable def laws_eqEdge.code : Code := (Go.Proofs.Try.f99).body.getD .skip
noncomputable def laws_eqEdge.fin := finK laws_eqEdge.ctx laws_eqEdge.sig [.tmp 4]
noncomputable def laws_eqEdge.F (d : (Int × Int × Int) × (Int × Int × Int) × Unit) : Option ((Bool × Unit) × (Unit)) := anyK (runFn laws_eqEdge.cfg laws_eqEdge.fin laws_eqEdge.code (initSt laws_eqEdge.sig.ps d 20))
noncomputable def laws_eqEdge.T (a_1 : Int) (a_2 : Int) (a_3 : Int) (b_4 : Int) (b_5 : Int) (b_6 : Int) : Option ((Bool × Unit) × (Unit)) :=
  if (a_1 != b_4) = true then
    some ((false, ()), ())
  else
    if (a_2 != b_5) = true then
      some ((false, ()), ())
    else
      if (a_3 != b_6) = true then
        some ((false, ()), ())
      else
        some ((true, ()), ())
theorem laws_eqEdge.run (k : Nat) (a_1 : Int) (a_2 : Int) (a_3 : Int) (b_4 : Int) (b_5 : Int) (b_6 : Int) : runFn laws_eqEdge.cfg laws_eqEdge.fin laws_eqEdge.code (initSt laws_eqEdge.sig.ps ((a_1, (a_2, a_3)), (b_4, (b_5, b_6)), ()) 20) k = laws_eqEdge.T a_1 a_2 a_3 b_4 b_5 b_6 := by kernel_rfl
theorem laws_eqEdge.eq (a_1 : Int) (a_2 : Int) (a_3 : Int) (b_4 : Int) (b_5 : Int) (b_6 : Int) : laws_eqEdge.F ((a_1, (a_2, a_3)), (b_4, (b_5, b_6)), ()) = laws_eqEdge.T a_1 a_2 a_3 b_4 b_5 b_6 := (congrArg anyK (funext fun k => laws_eqEdge.run k a_1 a_2 a_3 b_4 b_5 b_6)).trans (anyK_const _)
theorem laws_eqEdge.ok : CtxOK Go.Proofs.Try.prog laws_eqEdge.ctx := ⟨List.forall_mem_nil _, mixed_ok, tab_ok tab_good, List.forall_mem_nil _, List.forall_mem_nil _⟩
theorem laws_eqEdge.S : Sound Go.Proofs.Try.prog ⟨99, laws_eqEdge.sig, laws_eqEdge.F⟩ := sound_any (fn := Go.Proofs.Try.f99) (code := laws_eqEdge.code) (g := laws_eqEdge.cfg) (res := [.tmp 4]) Go.Proofs.Try.func99 (by kernel_rfl) (by kernel_rfl) laws_eqEdge.ok (by kernel_rfl) (by kernel_rfl) (Nat.le_of_ble_eq_true (by kernel_rfl)) (by kernel_rfl)
/-! ### laws_eqEdgeS -/
noncomputable def laws_eqEdgeS.sig : Sig := ⟨[.val false (.sl TEdge), .val false (.sl TEdge)], [(.val false, .bool, .deep)]⟩
noncomputable def laws_eqEdgeS.ctx : Ctx := ⟨tabOf tabl, [⟨99, laws_eqEdge.sig, laws_eqEdge.F⟩], [], []⟩
noncomputable def laws_eqEdgeS.cfg : Cfg := ⟨laws_eqEdgeS.ctx, [], [], fun id => match id with | 4 => ([0, 1, 5], []) | _ => ([], [])⟩
noncomputable def laws_eqEdgeS.code : Code := (Go.Proofs.Try.f54).body.getD .skip
noncomputable def laws_eqEdgeS.fin := finK laws_eqEdgeS.ctx laws_eqEdgeS.sig [.tmp 4]
noncomputable def laws_eqEdgeS.F (d : List (Int × Int × Int) × List (Int × Int × Int) × Unit) : Option ((Bool × Unit) × (Unit)) := anyK (runFn laws_eqEdgeS.cfg laws_eqEdgeS.fin laws_eqEdgeS.code (initSt laws_eqEdgeS.sig.ps d 27))
noncomputable def laws_eqEdgeS.l4 (k : Nat) (x3 : List (Int × Int × Int)) (x4 : List (Int × Int × Int)) (i5 : Int) : Option ((Bool × Unit) × (Unit)) :=
  Go.Vm.runT laws_eqEdgeS.cfg laws_eqEdgeS.fin k [.inLoop (sub [1, 1, 0, 1, 0, 0] laws_eqEdgeS.code), .inBlock 0, .code (sub [1, 1, 1] laws_eqEdgeS.code)]
    ⟨[.val false [⟨(.sl TEdge), .sh, x3⟩], .val false [⟨(.sl TEdge), .sh, x4⟩], .dead, .dead, .dead, .val false [⟨(.int .i64), .sh, i5⟩]] ++ deads 21, []⟩
theorem laws_eqEdgeS.l4_eq (k : Nat) (x3 : List (Int × Int × Int)) (x4 : List (Int × Int × Int)) (i5 : Int) : laws_eqEdgeS.l4 (k + 1) x3 x4 i5 =
  if (decide (i5 < (x3.length : Int))) = true then
    if 0 ≤ i5 ∧ i5 < (x3.length : Int) then
      if 0 ≤ i5 ∧ i5 < (x4.length : Int) then
        (laws_eqEdge.F (x3.getD i5.toNat (0, 0, 0), x4.getD i5.toNat (0, 0, 0), ())).bind fun r6 =>
          if (!(r6.1.1 : Bool)) = true then
            some ((false, ()), ())
          else
            laws_eqEdgeS.l4 k x3 x4 (IntKind.i64.wrap (i5 + (1 : Int)))
      else
        none
    else
      none
  else
    some ((true, ()), ()) := by kernel_rfl
noncomputable def laws_eqEdgeS.T (k : Nat) (a_1 : List (Int × Int × Int)) (b_2 : List (Int × Int × Int)) : Option ((Bool × Unit) × (Unit)) :=
  if ((a_1.length : Int) != (b_2.length : Int)) = true then
    some ((false, ()), ())
  else
    laws_eqEdgeS.l4 k a_1 b_2 (0 : Int)
theorem laws_eqEdgeS.run (k : Nat) (a_1 : List (Int × Int × Int)) (b_2 : List (Int × Int × Int)) : runFn laws_eqEdgeS.cfg laws_eqEdgeS.fin laws_eqEdgeS.code (initSt laws_eqEdgeS.sig.ps (a_1, b_2, ()) 27) k = laws_eqEdgeS.T k a_1 b_2 := by kernel_rfl
theorem laws_eqEdgeS.of (a_1 : List (Int × Int × Int)) (b_2 : List (Int × Int × Int)) {r : (Bool × Unit) × (Unit)} (h : Ev (fun k => laws_eqEdgeS.T k a_1 b_2) r) : laws_eqEdgeS.F (a_1, b_2, ()) = some r := Ev.run (fun k => laws_eqEdgeS.run k a_1 b_2) h
theorem laws_eqEdgeS.ok : CtxOK Go.Proofs.Try.prog laws_eqEdgeS.ctx := ⟨List.forall_mem_nil _, mixed_ok, tab_ok tab_good, List.forall_mem_cons.2 ⟨laws_eqEdge.S, List.forall_mem_nil _⟩, List.forall_mem_nil _⟩
theorem laws_eqEdgeS.S : Sound Go.Proofs.Try.prog ⟨54, laws_eqEdgeS.sig, laws_eqEdgeS.F⟩ := sound_any (fn := Go.Proofs.Try.f54) (code := laws_eqEdgeS.code) (g := laws_eqEdgeS.cfg) (res := [.tmp 4]) Go.Proofs.Try.func54 (by kernel_rfl) (by kernel_rfl) laws_eqEdgeS.ok (by kernel_rfl) (by kernel_rfl) (Nat.le_of_ble_eq_true (by kernel_rfl)) (by kernel_rfl)
/-! ### laws_eqGraph -/
noncomputable def laws_eqGraph.sig : Sig := ⟨[.val true TGraph, .val true TGraph], [(.val false, .bool, .deep)]⟩
noncomputable def laws_eqGraph.ctx : Ctx := ⟨tabOf tabl, [⟨54, laws_eqEdgeS.sig, laws_eqEdgeS.F⟩], [], []⟩
noncomputable def laws_eqGraph.cfg : Cfg := ⟨laws_eqGraph.ctx, [], [], fun _ => ([], [])⟩
noncomputable def laws_eqGraph.code : Code := (Go.Proofs.Try.f17).body.getD .skip
noncomputable def laws_eqGraph.fin := finK laws_eqGraph.ctx laws_eqGraph.sig [.tmp 4]
noncomputable def laws_eqGraph.F (d : (Int × List (Int × Int × Int)) × (Int × List (Int × Int × Int)) × Unit) : Option ((Bool × Unit) × (Unit)) := anyK (runFn laws_eqGraph.cfg laws_eqGraph.fin laws_eqGraph.code (initSt laws_eqGraph.sig.ps d 16))
noncomputable def laws_eqGraph.T (a_1 : Int) (a_2 : List (Int × Int × Int)) (b_3 : Int) (b_4 : List (Int × Int × Int)) : Option ((Bool × Unit) × (Unit)) :=
  if (a_1 != b_3) = true then
    some ((false, ()), ())
  else
    (laws_eqEdgeS.F (a_2, b_4, ())).bind fun r5 =>
      if (!(r5.1.1 : Bool)) = true then
        some ((false, ()), ())
      else
        some ((true, ()), ())
theorem laws_eqGraph.run (k : Nat) (a_1 : Int) (a_2 : List (Int × Int × Int)) (b_3 : Int) (b_4 : List (Int × Int × Int)) : runFn laws_eqGraph.cfg laws_eqGraph.fin laws_eqGraph.code (initSt laws_eqGraph.sig.ps ((a_1, a_2), (b_3, b_4), ()) 16) k = laws_eqGraph.T a_1 a_2 b_3 b_4 := by kernel_rfl
theorem laws_eqGraph.eq (a_1 : Int) (a_2 : List (Int × Int × Int)) (b_3 : Int) (b_4 : List (Int × Int × Int)) : laws_eqGraph.F ((a_1, a_2), (b_3, b_4), ()) = laws_eqGraph.T a_1 a_2 b_3 b_4 := (congrArg anyK (funext fun k => laws_eqGraph.run k a_1 a_2 b_3 b_4)).trans (anyK_const _)
theorem laws_eqGraph.ok : CtxOK Go.Proofs.Try.prog laws_eqGraph.ctx := ⟨List.forall_mem_nil _, mixed_ok, tab_ok tab_good, List.forall_mem_cons.2 ⟨laws_eqEdgeS.S, List.forall_mem_nil _⟩, List.forall_mem_nil _⟩
theorem laws_eqGraph.S : Sound Go.Proofs.Try.prog ⟨17, laws_eqGraph.sig, laws_eqGraph.F⟩ := sound_any (fn := Go.Proofs.Try.f17) (code := laws_eqGraph.code) (g := laws_eqGraph.cfg) (res := [.tmp 4]) Go.Proofs.Try.func17 (by kernel_rfl) (by kernel_rfl) laws_eqGraph.ok (by kernel_rfl) (by kernel_rfl) (Nat.le_of_ble_eq_true (by kernel_rfl)) (by kernel_rfl)
/-! ### laws_eqInt64S -/
noncomputable def laws_eqInt64S.sig : Sig := ⟨[.val false (.sl (.int .i64)), .val false (.sl (.int .i64))], [(.val false, .bool, .deep)]⟩
noncomputable def laws_eqInt64S.ctx : Ctx := ⟨tabOf tabl, [], [], []⟩
noncomputable def laws_eqInt64S.cfg : Cfg := ⟨laws_eqInt64S.ctx, [], [], fun id => match id with | 4 => ([0, 1, 5], []) | _ => ([], [])⟩
noncomputable def laws_eqInt64S.code : Code := (Go.Proofs.Try.f18).body.getD .skip
noncomputable def laws_eqInt64S.fin := finK laws_eqInt64S.ctx laws_eqInt64S.sig [.tmp 4]
noncomputable def laws_eqInt64S.F (d : List Int × List Int × Unit) : Option ((Bool × Unit) × (Unit)) := anyK (runFn laws_eqInt64S.cfg laws_eqInt64S.fin laws_eqInt64S.code (initSt laws_eqInt64S.sig.ps d 26))
noncomputable def laws_eqInt64S.l4 (k : Nat) (x3 : List Int) (x4 : List Int) (i5 : Int) : Option ((Bool × Unit) × (Unit)) :=
  Go.Vm.runT laws_eqInt64S.cfg laws_eqInt64S.fin k [.inLoop (sub [1, 1, 0, 1, 0, 0] laws_eqInt64S.code), .inBlock 0, .code (sub [1, 1, 1] laws_eqInt64S.code)]
    ⟨[.val false [⟨(.sl (.int .i64)), .sh, x3⟩], .val false [⟨(.sl (.int .i64)), .sh, x4⟩], .dead, .dead, .dead, .val false [⟨(.int .i64), .sh, i5⟩]] ++ deads 20, []⟩
theorem laws_eqInt64S.l4_eq (k : Nat) (x3 : List Int) (x4 : List Int) (i5 : Int) : laws_eqInt64S.l4 (k + 1) x3 x4 i5 =
  if (decide (i5 < (x3.length : Int))) = true then
    if 0 ≤ i5 ∧ i5 < (x3.length : Int) then
      if 0 ≤ i5 ∧ i5 < (x4.length : Int) then
        if ((x3.getD i5.toNat 0 : Int) != (x4.getD i5.toNat 0 : Int)) = true then
          some ((false, ()), ())
        else
          laws_eqInt64S.l4 k x3 x4 (IntKind.i64.wrap (i5 + (1 : Int)))
      else
        none
    else
      none
  else
    some ((true, ()), ()) := by kernel_rfl
noncomputable def laws_eqInt64S.T (k : Nat) (a_1 : List Int) (b_2 : List Int) : Option ((Bool × Unit) × (Unit)) :=
  if ((a_1.length : Int) != (b_2.length : Int)) = true then
    some ((false, ()), ())
  else
    laws_eqInt64S.l4 k a_1 b_2 (0 : Int)
theorem laws_eqInt64S.run (k : Nat) (a_1 : List Int) (b_2 : List Int) : runFn laws_eqInt64S.cfg laws_eqInt64S.fin laws_eqInt64S.code (initSt laws_eqInt64S.sig.ps (a_1, b_2, ()) 26) k = laws_eqInt64S.T k a_1 b_2 := by kernel_rfl
theorem laws_eqInt64S.of (a_1 : List Int) (b_2 : List Int) {r : (Bool × Unit) × (Unit)} (h : Ev (fun k => laws_eqInt64S.T k a_1 b_2) r) : laws_eqInt64S.F (a_1, b_2, ()) = some r := Ev.run (fun k => laws_eqInt64S.run k a_1 b_2) h
theorem laws_eqInt64S.ok : CtxOK Go.Proofs.Try.prog laws_eqInt64S.ctx := ⟨List.forall_mem_nil _, mixed_ok, tab_ok tab_good, List.forall_mem_nil _, List.forall_mem_nil _⟩
theorem laws_eqInt64S.S : Sound Go.Proofs.Try.prog ⟨18, laws_eqInt64S.sig, laws_eqInt64S.F⟩ := sound_any (fn := Go.Proofs.Try.f18) (code := laws_eqInt64S.code) (g := laws_eqInt64S.cfg) (res := [.tmp 4]) Go.Proofs.Try.func18 (by kernel_rfl) (by kernel_rfl) laws_eqInt64S.ok (by kernel_rfl) (by kernel_rfl) (Nat.le_of_ble_eq_true (by kernel_rfl)) (by kernel_rfl)
/-! ### spec_l00In -/
noncomputable def spec_l00In.sig : Sig := ⟨[.val false (.int .i64), .val false (.int .i64), .val false (.int .i64)], [(.val false, .bool, .deep)]⟩
noncomputable def spec_l00In.ctx : Ctx := ⟨tabOf tabl, [], [], []⟩
noncomputable def spec_l00In.cfg : Cfg := ⟨spec_l00In.ctx, [], [], fun _ => ([], [])⟩
noncomputable def spec_l00In.code : Code := (Go.Proofs.Try.f90).body.getD .skip
noncomputable def spec_l00In.fin := finK spec_l00In.ctx spec_l00In.sig [.tmp 6]
noncomputable def spec_l00In.F (d : Int × Int × Int × Unit) : Option ((Bool × Unit) × (Unit)) := anyK (runFn spec_l00In.cfg spec_l00In.fin spec_l00In.code (initSt spec_l00In.sig.ps d 15))
noncomputable def spec_l00In.T (n_1 : Int) (low_2 : Int) (high_3 : Int) : Option ((Bool × Unit) × (Unit)) :=
  if (decide (n_1 ≥ low_2)) = true then
    some ((decide (n_1 ≤ high_3), ()), ())
  else
    some ((false, ()), ())
theorem spec_l00In.run (k : Nat) (n_1 : Int) (low_2 : Int) (high_3 : Int) : runFn spec_l00In.cfg spec_l00In.fin spec_l00In.code (initSt spec_l00In.sig.ps (n_1, low_2, high_3, ()) 15) k = spec_l00In.T n_1 low_2 high_3 := by kernel_rfl
theorem spec_l00In.eq (n_1 : Int) (low_2 : Int) (high_3 : Int) : spec_l00In.F (n_1, low_2, high_3, ()) = spec_l00In.T n_1 low_2 high_3 := (congrArg anyK (funext fun k => spec_l00In.run k n_1 low_2 high_3)).trans (anyK_const _)
theorem spec_l00In.ok : CtxOK Go.Proofs.Try.prog spec_l00In.ctx := ⟨List.forall_mem_nil _, mixed_ok, tab_ok tab_good, List.forall_mem_nil _, List.forall_mem_nil _⟩
theorem spec_l00In.S : Sound Go.Proofs.Try.prog ⟨90, spec_l00In.sig, spec_l00In.F⟩ := sound_any (fn := Go.Proofs.Try.f90) (code := spec_l00In.code) (g := spec_l00In.cfg) (res := [.tmp 6]) Go.Proofs.Try.func90 (by kernel_rfl) (by kernel_rfl) spec_l00In.ok (by kernel_rfl) (by kernel_rfl) (Nat.le_of_ble_eq_true (by kernel_rfl)) (by kernel_rfl)
/-! ### spec_l16Ok -/
noncomputable def spec_l16Ok.sig : Sig := ⟨[.rptr TGraph], [(.val false, .bool, .deep)]⟩
noncomputable def spec_l16Ok.ctx : Ctx := ⟨tabOf tabl, [⟨90, spec_l00In.sig, spec_l00In.F⟩], [], []⟩
noncomputable def spec_l16Ok.cfg : Cfg := ⟨spec_l16Ok.ctx, [], [], fun id => match id with | 4 => ([0, 3], []) | _ => ([], [])⟩
noncomputable def spec_l16Ok.code : Code := (Go.Proofs.Try.f47).body.getD .skip
noncomputable def spec_l16Ok.fin := finK spec_l16Ok.ctx spec_l16Ok.sig [.tmp 2]
noncomputable def spec_l16Ok.F (d : (Int × List (Int × Int × Int)) × Unit) : Option ((Bool × Unit) × (Unit)) := anyK (runFn spec_l16Ok.cfg spec_l16Ok.fin spec_l16Ok.code (initSt spec_l16Ok.sig.ps d 101))
noncomputable def spec_l16Ok.l4 (k : Nat) (i4 : Int) (x5 : List (Int × Int × Int)) (i6 : Int) : Option ((Bool × Unit) × (Unit)) :=
  Go.Vm.runT spec_l16Ok.cfg spec_l16Ok.fin k [.inLoop (sub [1, 1, 0, 1, 0, 0] spec_l16Ok.code), .inBlock 0, .code (sub [1, 1, 1] spec_l16Ok.code)]
    ⟨[.rptr [⟨(.int .i64), .sh, i4⟩, ⟨(.sl TEdge), .sh, x5⟩], .dead, .dead, .val false [⟨(.int .i64), .sh, i6⟩]] ++ deads 97, []⟩
theorem spec_l16Ok.l4_eq (k : Nat) (i4 : Int) (x5 : List (Int × Int × Int)) (i6 : Int) : spec_l16Ok.l4 (k + 1) i4 x5 i6 =
  if (decide (i6 < (x5.length : Int))) = true then
    if 0 ≤ i6 ∧ i6 < (x5.length : Int) then
      (spec_l00In.F ((((x5.getD i6.toNat (0, 0, 0)).2).1 : Int), (0 : Int), IntKind.i64.wrap (i4 - (1 : Int)), ())).bind fun r7 =>
        if (!(r7.1.1 : Bool)) = true then
          some ((false, ()), ())
        else
          (spec_l00In.F (((x5.getD i6.toNat (0, 0, 0)).1 : Int), (0 : Int), IntKind.i64.wrap ((((x5.getD i6.toNat (0, 0, 0)).2).1 : Int) - (1 : Int)), ())).bind fun r8 =>
            if (!(r8.1.1 : Bool)) = true then
              some ((false, ()), ())
            else
              (spec_l00In.F ((((x5.getD i6.toNat (0, 0, 0)).2).2 : Int), (1 : Int), (9 : Int), ())).bind fun r9 =>
                if (!(r9.1.1 : Bool)) = true then
                  some ((false, ()), ())
                else
                  if (decide (i6 > (0 : Int))) = true then
                    if 0 ≤ (IntKind.i64.wrap (i6 - (1 : Int))) ∧ (IntKind.i64.wrap (i6 - (1 : Int))) < (x5.length : Int) then
                      if (decide (((x5.getD (IntKind.i64.wrap (i6 - (1 : Int))).toNat (0, 0, 0)).1) > ((x5.getD i6.toNat (0, 0, 0)).1 : Int))) = true then
                        some ((false, ()), ())
                      else
                        if 0 ≤ (IntKind.i64.wrap (i6 - (1 : Int))) ∧ (IntKind.i64.wrap (i6 - (1 : Int))) < (x5.length : Int) then
                          if (((x5.getD (IntKind.i64.wrap (i6 - (1 : Int))).toNat (0, 0, 0)).1) == ((x5.getD i6.toNat (0, 0, 0)).1 : Int)) = true then
                            if 0 ≤ (IntKind.i64.wrap (i6 - (1 : Int))) ∧ (IntKind.i64.wrap (i6 - (1 : Int))) < (x5.length : Int) then
                              if (decide ((((x5.getD (IntKind.i64.wrap (i6 - (1 : Int))).toNat (0, 0, 0)).2).1) ≥ (((x5.getD i6.toNat (0, 0, 0)).2).1 : Int))) = true then
                                some ((false, ()), ())
                              else
                                spec_l16Ok.l4 k i4 x5 (IntKind.i64.wrap (i6 + (1 : Int)))
                            else
                              none
                          else
                            spec_l16Ok.l4 k i4 x5 (IntKind.i64.wrap (i6 + (1 : Int)))
                        else
                          none
                    else
                      none
                  else
                    spec_l16Ok.l4 k i4 x5 (IntKind.i64.wrap (i6 + (1 : Int)))
    else
      none
  else
    some ((decide ((x5.length : Int) ≤ (24 : Int)), ()), ()) := by kernel_rfl
noncomputable def spec_l16Ok.T (k : Nat) (toArray_1 : Int) (toArray_2 : List (Int × Int × Int)) : Option ((Bool × Unit) × (Unit)) :=
  (spec_l00In.F (toArray_1, (1 : Int), (12 : Int), ())).bind fun r3 =>
    if (!(r3.1.1 : Bool)) = true then
      some ((false, ()), ())
    else
      spec_l16Ok.l4 k toArray_1 toArray_2 (0 : Int)
theorem spec_l16Ok.run (k : Nat) (toArray_1 : Int) (toArray_2 : List (Int × Int × Int)) : runFn spec_l16Ok.cfg spec_l16Ok.fin spec_l16Ok.code (initSt spec_l16Ok.sig.ps ((toArray_1, toArray_2), ()) 101) k = spec_l16Ok.T k toArray_1 toArray_2 := by kernel_rfl
theorem spec_l16Ok.of (toArray_1 : Int) (toArray_2 : List (Int × Int × Int)) {r : (Bool × Unit) × (Unit)} (h : Ev (fun k => spec_l16Ok.T k toArray_1 toArray_2) r) : spec_l16Ok.F ((toArray_1, toArray_2), ()) = some r := Ev.run (fun k => spec_l16Ok.run k toArray_1 toArray_2) h
theorem spec_l16Ok.ok : CtxOK Go.Proofs.Try.prog spec_l16Ok.ctx := ⟨List.forall_mem_nil _, mixed_ok, tab_ok tab_good, List.forall_mem_cons.2 ⟨spec_l00In.S, List.forall_mem_nil _⟩, List.forall_mem_nil _⟩
theorem spec_l16Ok.S : Sound Go.Proofs.Try.prog ⟨47, spec_l16Ok.sig, spec_l16Ok.F⟩ := sound_any (fn := Go.Proofs.Try.f47) (code := spec_l16Ok.code) (g := spec_l16Ok.cfg) (res := [.tmp 2]) Go.Proofs.Try.func47 (by kernel_rfl) (by kernel_rfl) spec_l16Ok.ok (by kernel_rfl) (by kernel_rfl) (Nat.le_of_ble_eq_true (by kernel_rfl)) (by kernel_rfl)
/-! ### spec_l16Vector -/
noncomputable def spec_l16Vector.sig : Sig := ⟨[.rptr TGraph, .val false (.sl (.int .i64))], [(.val false, .bool, .deep)]⟩
noncomputable def spec_l16Vector.ctx : Ctx := ⟨tabOf tabl, [⟨90, spec_l00In.sig, spec_l00In.F⟩], [], []⟩
noncomputable def spec_l16Vector.cfg : Cfg := ⟨spec_l16Vector.ctx, [], [], fun id => match id with | 2 => ([0, 1, 5], []) | _ => ([], [])⟩
noncomputable def spec_l16Vector.code : Code := (Go.Proofs.Try.f109).body.getD .skip
noncomputable def spec_l16Vector.fin := finK spec_l16Vector.ctx spec_l16Vector.sig [.tmp 4]
noncomputable def spec_l16Vector.F (d : (Int × List (Int × Int × Int)) × List Int × Unit) : Option ((Bool × Unit) × (Unit)) := anyK (runFn spec_l16Vector.cfg spec_l16Vector.fin spec_l16Vector.code (initSt spec_l16Vector.sig.ps d 25))
noncomputable def spec_l16Vector.l2 (k : Nat) (i4 : Int) (x5 : List (Int × Int × Int)) (x6 : List Int) (i7 : Int) : Option ((Bool × Unit) × (Unit)) :=
  Go.Vm.runT spec_l16Vector.cfg spec_l16Vector.fin k [.inLoop (sub [1, 0, 1, 0, 0] spec_l16Vector.code), .inBlock 0, .code (sub [1, 1] spec_l16Vector.code)]
    ⟨[.rptr [⟨(.int .i64), .sh, i4⟩, ⟨(.sl TEdge), .sh, x5⟩], .val false [⟨(.sl (.int .i64)), .sh, x6⟩], .dead, .dead, .dead, .val false [⟨(.int .i64), .sh, i7⟩]] ++ deads 19, []⟩
theorem spec_l16Vector.l2_eq (k : Nat) (i4 : Int) (x5 : List (Int × Int × Int)) (x6 : List Int) (i7 : Int) : spec_l16Vector.l2 (k + 1) i4 x5 x6 i7 =
  if (decide (i7 < (x6.length : Int))) = true then
    if 0 ≤ i7 ∧ i7 < (x6.length : Int) then
      (spec_l00In.F ((x6.getD i7.toNat 0 : Int), (-1000000 : Int), (1000000 : Int), ())).bind fun r8 =>
        if (!(r8.1.1 : Bool)) = true then
          some ((false, ()), ())
        else
          spec_l16Vector.l2 k i4 x5 x6 (IntKind.i64.wrap (i7 + (1 : Int)))
    else
      none
  else
    some (((x6.length : Int) == i4, ()), ()) := by kernel_rfl
noncomputable def spec_l16Vector.T (k : Nat) (g_1 : Int) (g_2 : List (Int × Int × Int)) (x_3 : List Int) : Option ((Bool × Unit) × (Unit)) :=
  spec_l16Vector.l2 k g_1 g_2 x_3 (0 : Int)
theorem spec_l16Vector.run (k : Nat) (g_1 : Int) (g_2 : List (Int × Int × Int)) (x_3 : List Int) : runFn spec_l16Vector.cfg spec_l16Vector.fin spec_l16Vector.code (initSt spec_l16Vector.sig.ps ((g_1, g_2), x_3, ()) 25) k = spec_l16Vector.T k g_1 g_2 x_3 := by kernel_rfl
theorem spec_l16Vector.of (g_1 : Int) (g_2 : List (Int × Int × Int)) (x_3 : List Int) {r : (Bool × Unit) × (Unit)} (h : Ev (fun k => spec_l16Vector.T k g_1 g_2 x_3) r) : spec_l16Vector.F ((g_1, g_2), x_3, ()) = some r := Ev.run (fun k => spec_l16Vector.run k g_1 g_2 x_3) h
theorem spec_l16Vector.ok : CtxOK Go.Proofs.Try.prog spec_l16Vector.ctx := ⟨List.forall_mem_nil _, mixed_ok, tab_ok tab_good, List.forall_mem_cons.2 ⟨spec_l00In.S, List.forall_mem_nil _⟩, List.forall_mem_nil _⟩
theorem spec_l16Vector.S : Sound Go.Proofs.Try.prog ⟨109, spec_l16Vector.sig, spec_l16Vector.F⟩ := sound_any (fn := Go.Proofs.Try.f109) (code := spec_l16Vector.code) (g := spec_l16Vector.cfg) (res := [.tmp 4]) Go.Proofs.Try.func109 (by kernel_rfl) (by kernel_rfl) spec_l16Vector.ok (by kernel_rfl) (by kernel_rfl) (Nat.le_of_ble_eq_true (by kernel_rfl)) (by kernel_rfl)
/-! ### spec_l16Ask -/
noncomputable def spec_l16Ask.sig : Sig := ⟨[.rptr TGraph, .val false (.sl (.int .i64))], [(.val false, (.int .i64), .deep)]⟩
noncomputable def spec_l16Ask.ctx : Ctx := ⟨tabOf tabl, [⟨47, spec_l16Ok.sig, spec_l16Ok.F⟩, ⟨109, spec_l16Vector.sig, spec_l16Vector.F⟩], [], []⟩
noncomputable def spec_l16Ask.cfg : Cfg := ⟨spec_l16Ask.ctx, [], [], fun _ => ([], [])⟩
noncomputable def spec_l16Ask.code : Code := (Go.Proofs.Try.f61).body.getD .skip
noncomputable def spec_l16Ask.fin := finK spec_l16Ask.ctx spec_l16Ask.sig [.tmp 4]
noncomputable def spec_l16Ask.F (d : (Int × List (Int × Int × Int)) × List Int × Unit) : Option ((Int × Unit) × (Unit)) := anyK (runFn spec_l16Ask.cfg spec_l16Ask.fin spec_l16Ask.code (initSt spec_l16Ask.sig.ps d 12))
noncomputable def spec_l16Ask.T (g_1 : Int) (g_2 : List (Int × Int × Int)) (x_3 : List Int) : Option ((Int × Unit) × (Unit)) :=
  (spec_l16Ok.F ((g_1, g_2), ())).bind fun r4 =>
    if (!(r4.1.1 : Bool)) = true then
      some (((1 : Int), ()), ())
    else
      (spec_l16Vector.F ((g_1, g_2), x_3, ())).bind fun r5 =>
        if (!(r5.1.1 : Bool)) = true then
          some (((2 : Int), ()), ())
        else
          some (((0 : Int), ()), ())
theorem spec_l16Ask.run (k : Nat) (g_1 : Int) (g_2 : List (Int × Int × Int)) (x_3 : List Int) : runFn spec_l16Ask.cfg spec_l16Ask.fin spec_l16Ask.code (initSt spec_l16Ask.sig.ps ((g_1, g_2), x_3, ()) 12) k = spec_l16Ask.T g_1 g_2 x_3 := by kernel_rfl
theorem spec_l16Ask.eq (g_1 : Int) (g_2 : List (Int × Int × Int)) (x_3 : List Int) : spec_l16Ask.F ((g_1, g_2), x_3, ()) = spec_l16Ask.T g_1 g_2 x_3 := (congrArg anyK (funext fun k => spec_l16Ask.run k g_1 g_2 x_3)).trans (anyK_const _)
theorem spec_l16Ask.ok : CtxOK Go.Proofs.Try.prog spec_l16Ask.ctx := ⟨List.forall_mem_nil _, mixed_ok, tab_ok tab_good, List.forall_mem_cons.2 ⟨spec_l16Ok.S, List.forall_mem_cons.2 ⟨spec_l16Vector.S, List.forall_mem_nil _⟩⟩, List.forall_mem_nil _⟩
theorem spec_l16Ask.S : Sound Go.Proofs.Try.prog ⟨61, spec_l16Ask.sig, spec_l16Ask.F⟩ := sound_any (fn := Go.Proofs.Try.f61) (code := spec_l16Ask.code) (g := spec_l16Ask.cfg) (res := [.tmp 4]) Go.Proofs.Try.func61 (by kernel_rfl) (by kernel_rfl) spec_l16Ask.ok (by kernel_rfl) (by kernel_rfl) (Nat.le_of_ble_eq_true (by kernel_rfl)) (by kernel_rfl)
/-! ### spec_l16Apply -/
noncomputable def spec_l16Apply.sig : Sig := ⟨[.rptr TGraph, .val false (.sl (.int .i64))], [(.val false, (.sl (.int .i64)), .deep)]⟩
noncomputable def spec_l16Apply.ctx : Ctx := ⟨tabOf tabl, [], [], []⟩
noncomputable def spec_l16Apply.cfg : Cfg := ⟨spec_l16Apply.ctx, [], [], fun id => match id with | 3 => ([0, 1, 5, 6], [20]) | _ => ([], [])⟩
noncomputable def spec_l16Apply.code : Code := (Go.Proofs.Try.f62).body.getD .skip
noncomputable def spec_l16Apply.fin := finK spec_l16Apply.ctx spec_l16Apply.sig [.tmp 4]
noncomputable def spec_l16Apply.F (d : (Int × List (Int × Int × Int)) × List Int × Unit) : Option ((List Int × Unit) × (Unit)) := anyK (runFn spec_l16Apply.cfg spec_l16Apply.fin spec_l16Apply.code (initSt spec_l16Apply.sig.ps d 61))
noncomputable def spec_l16Apply.l3 (k : Nat) (i4 : Int) (x5 : List (Int × Int × Int)) (x6 : List Int) (i7 : Int) (x8 : List Int) : Option ((List Int × Unit) × (Unit)) :=
  Go.Vm.runT spec_l16Apply.cfg spec_l16Apply.fin k [.inLoop (sub [1, 1, 0, 1, 0, 0] spec_l16Apply.code), .inBlock 0, .code (sub [1, 1, 1] spec_l16Apply.code)]
    ⟨[.rptr [⟨(.int .i64), .sh, i4⟩, ⟨(.sl TEdge), .sh, x5⟩], .val false [⟨(.sl (.int .i64)), .sh, x6⟩], .dead, .dead, .dead, .view 20 (.root 0) 1 false, .val false [⟨(.int .i64), .sh, i7⟩]] ++ deads 54, [(20, ⟨false, [⟨(.sl (.int .i64)), .deep, x8⟩]⟩)]⟩
theorem spec_l16Apply.l3_eq (k : Nat) (i4 : Int) (x5 : List (Int × Int × Int)) (x6 : List Int) (i7 : Int) (x8 : List Int) : spec_l16Apply.l3 (k + 1) i4 x5 x6 i7 x8 =
  if (decide (i7 < (x5.length : Int))) = true then
    if 0 ≤ i7 ∧ i7 < (x5.length : Int) then
      if 0 ≤ ((x5.getD i7.toNat (0, 0, 0)).1 : Int) ∧ ((x5.getD i7.toNat (0, 0, 0)).1 : Int) < (x6.length : Int) then
        if 0 ≤ (((x5.getD i7.toNat (0, 0, 0)).2).1 : Int) ∧ (((x5.getD i7.toNat (0, 0, 0)).2).1 : Int) < (x6.length : Int) then
          if 0 ≤ ((x5.getD i7.toNat (0, 0, 0)).1 : Int) ∧ ((x5.getD i7.toNat (0, 0, 0)).1 : Int) < (x8.length : Int) then
            if 0 ≤ ((x5.getD i7.toNat (0, 0, 0)).1 : Int) ∧ ((x5.getD i7.toNat (0, 0, 0)).1 : Int) < (x8.length : Int) then
              let y9 : List Int := x8.set ((x5.getD i7.toNat (0, 0, 0)).1 : Int).toNat (IntKind.i64.wrap ((x8.getD ((x5.getD i7.toNat (0, 0, 0)).1 : Int).toNat 0) + (IntKind.i64.wrap ((((x5.getD i7.toNat (0, 0, 0)).2).2 : Int) * (IntKind.i64.wrap ((x6.getD ((x5.getD i7.toNat (0, 0, 0)).1 : Int).toNat 0) - (x6.getD (((x5.getD i7.toNat (0, 0, 0)).2).1 : Int).toNat 0)))))))
              if 0 ≤ (((x5.getD i7.toNat (0, 0, 0)).2).1 : Int) ∧ (((x5.getD i7.toNat (0, 0, 0)).2).1 : Int) < (y9.length : Int) then
                if 0 ≤ (((x5.getD i7.toNat (0, 0, 0)).2).1 : Int) ∧ (((x5.getD i7.toNat (0, 0, 0)).2).1 : Int) < (y9.length : Int) then
                  let y10 : List Int := y9.set (((x5.getD i7.toNat (0, 0, 0)).2).1 : Int).toNat (IntKind.i64.wrap ((y9.getD (((x5.getD i7.toNat (0, 0, 0)).2).1 : Int).toNat 0) - (IntKind.i64.wrap ((((x5.getD i7.toNat (0, 0, 0)).2).2 : Int) * (IntKind.i64.wrap ((x6.getD ((x5.getD i7.toNat (0, 0, 0)).1 : Int).toNat 0) - (x6.getD (((x5.getD i7.toNat (0, 0, 0)).2).1 : Int).toNat 0)))))))
                  spec_l16Apply.l3 k i4 x5 x6 (IntKind.i64.wrap (i7 + (1 : Int))) y10
                else
                  none
              else
                none
            else
              none
          else
            none
        else
          none
      else
        none
    else
      none
  else
    some ((x8, ()), ()) := by kernel_rfl
noncomputable def spec_l16Apply.T (k : Nat) (g_1 : Int) (g_2 : List (Int × Int × Int)) (x_3 : List Int) : Option ((List Int × Unit) × (Unit)) :=
  if 0 ≤ g_1 ∧ g_1 ≤ (bigN : Int) then
    spec_l16Apply.l3 k g_1 g_2 x_3 (0 : Int) (List.replicate g_1.toNat 0)
  else
    none
theorem spec_l16Apply.run (k : Nat) (g_1 : Int) (g_2 : List (Int × Int × Int)) (x_3 : List Int) : runFn spec_l16Apply.cfg spec_l16Apply.fin spec_l16Apply.code (initSt spec_l16Apply.sig.ps ((g_1, g_2), x_3, ()) 61) k = spec_l16Apply.T k g_1 g_2 x_3 := by kernel_rfl
theorem spec_l16Apply.of (g_1 : Int) (g_2 : List (Int × Int × Int)) (x_3 : List Int) {r : (List Int × Unit) × (Unit)} (h : Ev (fun k => spec_l16Apply.T k g_1 g_2 x_3) r) : spec_l16Apply.F ((g_1, g_2), x_3, ()) = some r := Ev.run (fun k => spec_l16Apply.run k g_1 g_2 x_3) h
theorem spec_l16Apply.ok : CtxOK Go.Proofs.Try.prog spec_l16Apply.ctx := ⟨List.forall_mem_nil _, mixed_ok, tab_ok tab_good, List.forall_mem_nil _, List.forall_mem_nil _⟩
theorem spec_l16Apply.S : Sound Go.Proofs.Try.prog ⟨62, spec_l16Apply.sig, spec_l16Apply.F⟩ := sound_any (fn := Go.Proofs.Try.f62) (code := spec_l16Apply.code) (g := spec_l16Apply.cfg) (res := [.tmp 4]) Go.Proofs.Try.func62 (by kernel_rfl) (by kernel_rfl) spec_l16Apply.ok (by kernel_rfl) (by kernel_rfl) (Nat.le_of_ble_eq_true (by kernel_rfl)) (by kernel_rfl)
/-! ### spec_ApplyLaplacian -/
noncomputable def spec_ApplyLaplacian.sig : Sig := ⟨[.val true TGraph, .val false (.sl (.int .i64))], [(.val false, (.sl (.int .i64)), .deep), (.val false, (.int .i64), .deep)]⟩
noncomputable def spec_ApplyLaplacian.ctx : Ctx := ⟨tabOf tabl, [⟨61, spec_l16Ask.sig, spec_l16Ask.F⟩, ⟨62, spec_l16Apply.sig, spec_l16Apply.F⟩], [], []⟩
noncomputable def spec_ApplyLaplacian.cfg : Cfg := ⟨spec_ApplyLaplacian.ctx, [], [], fun _ => ([], [])⟩
noncomputable def spec_ApplyLaplacian.code : Code := (Go.Proofs.Try.f24).body.getD .skip
noncomputable def spec_ApplyLaplacian.fin := finK spec_ApplyLaplacian.ctx spec_ApplyLaplacian.sig [.tmp 4, .tmp 5]
noncomputable def spec_ApplyLaplacian.F (d : (Int × List (Int × Int × Int)) × List Int × Unit) : Option ((List Int × Int × Unit) × (Unit)) := anyK (runFn spec_ApplyLaplacian.cfg spec_ApplyLaplacian.fin spec_ApplyLaplacian.code (initSt spec_ApplyLaplacian.sig.ps d 14))
noncomputable def spec_ApplyLaplacian.T (g_1 : Int) (g_2 : List (Int × Int × Int)) (x_3 : List Int) : Option ((List Int × Int × Unit) × (Unit)) :=
  (spec_l16Ask.F ((g_1, g_2), x_3, ())).bind fun r4 =>
    if ((r4.1.1 : Int) != (0 : Int)) = true then
      some (([], ((r4.1.1 : Int), ())), ())
    else
      (spec_l16Apply.F ((g_1, g_2), x_3, ())).bind fun r5 =>
        some ((r5.1.1, ((0 : Int), ())), ())
theorem spec_ApplyLaplacian.run (k : Nat) (g_1 : Int) (g_2 : List (Int × Int × Int)) (x_3 : List Int) : runFn spec_ApplyLaplacian.cfg spec_ApplyLaplacian.fin spec_ApplyLaplacian.code (initSt spec_ApplyLaplacian.sig.ps ((g_1, g_2), x_3, ()) 14) k = spec_ApplyLaplacian.T g_1 g_2 x_3 := by kernel_rfl
theorem spec_ApplyLaplacian.eq (g_1 : Int) (g_2 : List (Int × Int × Int)) (x_3 : List Int) : spec_ApplyLaplacian.F ((g_1, g_2), x_3, ()) = spec_ApplyLaplacian.T g_1 g_2 x_3 := (congrArg anyK (funext fun k => spec_ApplyLaplacian.run k g_1 g_2 x_3)).trans (anyK_const _)
theorem spec_ApplyLaplacian.ok : CtxOK Go.Proofs.Try.prog spec_ApplyLaplacian.ctx := ⟨List.forall_mem_nil _, mixed_ok, tab_ok tab_good, List.forall_mem_cons.2 ⟨spec_l16Ask.S, List.forall_mem_cons.2 ⟨spec_l16Apply.S, List.forall_mem_nil _⟩⟩, List.forall_mem_nil _⟩
theorem spec_ApplyLaplacian.S : Sound Go.Proofs.Try.prog ⟨24, spec_ApplyLaplacian.sig, spec_ApplyLaplacian.F⟩ := sound_any (fn := Go.Proofs.Try.f24) (code := spec_ApplyLaplacian.code) (g := spec_ApplyLaplacian.cfg) (res := [.tmp 4, .tmp 5]) Go.Proofs.Try.func24 (by kernel_rfl) (by kernel_rfl) spec_ApplyLaplacian.ok (by kernel_rfl) (by kernel_rfl) (Nat.le_of_ble_eq_true (by kernel_rfl)) (by kernel_rfl)
/-! ### impl_within -/
noncomputable def impl_within.sig : Sig := ⟨[.val false (.int .i64), .val false (.int .i64), .val false (.int .i64)], [(.val false, .bool, .deep)]⟩
noncomputable def impl_within.ctx : Ctx := ⟨tabOf tabl, [], [], []⟩
noncomputable def impl_within.cfg : Cfg := ⟨impl_within.ctx, [], [], fun _ => ([], [])⟩
noncomputable def impl_within.code : Code := (Go.Proofs.Try.f94).body.getD .skip
noncomputable def impl_within.fin := finK impl_within.ctx impl_within.sig [.tmp 6]
noncomputable def impl_within.F (d : Int × Int × Int × Unit) : Option ((Bool × Unit) × (Unit)) := anyK (runFn impl_within.cfg impl_within.fin impl_within.code (initSt impl_within.sig.ps d 15))
noncomputable def impl_within.T (n_1 : Int) (low_2 : Int) (high_3 : Int) : Option ((Bool × Unit) × (Unit)) :=
  if (decide (n_1 ≥ low_2)) = true then
    some ((decide (n_1 ≤ high_3), ()), ())
  else
    some ((false, ()), ())
theorem impl_within.run (k : Nat) (n_1 : Int) (low_2 : Int) (high_3 : Int) : runFn impl_within.cfg impl_within.fin impl_within.code (initSt impl_within.sig.ps (n_1, low_2, high_3, ()) 15) k = impl_within.T n_1 low_2 high_3 := by kernel_rfl
theorem impl_within.eq (n_1 : Int) (low_2 : Int) (high_3 : Int) : impl_within.F (n_1, low_2, high_3, ()) = impl_within.T n_1 low_2 high_3 := (congrArg anyK (funext fun k => impl_within.run k n_1 low_2 high_3)).trans (anyK_const _)
theorem impl_within.ok : CtxOK Go.Proofs.Try.prog impl_within.ctx := ⟨List.forall_mem_nil _, mixed_ok, tab_ok tab_good, List.forall_mem_nil _, List.forall_mem_nil _⟩
theorem impl_within.S : Sound Go.Proofs.Try.prog ⟨94, impl_within.sig, impl_within.F⟩ := sound_any (fn := Go.Proofs.Try.f94) (code := impl_within.code) (g := impl_within.cfg) (res := [.tmp 6]) Go.Proofs.Try.func94 (by kernel_rfl) (by kernel_rfl) impl_within.ok (by kernel_rfl) (by kernel_rfl) (Nat.le_of_ble_eq_true (by kernel_rfl)) (by kernel_rfl)
/-! ### cmp_Or_int -/
noncomputable def cmp_Or_int.sig : Sig := ⟨[.val false (.sl (.int .i64))], [(.val false, (.int .i64), .deep)]⟩
noncomputable def cmp_Or_int.ctx : Ctx := ⟨tabOf tabl, [], [], []⟩
noncomputable def cmp_Or_int.cfg : Cfg := ⟨cmp_Or_int.ctx, [], [], fun id => match id with | 3 => ([3, 6, 7, 8], []) | _ => ([], [])⟩
noncomputable def cmp_Or_int.code : Code := (Go.Proofs.Try.f145).body.getD .skip
noncomputable def cmp_Or_int.fin := finK cmp_Or_int.ctx cmp_Or_int.sig [.tmp 2]
noncomputable def cmp_Or_int.F (d : List Int × Unit) : Option ((Int × Unit) × (Unit)) := anyK (runFn cmp_Or_int.cfg cmp_Or_int.fin cmp_Or_int.code (initSt cmp_Or_int.sig.ps d 18))
noncomputable def cmp_Or_int.l3 (k : Nat) (i2 : Int) (x3 : List Int) (i4 : Int) (i5 : Int) : Option ((Int × Unit) × (Unit)) :=
  Go.Vm.runT cmp_Or_int.cfg cmp_Or_int.fin k [.inLoop (sub [1, 1, 0, 1, 0, 0] cmp_Or_int.code), .inBlock 0, .code (sub [1, 1, 1] cmp_Or_int.code)]
    ⟨[.dead, .dead, .dead, .val false [⟨(.int .i64), .sh, i2⟩], .dead, .dead, .val false [⟨(.sl (.int .i64)), .sh, x3⟩], .val false [⟨(.int .i64), .sh, i4⟩], .val false [⟨(.int .i64), .sh, i5⟩]] ++ deads 9, []⟩
theorem cmp_Or_int.l3_eq (k : Nat) (i2 : Int) (x3 : List Int) (i4 : Int) (i5 : Int) : cmp_Or_int.l3 (k + 1) i2 x3 i4 i5 =
  if (decide (i5 < i4)) = true then
    if 0 ≤ i5 ∧ i5 < (x3.length : Int) then
      if ((x3.getD i5.toNat 0 : Int) != i2) = true then
        some (((x3.getD i5.toNat 0 : Int), ()), ())
      else
        cmp_Or_int.l3 k i2 x3 i4 (IntKind.i64.wrap (i5 + (1 : Int)))
    else
      none
  else
    some ((i2, ()), ()) := by kernel_rfl
noncomputable def cmp_Or_int.T (k : Nat) (vals_1 : List Int) : Option ((Int × Unit) × (Unit)) :=
  cmp_Or_int.l3 k (0 : Int) vals_1 (vals_1.length : Int) (0 : Int)
theorem cmp_Or_int.run (k : Nat) (vals_1 : List Int) : runFn cmp_Or_int.cfg cmp_Or_int.fin cmp_Or_int.code (initSt cmp_Or_int.sig.ps (vals_1, ()) 18) k = cmp_Or_int.T k vals_1 := by kernel_rfl
theorem cmp_Or_int.of (vals_1 : List Int) {r : (Int × Unit) × (Unit)} (h : Ev (fun k => cmp_Or_int.T k vals_1) r) : cmp_Or_int.F (vals_1, ()) = some r := Ev.run (fun k => cmp_Or_int.run k vals_1) h
theorem cmp_Or_int.ok : CtxOK Go.Proofs.Try.prog cmp_Or_int.ctx := ⟨List.forall_mem_nil _, mixed_ok, tab_ok tab_good, List.forall_mem_nil _, List.forall_mem_nil _⟩
theorem cmp_Or_int.S : Sound Go.Proofs.Try.prog ⟨145, cmp_Or_int.sig, cmp_Or_int.F⟩ := sound_any (fn := Go.Proofs.Try.f145) (code := cmp_Or_int.code) (g := cmp_Or_int.cfg) (res := [.tmp 2]) Go.Proofs.Try.func145 (by kernel_rfl) (by kernel_rfl) cmp_Or_int.ok (by kernel_rfl) (by kernel_rfl) (Nat.le_of_ble_eq_true (by kernel_rfl)) (by kernel_rfl)
/-! ### cmp_isNaN_int64 -/
noncomputable def cmp_isNaN_int64.sig : Sig := ⟨[.val false (.int .i64)], [(.val false, .bool, .deep)]⟩
noncomputable def cmp_isNaN_int64.ctx : Ctx := ⟨tabOf tabl, [], [], []⟩
noncomputable def cmp_isNaN_int64.cfg : Cfg := ⟨cmp_isNaN_int64.ctx, [], [], fun _ => ([], [])⟩
noncomputable def cmp_isNaN_int64.code : Code := (Go.Proofs.Try.f180).body.getD .skip
noncomputable def cmp_isNaN_int64.fin := finK cmp_isNaN_int64.ctx cmp_isNaN_int64.sig [.tmp 2]
noncomputable def cmp_isNaN_int64.F (d : Int × Unit) : Option ((Bool × Unit) × (Unit)) := anyK (runFn cmp_isNaN_int64.cfg cmp_isNaN_int64.fin cmp_isNaN_int64.code (initSt cmp_isNaN_int64.sig.ps d 6))
noncomputable def cmp_isNaN_int64.T (x_1 : Int) : Option ((Bool × Unit) × (Unit)) :=
  some ((x_1 != x_1, ()), ())
theorem cmp_isNaN_int64.run (k : Nat) (x_1 : Int) : runFn cmp_isNaN_int64.cfg cmp_isNaN_int64.fin cmp_isNaN_int64.code (initSt cmp_isNaN_int64.sig.ps (x_1, ()) 6) k = cmp_isNaN_int64.T x_1 := by kernel_rfl
theorem cmp_isNaN_int64.eq (x_1 : Int) : cmp_isNaN_int64.F (x_1, ()) = cmp_isNaN_int64.T x_1 := (congrArg anyK (funext fun k => cmp_isNaN_int64.run k x_1)).trans (anyK_const _)
theorem cmp_isNaN_int64.ok : CtxOK Go.Proofs.Try.prog cmp_isNaN_int64.ctx := ⟨List.forall_mem_nil _, mixed_ok, tab_ok tab_good, List.forall_mem_nil _, List.forall_mem_nil _⟩
theorem cmp_isNaN_int64.S : Sound Go.Proofs.Try.prog ⟨180, cmp_isNaN_int64.sig, cmp_isNaN_int64.F⟩ := sound_any (fn := Go.Proofs.Try.f180) (code := cmp_isNaN_int64.code) (g := cmp_isNaN_int64.cfg) (res := [.tmp 2]) Go.Proofs.Try.func180 (by kernel_rfl) (by kernel_rfl) cmp_isNaN_int64.ok (by kernel_rfl) (by kernel_rfl) (Nat.le_of_ble_eq_true (by kernel_rfl)) (by kernel_rfl)
/-! ### cmp_Compare_int64 -/
noncomputable def cmp_Compare_int64.sig : Sig := ⟨[.val false (.int .i64), .val false (.int .i64)], [(.val false, (.int .i64), .deep)]⟩
noncomputable def cmp_Compare_int64.ctx : Ctx := ⟨tabOf tabl, [⟨180, cmp_isNaN_int64.sig, cmp_isNaN_int64.F⟩], [], []⟩
noncomputable def cmp_Compare_int64.cfg : Cfg := ⟨cmp_Compare_int64.ctx, [], [], fun _ => ([], [])⟩
noncomputable def cmp_Compare_int64.code : Code := (Go.Proofs.Try.f146).body.getD .skip
noncomputable def cmp_Compare_int64.fin := finK cmp_Compare_int64.ctx cmp_Compare_int64.sig [.tmp 4]
noncomputable def cmp_Compare_int64.F (d : Int × Int × Unit) : Option ((Int × Unit) × (Unit)) := anyK (runFn cmp_Compare_int64.cfg cmp_Compare_int64.fin cmp_Compare_int64.code (initSt cmp_Compare_int64.sig.ps d 20))
noncomputable def cmp_Compare_int64.T (x_1 : Int) (y_2 : Int) : Option ((Int × Unit) × (Unit)) :=
  (cmp_isNaN_int64.F (x_1, ())).bind fun r3 =>
    (cmp_isNaN_int64.F (y_2, ())).bind fun r4 =>
      if (r3.1.1 : Bool) = true then
        if (r4.1.1 : Bool) = true then
          some (((0 : Int), ()), ())
        else
          some (((-1 : Int), ()), ())
      else
        if (r4.1.1 : Bool) = true then
          some (((1 : Int), ()), ())
        else
          if (decide (x_1 < y_2)) = true then
            some (((-1 : Int), ()), ())
          else
            if (decide (x_1 > y_2)) = true then
              some (((1 : Int), ()), ())
            else
              some (((0 : Int), ()), ())
theorem cmp_Compare_int64.run (k : Nat) (x_1 : Int) (y_2 : Int) : runFn cmp_Compare_int64.cfg cmp_Compare_int64.fin cmp_Compare_int64.code (initSt cmp_Compare_int64.sig.ps (x_1, y_2, ()) 20) k = cmp_Compare_int64.T x_1 y_2 := by kernel_rfl
theorem cmp_Compare_int64.eq (x_1 : Int) (y_2 : Int) : cmp_Compare_int64.F (x_1, y_2, ()) = cmp_Compare_int64.T x_1 y_2 := (congrArg anyK (funext fun k => cmp_Compare_int64.run k x_1 y_2)).trans (anyK_const _)
theorem cmp_Compare_int64.ok : CtxOK Go.Proofs.Try.prog cmp_Compare_int64.ctx := ⟨List.forall_mem_nil _, mixed_ok, tab_ok tab_good, List.forall_mem_cons.2 ⟨cmp_isNaN_int64.S, List.forall_mem_nil _⟩, List.forall_mem_nil _⟩
theorem cmp_Compare_int64.S : Sound Go.Proofs.Try.prog ⟨146, cmp_Compare_int64.sig, cmp_Compare_int64.F⟩ := sound_any (fn := Go.Proofs.Try.f146) (code := cmp_Compare_int64.code) (g := cmp_Compare_int64.cfg) (res := [.tmp 4]) Go.Proofs.Try.func146 (by kernel_rfl) (by kernel_rfl) cmp_Compare_int64.ok (by kernel_rfl) (by kernel_rfl) (Nat.le_of_ble_eq_true (by kernel_rfl)) (by kernel_rfl)
/-! ### impl_compareEdges -/
noncomputable def impl_compareEdges.sig : Sig := ⟨[.val true TEdge, .val true TEdge], [(.val false, (.int .i64), .deep)]⟩
noncomputable def impl_compareEdges.ctx : Ctx := ⟨tabOf tabl, [⟨145, cmp_Or_int.sig, cmp_Or_int.F⟩, ⟨146, cmp_Compare_int64.sig, cmp_Compare_int64.F⟩], [], []⟩
noncomputable def impl_compareEdges.cfg : Cfg := ⟨impl_compareEdges.ctx, [], [], fun _ => ([], [])⟩
noncomputable def impl_compareEdges.code : Code := (Go.Proofs.Try.f95).body.getD .skip
noncomputable def impl_compareEdges.fin := finK impl_compareEdges.ctx impl_compareEdges.sig [.tmp 4]
noncomputable def impl_compareEdges.F (d : (Int × Int × Int) × (Int × Int × Int) × Unit) : Option ((Int × Unit) × (Unit)) := anyK (runFn impl_compareEdges.cfg impl_compareEdges.fin impl_compareEdges.code (initSt impl_compareEdges.sig.ps d 17))
noncomputable def impl_compareEdges.T (a_1 : Int) (a_2 : Int) (a_3 : Int) (b_4 : Int) (b_5 : Int) (b_6 : Int) : Option ((Int × Unit) × (Unit)) :=
  (cmp_Compare_int64.F (a_1, b_4, ())).bind fun r7 =>
    (cmp_Compare_int64.F (a_2, b_5, ())).bind fun r8 =>
      (cmp_Or_int.F ([(r7.1.1 : Int), (r8.1.1 : Int)], ())).bind fun r9 =>
        some (((r9.1.1 : Int), ()), ())
theorem impl_compareEdges.run (k : Nat) (a_1 : Int) (a_2 : Int) (a_3 : Int) (b_4 : Int) (b_5 : Int) (b_6 : Int) : runFn impl_compareEdges.cfg impl_compareEdges.fin impl_compareEdges.code (initSt impl_compareEdges.sig.ps ((a_1, (a_2, a_3)), (b_4, (b_5, b_6)), ()) 17) k = impl_compareEdges.T a_1 a_2 a_3 b_4 b_5 b_6 := by kernel_rfl
theorem impl_compareEdges.eq (a_1 : Int) (a_2 : Int) (a_3 : Int) (b_4 : Int) (b_5 : Int) (b_6 : Int) : impl_compareEdges.F ((a_1, (a_2, a_3)), (b_4, (b_5, b_6)), ()) = impl_compareEdges.T a_1 a_2 a_3 b_4 b_5 b_6 := (congrArg anyK (funext fun k => impl_compareEdges.run k a_1 a_2 a_3 b_4 b_5 b_6)).trans (anyK_const _)
theorem impl_compareEdges.ok : CtxOK Go.Proofs.Try.prog impl_compareEdges.ctx := ⟨List.forall_mem_nil _, mixed_ok, tab_ok tab_good, List.forall_mem_cons.2 ⟨cmp_Or_int.S, List.forall_mem_cons.2 ⟨cmp_Compare_int64.S, List.forall_mem_nil _⟩⟩, List.forall_mem_nil _⟩
theorem impl_compareEdges.S : Sound Go.Proofs.Try.prog ⟨95, impl_compareEdges.sig, impl_compareEdges.F⟩ := sound_any (fn := Go.Proofs.Try.f95) (code := impl_compareEdges.code) (g := impl_compareEdges.cfg) (res := [.tmp 4]) Go.Proofs.Try.func95 (by kernel_rfl) (by kernel_rfl) impl_compareEdges.ok (by kernel_rfl) (by kernel_rfl) (Nat.le_of_ble_eq_true (by kernel_rfl)) (by kernel_rfl)
/-! ### impl_ValidGraph -/
noncomputable def impl_ValidGraph.sig : Sig := ⟨[.val true TGraph], [(.val false, .bool, .deep)]⟩
noncomputable def impl_ValidGraph.ctx : Ctx := ⟨tabOf tabl, [⟨94, impl_within.sig, impl_within.F⟩, ⟨95, impl_compareEdges.sig, impl_compareEdges.F⟩], [], []⟩
noncomputable def impl_ValidGraph.cfg : Cfg := ⟨impl_ValidGraph.ctx, [], [], fun id => match id with | 2 => ([1, 6, 7, 8], [4]) | _ => ([], [])⟩
noncomputable def impl_ValidGraph.code : Code := (Go.Proofs.Try.f51).body.getD .skip
noncomputable def impl_ValidGraph.fin := finK impl_ValidGraph.ctx impl_ValidGraph.sig [.tmp 2]
noncomputable def impl_ValidGraph.F (d : (Int × List (Int × Int × Int)) × Unit) : Option ((Bool × Unit) × (Unit)) := anyK (runFn impl_ValidGraph.cfg impl_ValidGraph.fin impl_ValidGraph.code (initSt impl_ValidGraph.sig.ps d 61))
noncomputable def impl_ValidGraph.l2 (k : Nat) (x3 : List (Int × Int × Int)) (i4 : Int) (i5 : Int) (i6 : Int) (x7 : List (Int × Int × Int)) : Option ((Bool × Unit) × (Unit)) :=
  Go.Vm.runT impl_ValidGraph.cfg impl_ValidGraph.fin k [.inLoop (sub [1, 0, 1, 0, 0] impl_ValidGraph.code), .inBlock 0, .code (sub [1, 1] impl_ValidGraph.code)]
    ⟨[.dead, .ref 4 (.root 0), .dead, .dead, .dead, .dead, .val false [⟨(.sl TEdge), .sh, x3⟩], .val false [⟨(.int .i64), .sh, i4⟩], .val false [⟨(.int .i64), .sh, i5⟩]] ++ deads 52, [(4, ⟨true, [⟨(.int .i64), .sh, i6⟩, ⟨(.sl TEdge), .sh, x7⟩]⟩)]⟩
theorem impl_ValidGraph.l2_eq (k : Nat) (x3 : List (Int × Int × Int)) (i4 : Int) (i5 : Int) (i6 : Int) (x7 : List (Int × Int × Int)) : impl_ValidGraph.l2 (k + 1) x3 i4 i5 i6 x7 =
  if (decide (i5 < i4)) = true then
    if 0 ≤ i5 ∧ i5 < (x3.length : Int) then
      if (decide (((x3.getD i5.toNat (0, 0, 0)).1 : Int) < (0 : Int))) = true then
        some ((false, ()), ())
      else
        if (decide (((x3.getD i5.toNat (0, 0, 0)).1 : Int) ≥ (((x3.getD i5.toNat (0, 0, 0)).2).1 : Int))) = true then
          some ((false, ()), ())
        else
          if (decide ((((x3.getD i5.toNat (0, 0, 0)).2).1 : Int) ≥ i6)) = true then
            some ((false, ()), ())
          else
            (impl_within.F ((((x3.getD i5.toNat (0, 0, 0)).2).2 : Int), (1 : Int), (9 : Int), ())).bind fun r8 =>
              if (!(r8.1.1 : Bool)) = true then
                some ((false, ()), ())
              else
                if (decide (i5 > (0 : Int))) = true then
                  if 0 ≤ (IntKind.i64.wrap (i5 - (1 : Int))) ∧ (IntKind.i64.wrap (i5 - (1 : Int))) < (x7.length : Int) then
                    (impl_compareEdges.F (x7.getD (IntKind.i64.wrap (i5 - (1 : Int))).toNat (0, 0, 0), x3.getD i5.toNat (0, 0, 0), ())).bind fun r9 =>
                      if (decide ((r9.1.1 : Int) ≥ (0 : Int))) = true then
                        some ((false, ()), ())
                      else
                        impl_ValidGraph.l2 k x3 i4 (IntKind.i64.wrap (i5 + (1 : Int))) i6 x7
                  else
                    none
                else
                  impl_ValidGraph.l2 k x3 i4 (IntKind.i64.wrap (i5 + (1 : Int))) i6 x7
    else
      none
  else
    (impl_within.F (i6, (1 : Int), (12 : Int), ())).bind fun r10 =>
      if (r10.1.1 : Bool) = true then
        some ((decide ((x7.length : Int) ≤ (24 : Int)), ()), ())
      else
        some ((false, ()), ()) := by kernel_rfl
noncomputable def impl_ValidGraph.T (k : Nat) (g_1 : Int) (g_2 : List (Int × Int × Int)) : Option ((Bool × Unit) × (Unit)) :=
  impl_ValidGraph.l2 k g_2 (g_2.length : Int) (0 : Int) g_1 g_2
theorem impl_ValidGraph.run (k : Nat) (g_1 : Int) (g_2 : List (Int × Int × Int)) : runFn impl_ValidGraph.cfg impl_ValidGraph.fin impl_ValidGraph.code (initSt impl_ValidGraph.sig.ps ((g_1, g_2), ()) 61) k = impl_ValidGraph.T k g_1 g_2 := by kernel_rfl
theorem impl_ValidGraph.of (g_1 : Int) (g_2 : List (Int × Int × Int)) {r : (Bool × Unit) × (Unit)} (h : Ev (fun k => impl_ValidGraph.T k g_1 g_2) r) : impl_ValidGraph.F ((g_1, g_2), ()) = some r := Ev.run (fun k => impl_ValidGraph.run k g_1 g_2) h
theorem impl_ValidGraph.ok : CtxOK Go.Proofs.Try.prog impl_ValidGraph.ctx := ⟨List.forall_mem_nil _, mixed_ok, tab_ok tab_good, List.forall_mem_cons.2 ⟨impl_within.S, List.forall_mem_cons.2 ⟨impl_compareEdges.S, List.forall_mem_nil _⟩⟩, List.forall_mem_nil _⟩
theorem impl_ValidGraph.S : Sound Go.Proofs.Try.prog ⟨51, impl_ValidGraph.sig, impl_ValidGraph.F⟩ := sound_any (fn := Go.Proofs.Try.f51) (code := impl_ValidGraph.code) (g := impl_ValidGraph.cfg) (res := [.tmp 2]) Go.Proofs.Try.func51 (by kernel_rfl) (by kernel_rfl) impl_ValidGraph.ok (by kernel_rfl) (by kernel_rfl) (Nat.le_of_ble_eq_true (by kernel_rfl)) (by kernel_rfl)
/-! ### impl_size_int64 -/
noncomputable def impl_size_int64.sig : Sig := ⟨[.val false (.sl (.int .i64))], [(.val false, (.int .i64), .deep)]⟩
noncomputable def impl_size_int64.ctx : Ctx := ⟨tabOf tabl, [], [], []⟩
noncomputable def impl_size_int64.cfg : Cfg := ⟨impl_size_int64.ctx, [], [], fun _ => ([], [])⟩
noncomputable def impl_size_int64.code : Code := (Go.Proofs.Try.f129).body.getD .skip
noncomputable def impl_size_int64.fin := finK impl_size_int64.ctx impl_size_int64.sig [.tmp 2]
noncomputable def impl_size_int64.F (d : List Int × Unit) : Option ((Int × Unit) × (Unit)) := anyK (runFn impl_size_int64.cfg impl_size_int64.fin impl_size_int64.code (initSt impl_size_int64.sig.ps d 5))
noncomputable def impl_size_int64.T (list_1 : List Int) : Option ((Int × Unit) × (Unit)) :=
  some (((list_1.length : Int), ()), ())
theorem impl_size_int64.run (k : Nat) (list_1 : List Int) : runFn impl_size_int64.cfg impl_size_int64.fin impl_size_int64.code (initSt impl_size_int64.sig.ps (list_1, ()) 5) k = impl_size_int64.T list_1 := by kernel_rfl
theorem impl_size_int64.eq (list_1 : List Int) : impl_size_int64.F (list_1, ()) = impl_size_int64.T list_1 := (congrArg anyK (funext fun k => impl_size_int64.run k list_1)).trans (anyK_const _)
theorem impl_size_int64.ok : CtxOK Go.Proofs.Try.prog impl_size_int64.ctx := ⟨List.forall_mem_nil _, mixed_ok, tab_ok tab_good, List.forall_mem_nil _, List.forall_mem_nil _⟩
theorem impl_size_int64.S : Sound Go.Proofs.Try.prog ⟨129, impl_size_int64.sig, impl_size_int64.F⟩ := sound_any (fn := Go.Proofs.Try.f129) (code := impl_size_int64.code) (g := impl_size_int64.cfg) (res := [.tmp 2]) Go.Proofs.Try.func129 (by kernel_rfl) (by kernel_rfl) impl_size_int64.ok (by kernel_rfl) (by kernel_rfl) (Nat.le_of_ble_eq_true (by kernel_rfl)) (by kernel_rfl)
/-! ### slices_IndexFunc_Lint64_int64 -/
noncomputable def slices_IndexFunc_Lint64_int64.sig : Sig := ⟨[.val false (.sl (.int .i64)), .fnx ⟨[(false, (.int .i64))], [(.val false, .bool, .deep)]⟩], [(.val false, (.int .i64), .deep)]⟩
noncomputable def slices_IndexFunc_Lint64_int64.ctx : Ctx := ⟨tabOf tabl, [], [], []⟩
noncomputable def slices_IndexFunc_Lint64_int64.cfg : Cfg := ⟨slices_IndexFunc_Lint64_int64.ctx, [], [], fun id => match id with | 2 => ([0, 1, 7, 8], []) | _ => ([], [])⟩
noncomputable def slices_IndexFunc_Lint64_int64.code : Code := (Go.Proofs.Try.f181).body.getD .skip
noncomputable def slices_IndexFunc_Lint64_int64.fin := finK slices_IndexFunc_Lint64_int64.ctx slices_IndexFunc_Lint64_int64.sig [.tmp 4]
noncomputable def slices_IndexFunc_Lint64_int64.F (d : List Int × ((Int × Unit) → Option (Bool × Unit)) × Unit) : Option ((Int × Unit) × (Unit)) := anyK (runFn slices_IndexFunc_Lint64_int64.cfg slices_IndexFunc_Lint64_int64.fin slices_IndexFunc_Lint64_int64.code (initSt slices_IndexFunc_Lint64_int64.sig.ps d 19))
noncomputable def slices_IndexFunc_Lint64_int64.l2 (k : Nat) (x3 : List Int) (f4 : (Int × Unit) → Option (Bool × Unit)) (i5 : Int) (i6 : Int) : Option ((Int × Unit) × (Unit)) :=
  Go.Vm.runT slices_IndexFunc_Lint64_int64.cfg slices_IndexFunc_Lint64_int64.fin k [.inLoop (sub [1, 0, 1, 0, 0] slices_IndexFunc_Lint64_int64.code), .inBlock 0, .code (sub [1, 1] slices_IndexFunc_Lint64_int64.code)]
    ⟨[.val false [⟨(.sl (.int .i64)), .sh, x3⟩], .fnx ⟨[(false, (.int .i64))], [(.val false, .bool, .deep)]⟩ f4, .dead, .dead, .dead, .dead, .dead, .val false [⟨(.int .i64), .sh, i5⟩], .val false [⟨(.int .i64), .sh, i6⟩]] ++ deads 10, []⟩
theorem slices_IndexFunc_Lint64_int64.l2_eq (k : Nat) (x3 : List Int) (f4 : (Int × Unit) → Option (Bool × Unit)) (i5 : Int) (i6 : Int) : slices_IndexFunc_Lint64_int64.l2 (k + 1) x3 f4 i5 i6 =
  if (decide (i6 < i5)) = true then
    if 0 ≤ i6 ∧ i6 < (x3.length : Int) then
      (f4 ((x3.getD i6.toNat 0 : Int), ())).bind fun r7 =>
        if (r7.1 : Bool) = true then
          some ((i6, ()), ())
        else
          slices_IndexFunc_Lint64_int64.l2 k x3 f4 i5 (IntKind.i64.wrap (i6 + (1 : Int)))
    else
      none
  else
    some (((-1 : Int), ()), ()) := by kernel_rfl
noncomputable def slices_IndexFunc_Lint64_int64.T (k : Nat) (s_1 : List Int) (f_2 : (Int × Unit) → Option (Bool × Unit)) : Option ((Int × Unit) × (Unit)) :=
  slices_IndexFunc_Lint64_int64.l2 k s_1 f_2 (s_1.length : Int) (0 : Int)
theorem slices_IndexFunc_Lint64_int64.run (k : Nat) (s_1 : List Int) (f_2 : (Int × Unit) → Option (Bool × Unit)) : runFn slices_IndexFunc_Lint64_int64.cfg slices_IndexFunc_Lint64_int64.fin slices_IndexFunc_Lint64_int64.code (initSt slices_IndexFunc_Lint64_int64.sig.ps (s_1, f_2, ()) 19) k = slices_IndexFunc_Lint64_int64.T k s_1 f_2 := by kernel_rfl
theorem slices_IndexFunc_Lint64_int64.of (s_1 : List Int) (f_2 : (Int × Unit) → Option (Bool × Unit)) {r : (Int × Unit) × (Unit)} (h : Ev (fun k => slices_IndexFunc_Lint64_int64.T k s_1 f_2) r) : slices_IndexFunc_Lint64_int64.F (s_1, f_2, ()) = some r := Ev.run (fun k => slices_IndexFunc_Lint64_int64.run k s_1 f_2) h
theorem slices_IndexFunc_Lint64_int64.ok : CtxOK Go.Proofs.Try.prog slices_IndexFunc_Lint64_int64.ctx := ⟨List.forall_mem_nil _, mixed_ok, tab_ok tab_good, List.forall_mem_nil _, List.forall_mem_nil _⟩
theorem slices_IndexFunc_Lint64_int64.S : Sound Go.Proofs.Try.prog ⟨181, slices_IndexFunc_Lint64_int64.sig, slices_IndexFunc_Lint64_int64.F⟩ := sound_any (fn := Go.Proofs.Try.f181) (code := slices_IndexFunc_Lint64_int64.code) (g := slices_IndexFunc_Lint64_int64.cfg) (res := [.tmp 4]) Go.Proofs.Try.func181 (by kernel_rfl) (by kernel_rfl) slices_IndexFunc_Lint64_int64.ok (by kernel_rfl) (by kernel_rfl) (Nat.le_of_ble_eq_true (by kernel_rfl)) (by kernel_rfl)
/-! ### slices_ContainsFunc_Lint64_int64 -/
noncomputable def slices_ContainsFunc_Lint64_int64.sig : Sig := ⟨[.val false (.sl (.int .i64)), .fnx ⟨[(false, (.int .i64))], [(.val false, .bool, .deep)]⟩], [(.val false, .bool, .deep)]⟩
noncomputable def slices_ContainsFunc_Lint64_int64.ctx : Ctx := ⟨tabOf tabl, [⟨181, slices_IndexFunc_Lint64_int64.sig, slices_IndexFunc_Lint64_int64.F⟩], [], []⟩
noncomputable def slices_ContainsFunc_Lint64_int64.cfg : Cfg := ⟨slices_ContainsFunc_Lint64_int64.ctx, [], [], fun _ => ([], [])⟩
noncomputable def slices_ContainsFunc_Lint64_int64.code : Code := (Go.Proofs.Try.f147).body.getD .skip
noncomputable def slices_ContainsFunc_Lint64_int64.fin := finK slices_ContainsFunc_Lint64_int64.ctx slices_ContainsFunc_Lint64_int64.sig [.tmp 4]
noncomputable def slices_ContainsFunc_Lint64_int64.F (d : List Int × ((Int × Unit) → Option (Bool × Unit)) × Unit) : Option ((Bool × Unit) × (Unit)) := anyK (runFn slices_ContainsFunc_Lint64_int64.cfg slices_ContainsFunc_Lint64_int64.fin slices_ContainsFunc_Lint64_int64.code (initSt slices_ContainsFunc_Lint64_int64.sig.ps d 9))
noncomputable def slices_ContainsFunc_Lint64_int64.T (s_1 : List Int) (f_2 : (Int × Unit) → Option (Bool × Unit)) : Option ((Bool × Unit) × (Unit)) :=
  (slices_IndexFunc_Lint64_int64.F (s_1, f_2, ())).bind fun r3 =>
    some ((decide ((r3.1.1 : Int) ≥ (0 : Int)), ()), ())
theorem slices_ContainsFunc_Lint64_int64.run (k : Nat) (s_1 : List Int) (f_2 : (Int × Unit) → Option (Bool × Unit)) : runFn slices_ContainsFunc_Lint64_int64.cfg slices_ContainsFunc_Lint64_int64.fin slices_ContainsFunc_Lint64_int64.code (initSt slices_ContainsFunc_Lint64_int64.sig.ps (s_1, f_2, ()) 9) k = slices_ContainsFunc_Lint64_int64.T s_1 f_2 := by kernel_rfl
theorem slices_ContainsFunc_Lint64_int64.eq (s_1 : List Int) (f_2 : (Int × Unit) → Option (Bool × Unit)) : slices_ContainsFunc_Lint64_int64.F (s_1, f_2, ()) = slices_ContainsFunc_Lint64_int64.T s_1 f_2 := (congrArg anyK (funext fun k => slices_ContainsFunc_Lint64_int64.run k s_1 f_2)).trans (anyK_const _)
theorem slices_ContainsFunc_Lint64_int64.ok : CtxOK Go.Proofs.Try.prog slices_ContainsFunc_Lint64_int64.ctx := ⟨List.forall_mem_nil _, mixed_ok, tab_ok tab_good, List.forall_mem_cons.2 ⟨slices_IndexFunc_Lint64_int64.S, List.forall_mem_nil _⟩, List.forall_mem_nil _⟩
theorem slices_ContainsFunc_Lint64_int64.S : Sound Go.Proofs.Try.prog ⟨147, slices_ContainsFunc_Lint64_int64.sig, slices_ContainsFunc_Lint64_int64.F⟩ := sound_any (fn := Go.Proofs.Try.f147) (code := slices_ContainsFunc_Lint64_int64.code) (g := slices_ContainsFunc_Lint64_int64.cfg) (res := [.tmp 4]) Go.Proofs.Try.func147 (by kernel_rfl) (by kernel_rfl) slices_ContainsFunc_Lint64_int64.ok (by kernel_rfl) (by kernel_rfl) (Nat.le_of_ble_eq_true (by kernel_rfl)) (by kernel_rfl)
/-! ### impl_isGraphVector_1 -/
noncomputable def impl_isGraphVector_1.sig : Sig := ⟨[.val false (.int .i64)], [(.val false, .bool, .deep)]⟩
noncomputable def impl_isGraphVector_1.ctx : Ctx := ⟨tabOf tabl, [⟨94, impl_within.sig, impl_within.F⟩], [], []⟩
noncomputable def impl_isGraphVector_1.cfg : Cfg := ⟨impl_isGraphVector_1.ctx, [], [], fun _ => ([], [])⟩
noncomputable def impl_isGraphVector_1.code : Code := (Go.Proofs.Try.f151).body.getD .skip
noncomputable def impl_isGraphVector_1.fin := finK impl_isGraphVector_1.ctx impl_isGraphVector_1.sig [.tmp 2]
noncomputable def impl_isGraphVector_1.F (d : Int × Unit) : Option ((Bool × Unit) × (Unit)) := anyK (runFn impl_isGraphVector_1.cfg impl_isGraphVector_1.fin impl_isGraphVector_1.code (initSt impl_isGraphVector_1.sig.ps d 6))
noncomputable def impl_isGraphVector_1.T (n_1 : Int) : Option ((Bool × Unit) × (Unit)) :=
  (impl_within.F (n_1, (-1000000 : Int), (1000000 : Int), ())).bind fun r2 =>
    some ((!(r2.1.1 : Bool), ()), ())
theorem impl_isGraphVector_1.run (k : Nat) (n_1 : Int) : runFn impl_isGraphVector_1.cfg impl_isGraphVector_1.fin impl_isGraphVector_1.code (initSt impl_isGraphVector_1.sig.ps (n_1, ()) 6) k = impl_isGraphVector_1.T n_1 := by kernel_rfl
theorem impl_isGraphVector_1.eq (n_1 : Int) : impl_isGraphVector_1.F (n_1, ()) = impl_isGraphVector_1.T n_1 := (congrArg anyK (funext fun k => impl_isGraphVector_1.run k n_1)).trans (anyK_const _)
theorem impl_isGraphVector_1.ok : CtxOK Go.Proofs.Try.prog impl_isGraphVector_1.ctx := ⟨List.forall_mem_nil _, mixed_ok, tab_ok tab_good, List.forall_mem_cons.2 ⟨impl_within.S, List.forall_mem_nil _⟩, List.forall_mem_nil _⟩
theorem impl_isGraphVector_1.S : Sound Go.Proofs.Try.prog ⟨151, impl_isGraphVector_1.sig, impl_isGraphVector_1.F⟩ := sound_any (fn := Go.Proofs.Try.f151) (code := impl_isGraphVector_1.code) (g := impl_isGraphVector_1.cfg) (res := [.tmp 2]) Go.Proofs.Try.func151 (by kernel_rfl) (by kernel_rfl) impl_isGraphVector_1.ok (by kernel_rfl) (by kernel_rfl) (Nat.le_of_ble_eq_true (by kernel_rfl)) (by kernel_rfl)
noncomputable def impl_isGraphVector_1.cloG (y : Unit) (d : Int × Unit) : Option (Bool × Unit) := (impl_isGraphVector_1.F (joinIns [] [(false, (.int .i64))] d y)).map (·.1)
noncomputable def impl_isGraphVector_1.clo : Clo := ⟨151, ⟨[(false, (.int .i64))], [(.val false, .bool, .deep)]⟩, [], impl_isGraphVector_1.cloG⟩
theorem impl_isGraphVector_1.cloS : SoundClo Go.Proofs.Try.prog impl_isGraphVector_1.clo := sound_clo (s := ⟨[(false, (.int .i64))], [(.val false, .bool, .deep)]⟩) (caps := []) rfl impl_isGraphVector_1.S
/-! ### impl_isGraphVector -/
noncomputable def impl_isGraphVector.sig : Sig := ⟨[.val true TGraph, .val false (.sl (.int .i64))], [(.val false, .bool, .deep)]⟩
noncomputable def impl_isGraphVector.ctx : Ctx := ⟨tabOf tabl, [⟨129, impl_size_int64.sig, impl_size_int64.F⟩, ⟨147, slices_ContainsFunc_Lint64_int64.sig, slices_ContainsFunc_Lint64_int64.F⟩], [impl_isGraphVector_1.clo], []⟩
noncomputable def impl_isGraphVector.cfg : Cfg := ⟨impl_isGraphVector.ctx, [], [], fun _ => ([], [])⟩
noncomputable def impl_isGraphVector.code : Code := (Go.Proofs.Try.f110).body.getD .skip
noncomputable def impl_isGraphVector.fin := finK impl_isGraphVector.ctx impl_isGraphVector.sig [.tmp 4]
noncomputable def impl_isGraphVector.F (d : (Int × List (Int × Int × Int)) × List Int × Unit) : Option ((Bool × Unit) × (Unit)) := anyK (runFn impl_isGraphVector.cfg impl_isGraphVector.fin impl_isGraphVector.code (initSt impl_isGraphVector.sig.ps d 15))
noncomputable def impl_isGraphVector.T (g_1 : Int) (g_2 : List (Int × Int × Int)) (x_3 : List Int) : Option ((Bool × Unit) × (Unit)) :=
  (impl_size_int64.F (x_3, ())).bind fun r4 =>
    if ((r4.1.1 : Int) == g_1) = true then
      (slices_ContainsFunc_Lint64_int64.F (x_3, impl_isGraphVector_1.cloG (()), ())).bind fun r5 =>
        some ((!(r5.1.1 : Bool), ()), ())
    else
      some ((false, ()), ())
theorem impl_isGraphVector.run (k : Nat) (g_1 : Int) (g_2 : List (Int × Int × Int)) (x_3 : List Int) : runFn impl_isGraphVector.cfg impl_isGraphVector.fin impl_isGraphVector.code (initSt impl_isGraphVector.sig.ps ((g_1, g_2), x_3, ()) 15) k = impl_isGraphVector.T g_1 g_2 x_3 := by kernel_rfl
theorem impl_isGraphVector.eq (g_1 : Int) (g_2 : List (Int × Int × Int)) (x_3 : List Int) : impl_isGraphVector.F ((g_1, g_2), x_3, ()) = impl_isGraphVector.T g_1 g_2 x_3 := (congrArg anyK (funext fun k => impl_isGraphVector.run k g_1 g_2 x_3)).trans (anyK_const _)
theorem impl_isGraphVector.ok : CtxOK Go.Proofs.Try.prog impl_isGraphVector.ctx := ⟨List.forall_mem_nil _, mixed_ok, tab_ok tab_good, List.forall_mem_cons.2 ⟨impl_size_int64.S, List.forall_mem_cons.2 ⟨slices_ContainsFunc_Lint64_int64.S, List.forall_mem_nil _⟩⟩, List.forall_mem_cons.2 ⟨impl_isGraphVector_1.cloS, List.forall_mem_nil _⟩⟩
theorem impl_isGraphVector.S : Sound Go.Proofs.Try.prog ⟨110, impl_isGraphVector.sig, impl_isGraphVector.F⟩ := sound_any (fn := Go.Proofs.Try.f110) (code := impl_isGraphVector.code) (g := impl_isGraphVector.cfg) (res := [.tmp 4]) Go.Proofs.Try.func110 (by kernel_rfl) (by kernel_rfl) impl_isGraphVector.ok (by kernel_rfl) (by kernel_rfl) (Nat.le_of_ble_eq_true (by kernel_rfl)) (by kernel_rfl)
/-! ### impl_withVector -/
noncomputable def impl_withVector.sig : Sig := ⟨[.val true TGraph, .val false (.sl (.int .i64))], [(.val false, (.int .i64), .deep)]⟩
noncomputable def impl_withVector.ctx : Ctx := ⟨tabOf tabl, [⟨51, impl_ValidGraph.sig, impl_ValidGraph.F⟩, ⟨110, impl_isGraphVector.sig, impl_isGraphVector.F⟩], [], []⟩
noncomputable def impl_withVector.cfg : Cfg := ⟨impl_withVector.ctx, [], [], fun _ => ([], [])⟩
noncomputable def impl_withVector.code : Code := (Go.Proofs.Try.f63).body.getD .skip
noncomputable def impl_withVector.fin := finK impl_withVector.ctx impl_withVector.sig [.tmp 4]
noncomputable def impl_withVector.F (d : (Int × List (Int × Int × Int)) × List Int × Unit) : Option ((Int × Unit) × (Unit)) := anyK (runFn impl_withVector.cfg impl_withVector.fin impl_withVector.code (initSt impl_withVector.sig.ps d 14))
noncomputable def impl_withVector.T (g_1 : Int) (g_2 : List (Int × Int × Int)) (x_3 : List Int) : Option ((Int × Unit) × (Unit)) :=
  (impl_ValidGraph.F ((g_1, g_2), ())).bind fun r4 =>
    if (!(r4.1.1 : Bool)) = true then
      some (((1 : Int), ()), ())
    else
      (impl_isGraphVector.F ((g_1, g_2), x_3, ())).bind fun r5 =>
        if (!(r5.1.1 : Bool)) = true then
          some (((2 : Int), ()), ())
        else
          some (((0 : Int), ()), ())
theorem impl_withVector.run (k : Nat) (g_1 : Int) (g_2 : List (Int × Int × Int)) (x_3 : List Int) : runFn impl_withVector.cfg impl_withVector.fin impl_withVector.code (initSt impl_withVector.sig.ps ((g_1, g_2), x_3, ()) 14) k = impl_withVector.T g_1 g_2 x_3 := by kernel_rfl
theorem impl_withVector.eq (g_1 : Int) (g_2 : List (Int × Int × Int)) (x_3 : List Int) : impl_withVector.F ((g_1, g_2), x_3, ()) = impl_withVector.T g_1 g_2 x_3 := (congrArg anyK (funext fun k => impl_withVector.run k g_1 g_2 x_3)).trans (anyK_const _)
theorem impl_withVector.ok : CtxOK Go.Proofs.Try.prog impl_withVector.ctx := ⟨List.forall_mem_nil _, mixed_ok, tab_ok tab_good, List.forall_mem_cons.2 ⟨impl_ValidGraph.S, List.forall_mem_cons.2 ⟨impl_isGraphVector.S, List.forall_mem_nil _⟩⟩, List.forall_mem_nil _⟩
theorem impl_withVector.S : Sound Go.Proofs.Try.prog ⟨63, impl_withVector.sig, impl_withVector.F⟩ := sound_any (fn := Go.Proofs.Try.f63) (code := impl_withVector.code) (g := impl_withVector.cfg) (res := [.tmp 4]) Go.Proofs.Try.func63 (by kernel_rfl) (by kernel_rfl) impl_withVector.ok (by kernel_rfl) (by kernel_rfl) (Nat.le_of_ble_eq_true (by kernel_rfl)) (by kernel_rfl)
/-! ### impl_laplacian -/
noncomputable def impl_laplacian.sig : Sig := ⟨[.val true TGraph], [(.val false, (.sl (.sl (.int .i64))), .deep)]⟩
noncomputable def impl_laplacian.ctx : Ctx := ⟨tabOf tabl, [], [], []⟩
noncomputable def impl_laplacian.cfg : Cfg := ⟨impl_laplacian.ctx, [], [], fun id => match id with | 3 => ([1, 3, 11, 12], [4, 12]) | 8 => ([3, 23, 24, 25], [12]) | _ => ([], [])⟩
noncomputable def impl_laplacian.code : Code := (Go.Proofs.Try.f111).body.getD .skip
noncomputable def impl_laplacian.fin := finK impl_laplacian.ctx impl_laplacian.sig [.tmp 2]
noncomputable def impl_laplacian.F (d : (Int × List (Int × Int × Int)) × Unit) : Option ((List (List Int) × Unit) × (Unit)) := anyK (runFn impl_laplacian.cfg impl_laplacian.fin impl_laplacian.code (initSt impl_laplacian.sig.ps d 79))
noncomputable def impl_laplacian.l3 (k : Nat) (i3 : Int) (i4 : Int) (i5 : Int) (x6 : List (Int × Int × Int)) (x7 : List (List Int)) : Option ((List (List Int) × Unit) × (Unit)) :=
  Go.Vm.runT impl_laplacian.cfg impl_laplacian.fin k [.inLoop (sub [1, 1, 0, 1, 0, 0] impl_laplacian.code), .inBlock 0, .code (sub [1, 1, 1] impl_laplacian.code)]
    ⟨[.dead, .ref 4 (.root 0), .dead, .view 12 (.root 0) 1 false, .dead, .dead, .dead, .dead, .dead, .dead, .dead, .val false [⟨(.int .i64), .sh, i3⟩], .val false [⟨(.int .i64), .sh, i4⟩]] ++ deads 66, [(4, ⟨true, [⟨(.int .i64), .sh, i5⟩, ⟨(.sl TEdge), .sh, x6⟩]⟩), (12, ⟨false, [⟨(.sl (.sl (.int .i64))), .deep, x7⟩]⟩)]⟩
noncomputable def impl_laplacian.l8 (k : Nat) (x8 : List (Int × Int × Int)) (i9 : Int) (i10 : Int) (x11 : List (List Int)) : Option ((List (List Int) × Unit) × (Unit)) :=
  Go.Vm.runT impl_laplacian.cfg impl_laplacian.fin k [.inLoop (sub [1, 1, 1, 0, 1, 0, 0] impl_laplacian.code), .inBlock 2, .code (sub [1, 1, 1, 1] impl_laplacian.code)]
    ⟨[.dead, .dead, .dead, .view 12 (.root 0) 1 false, .dead, .dead, .dead, .dead, .dead, .dead, .dead, .dead, .dead, .dead, .dead, .dead, .dead, .dead, .dead, .dead, .dead, .dead, .dead, .val false [⟨(.sl TEdge), .sh, x8⟩], .val false [⟨(.int .i64), .sh, i9⟩], .val false [⟨(.int .i64), .sh, i10⟩]] ++ deads 53, [(12, ⟨false, [⟨(.sl (.sl (.int .i64))), .deep, x11⟩]⟩)]⟩
theorem impl_laplacian.l3_eq (k : Nat) (i3 : Int) (i4 : Int) (i5 : Int) (x6 : List (Int × Int × Int)) (x7 : List (List Int)) : impl_laplacian.l3 (k + 1) i3 i4 i5 x6 x7 =
  if (decide (i4 < i3)) = true then
    if 0 ≤ i5 ∧ i5 ≤ (bigN : Int) then
      if 0 ≤ i4 ∧ i4 < (x7.length : Int) then
        impl_laplacian.l3 k i3 (IntKind.i64.wrap (i4 + (1 : Int))) i5 x6 (x7.set i4.toNat (List.replicate i5.toNat 0))
      else
        none
    else
      none
  else
    impl_laplacian.l8 k x6 (x6.length : Int) (0 : Int) x7 := by kernel_rfl
theorem impl_laplacian.l8_eq (k : Nat) (x8 : List (Int × Int × Int)) (i9 : Int) (i10 : Int) (x11 : List (List Int)) : impl_laplacian.l8 (k + 1) x8 i9 i10 x11 =
  if (decide (i10 < i9)) = true then
    if 0 ≤ i10 ∧ i10 < (x8.length : Int) then
      if 0 ≤ ((x8.getD i10.toNat (0, 0, 0)).1 : Int) ∧ ((x8.getD i10.toNat (0, 0, 0)).1 : Int) < (x11.length : Int) then
        if 0 ≤ ((x8.getD i10.toNat (0, 0, 0)).1 : Int) ∧ ((x8.getD i10.toNat (0, 0, 0)).1 : Int) < ((x11.getD ((x8.getD i10.toNat (0, 0, 0)).1 : Int).toNat ([] : List Int)).length : Int) then
          if 0 ≤ ((x8.getD i10.toNat (0, 0, 0)).1 : Int) ∧ ((x8.getD i10.toNat (0, 0, 0)).1 : Int) < ((x11.getD ((x8.getD i10.toNat (0, 0, 0)).1 : Int).toNat ([] : List Int)).length : Int) then
            let y12 : List (List Int) := x11.set ((x8.getD i10.toNat (0, 0, 0)).1 : Int).toNat ((x11.getD ((x8.getD i10.toNat (0, 0, 0)).1 : Int).toNat ([] : List Int)).set ((x8.getD i10.toNat (0, 0, 0)).1 : Int).toNat (IntKind.i64.wrap (((x11.getD ((x8.getD i10.toNat (0, 0, 0)).1 : Int).toNat ([] : List Int)).getD ((x8.getD i10.toNat (0, 0, 0)).1 : Int).toNat 0) + (((x8.getD i10.toNat (0, 0, 0)).2).2 : Int))))
            if 0 ≤ (((x8.getD i10.toNat (0, 0, 0)).2).1 : Int) ∧ (((x8.getD i10.toNat (0, 0, 0)).2).1 : Int) < (y12.length : Int) then
              if 0 ≤ (((x8.getD i10.toNat (0, 0, 0)).2).1 : Int) ∧ (((x8.getD i10.toNat (0, 0, 0)).2).1 : Int) < ((y12.getD (((x8.getD i10.toNat (0, 0, 0)).2).1 : Int).toNat ([] : List Int)).length : Int) then
                if 0 ≤ (((x8.getD i10.toNat (0, 0, 0)).2).1 : Int) ∧ (((x8.getD i10.toNat (0, 0, 0)).2).1 : Int) < ((y12.getD (((x8.getD i10.toNat (0, 0, 0)).2).1 : Int).toNat ([] : List Int)).length : Int) then
                  let y13 : List (List Int) := y12.set (((x8.getD i10.toNat (0, 0, 0)).2).1 : Int).toNat ((y12.getD (((x8.getD i10.toNat (0, 0, 0)).2).1 : Int).toNat ([] : List Int)).set (((x8.getD i10.toNat (0, 0, 0)).2).1 : Int).toNat (IntKind.i64.wrap (((y12.getD (((x8.getD i10.toNat (0, 0, 0)).2).1 : Int).toNat ([] : List Int)).getD (((x8.getD i10.toNat (0, 0, 0)).2).1 : Int).toNat 0) + (((x8.getD i10.toNat (0, 0, 0)).2).2 : Int))))
                  if 0 ≤ ((x8.getD i10.toNat (0, 0, 0)).1 : Int) ∧ ((x8.getD i10.toNat (0, 0, 0)).1 : Int) < (y13.length : Int) then
                    if 0 ≤ (((x8.getD i10.toNat (0, 0, 0)).2).1 : Int) ∧ (((x8.getD i10.toNat (0, 0, 0)).2).1 : Int) < ((y13.getD ((x8.getD i10.toNat (0, 0, 0)).1 : Int).toNat ([] : List Int)).length : Int) then
                      let y14 : List (List Int) := y13.set ((x8.getD i10.toNat (0, 0, 0)).1 : Int).toNat ((y13.getD ((x8.getD i10.toNat (0, 0, 0)).1 : Int).toNat ([] : List Int)).set (((x8.getD i10.toNat (0, 0, 0)).2).1 : Int).toNat (IntKind.i64.wrap (0 - (((x8.getD i10.toNat (0, 0, 0)).2).2 : Int))))
                      if 0 ≤ (((x8.getD i10.toNat (0, 0, 0)).2).1 : Int) ∧ (((x8.getD i10.toNat (0, 0, 0)).2).1 : Int) < (y14.length : Int) then
                        if 0 ≤ ((x8.getD i10.toNat (0, 0, 0)).1 : Int) ∧ ((x8.getD i10.toNat (0, 0, 0)).1 : Int) < ((y14.getD (((x8.getD i10.toNat (0, 0, 0)).2).1 : Int).toNat ([] : List Int)).length : Int) then
                          let y15 : List (List Int) := y14.set (((x8.getD i10.toNat (0, 0, 0)).2).1 : Int).toNat ((y14.getD (((x8.getD i10.toNat (0, 0, 0)).2).1 : Int).toNat ([] : List Int)).set ((x8.getD i10.toNat (0, 0, 0)).1 : Int).toNat (IntKind.i64.wrap (0 - (((x8.getD i10.toNat (0, 0, 0)).2).2 : Int))))
                          impl_laplacian.l8 k x8 i9 (IntKind.i64.wrap (i10 + (1 : Int))) y15
                        else
                          none
                      else
                        none
                    else
                      none
                  else
                    none
                else
                  none
              else
                none
            else
              none
          else
            none
        else
          none
      else
        none
    else
      none
  else
    some ((x11, ()), ()) := by kernel_rfl
noncomputable def impl_laplacian.T (k : Nat) (toArray_1 : Int) (toArray_2 : List (Int × Int × Int)) : Option ((List (List Int) × Unit) × (Unit)) :=
  if 0 ≤ toArray_1 ∧ toArray_1 ≤ (bigN : Int) then
    impl_laplacian.l3 k ((List.replicate toArray_1.toNat ([] : List Int)).length : Int) (0 : Int) toArray_1 toArray_2 (List.replicate toArray_1.toNat ([] : List Int))
  else
    none
theorem impl_laplacian.run (k : Nat) (toArray_1 : Int) (toArray_2 : List (Int × Int × Int)) : runFn impl_laplacian.cfg impl_laplacian.fin impl_laplacian.code (initSt impl_laplacian.sig.ps ((toArray_1, toArray_2), ()) 79) k = impl_laplacian.T k toArray_1 toArray_2 := by kernel_rfl
theorem impl_laplacian.of (toArray_1 : Int) (toArray_2 : List (Int × Int × Int)) {r : (List (List Int) × Unit) × (Unit)} (h : Ev (fun k => impl_laplacian.T k toArray_1 toArray_2) r) : impl_laplacian.F ((toArray_1, toArray_2), ()) = some r := Ev.run (fun k => impl_laplacian.run k toArray_1 toArray_2) h
theorem impl_laplacian.ok : CtxOK Go.Proofs.Try.prog impl_laplacian.ctx := ⟨List.forall_mem_nil _, mixed_ok, tab_ok tab_good, List.forall_mem_nil _, List.forall_mem_nil _⟩
theorem impl_laplacian.S : Sound Go.Proofs.Try.prog ⟨111, impl_laplacian.sig, impl_laplacian.F⟩ := sound_any (fn := Go.Proofs.Try.f111) (code := impl_laplacian.code) (g := impl_laplacian.cfg) (res := [.tmp 2]) Go.Proofs.Try.func111 (by kernel_rfl) (by kernel_rfl) impl_laplacian.ok (by kernel_rfl) (by kernel_rfl) (Nat.le_of_ble_eq_true (by kernel_rfl)) (by kernel_rfl)
/-! ### impl_laplace -/
noncomputable def impl_laplace.sig : Sig := ⟨[.val true TGraph, .val false (.sl (.int .i64))], [(.val false, (.sl (.int .i64)), .deep)]⟩
noncomputable def impl_laplace.ctx : Ctx := ⟨tabOf tabl, [⟨111, impl_laplacian.sig, impl_laplacian.F⟩], [], []⟩
noncomputable def impl_laplace.cfg : Cfg := ⟨impl_laplace.ctx, [], [], fun id => match id with | 3 => ([1, 5, 12, 13, 14], [20, 48]) | 7 => ([1, 5, 8, 12, 13, 14, 18, 19, 20], [20, 48]) | _ => ([], [])⟩
noncomputable def impl_laplace.code : Code := (Go.Proofs.Try.f64).body.getD .skip
noncomputable def impl_laplace.fin := finK impl_laplace.ctx impl_laplace.sig [.tmp 4]
noncomputable def impl_laplace.F (d : (Int × List (Int × Int × Int)) × List Int × Unit) : Option ((List Int × Unit) × (Unit)) := anyK (runFn impl_laplace.cfg impl_laplace.fin impl_laplace.code (initSt impl_laplace.sig.ps d 40))
noncomputable def impl_laplace.l3 (k : Nat) (x5 : List Int) (i6 : Int) (i7 : Int) (x8 : List Int) (x9 : List (List Int)) : Option ((List Int × Unit) × (Unit)) :=
  Go.Vm.runT impl_laplace.cfg impl_laplace.fin k [.inLoop (sub [1, 1, 0, 1, 0, 0] impl_laplace.code), .inBlock 0, .code (sub [1, 1, 1] impl_laplace.code)]
    ⟨[.dead, .val false [⟨(.sl (.int .i64)), .sh, x5⟩], .dead, .dead, .dead, .view 20 (.root 0) 1 false, .dead, .dead, .dead, .dead, .dead, .dead, .view 48 (.root 0) 1 false, .val false [⟨(.int .i64), .sh, i6⟩], .val false [⟨(.int .i64), .sh, i7⟩]] ++ deads 25, [(20, ⟨false, [⟨(.sl (.int .i64)), .deep, x8⟩]⟩), (48, ⟨false, [⟨(.sl (.sl (.int .i64))), .deep, x9⟩]⟩)]⟩
noncomputable def impl_laplace.l7 (k : Nat) (x10 : List Int) (i11 : Int) (i12 : Int) (i13 : Int) (j14 : Nat) (i15 : Int) (i16 : Int) (x17 : List Int) (x18 : List (List Int)) : Option ((List Int × Unit) × (Unit)) :=
  Go.Vm.runT impl_laplace.cfg impl_laplace.fin k [.inLoop (sub [1, 1, 0, 1, 0, 0, 1, 1, 0, 0, 1, 1, 0, 1, 0, 0] impl_laplace.code), .inBlock 2, .code (sub [1, 1, 0, 1, 0, 0, 1, 1, 0, 0, 1, 1, 1] impl_laplace.code), .inBlock 1, .code (sub [1, 1, 0, 1, 0, 0, 1, 1, 1] impl_laplace.code), .inLoop (sub [1, 1, 0, 1, 0, 0] impl_laplace.code), .inBlock 0, .code (sub [1, 1, 1] impl_laplace.code)]
    ⟨[.dead, .val false [⟨(.sl (.int .i64)), .sh, x10⟩], .dead, .dead, .dead, .view 20 (.root 0) 1 false, .dead, .dead, .val false [⟨(.int .i64), .sh, i11⟩], .dead, .dead, .dead, .view 48 (.root 0) 1 false, .val false [⟨(.int .i64), .sh, i12⟩], .val false [⟨(.int .i64), .sh, i13⟩], .dead, .dead, .dead, .view 48 (.hop (.root 0) j14 1 0) 1 false, .val false [⟨(.int .i64), .sh, i15⟩], .val false [⟨(.int .i64), .sh, i16⟩]] ++ deads 19, [(20, ⟨false, [⟨(.sl (.int .i64)), .deep, x17⟩]⟩), (48, ⟨false, [⟨(.sl (.sl (.int .i64))), .deep, x18⟩]⟩)]⟩
theorem impl_laplace.l3_eq (k : Nat) (x5 : List Int) (i6 : Int) (i7 : Int) (x8 : List Int) (x9 : List (List Int)) : impl_laplace.l3 (k + 1) x5 i6 i7 x8 x9 =
  if (decide (i7 < i6)) = true then
    if 0 ≤ i7 ∧ i7 < (x9.length : Int) then
      impl_laplace.l7 k x5 (0 : Int) i6 i7 i7.toNat ((x9.getD i7.toNat ([] : List Int)).length : Int) (0 : Int) x8 x9
    else
      none
  else
    some ((x8, ()), ()) := by kernel_rfl
theorem impl_laplace.l7_eq (k : Nat) (x10 : List Int) (i11 : Int) (i12 : Int) (i13 : Int) (j14 : Nat) (i15 : Int) (i16 : Int) (x17 : List Int) (x18 : List (List Int)) : impl_laplace.l7 (k + 1) x10 i11 i12 i13 j14 i15 i16 x17 x18 =
  if (decide (i16 < i15)) = true then
    if 0 ≤ i16 ∧ i16 < ((x18.getD j14 ([] : List Int)).length : Int) then
      if 0 ≤ i16 ∧ i16 < (x10.length : Int) then
        impl_laplace.l7 k x10 (IntKind.i64.wrap (i11 + (IntKind.i64.wrap (((x18.getD j14 ([] : List Int)).getD i16.toNat 0) * (x10.getD i16.toNat 0 : Int))))) i12 i13 j14 i15 (IntKind.i64.wrap (i16 + (1 : Int))) x17 x18
      else
        none
    else
      none
  else
    if x17.length + ([i11] : List Int).length ≤ bigA then
      impl_laplace.l3 k x10 i12 (IntKind.i64.wrap (i13 + (1 : Int))) (x17 ++ ([i11])) x18
    else
      none := by kernel_rfl
noncomputable def impl_laplace.T (k : Nat) (g_1 : Int) (g_2 : List (Int × Int × Int)) (x_3 : List Int) : Option ((List Int × Unit) × (Unit)) :=
  (impl_laplacian.F ((g_1, g_2), ())).bind fun r4 =>
    impl_laplace.l3 k x_3 (r4.1.1.length : Int) (0 : Int) ([]) r4.1.1
theorem impl_laplace.run (k : Nat) (g_1 : Int) (g_2 : List (Int × Int × Int)) (x_3 : List Int) : runFn impl_laplace.cfg impl_laplace.fin impl_laplace.code (initSt impl_laplace.sig.ps ((g_1, g_2), x_3, ()) 40) k = impl_laplace.T k g_1 g_2 x_3 := by kernel_rfl
theorem impl_laplace.of (g_1 : Int) (g_2 : List (Int × Int × Int)) (x_3 : List Int) {r : (List Int × Unit) × (Unit)} (h : Ev (fun k => impl_laplace.T k g_1 g_2 x_3) r) : impl_laplace.F ((g_1, g_2), x_3, ()) = some r := Ev.run (fun k => impl_laplace.run k g_1 g_2 x_3) h
theorem impl_laplace.ok : CtxOK Go.Proofs.Try.prog impl_laplace.ctx := ⟨List.forall_mem_nil _, mixed_ok, tab_ok tab_good, List.forall_mem_cons.2 ⟨impl_laplacian.S, List.forall_mem_nil _⟩, List.forall_mem_nil _⟩
theorem impl_laplace.S : Sound Go.Proofs.Try.prog ⟨64, impl_laplace.sig, impl_laplace.F⟩ := sound_any (fn := Go.Proofs.Try.f64) (code := impl_laplace.code) (g := impl_laplace.cfg) (res := [.tmp 4]) Go.Proofs.Try.func64 (by kernel_rfl) (by kernel_rfl) impl_laplace.ok (by kernel_rfl) (by kernel_rfl) (Nat.le_of_ble_eq_true (by kernel_rfl)) (by kernel_rfl)
/-! ### impl_ApplyLaplacian -/
noncomputable def impl_ApplyLaplacian.sig : Sig := ⟨[.val true TGraph, .val false (.sl (.int .i64))], [(.val false, (.sl (.int .i64)), .deep), (.val false, (.int .i64), .deep)]⟩
noncomputable def impl_ApplyLaplacian.ctx : Ctx := ⟨tabOf tabl, [⟨63, impl_withVector.sig, impl_withVector.F⟩, ⟨64, impl_laplace.sig, impl_laplace.F⟩], [], []⟩
noncomputable def impl_ApplyLaplacian.cfg : Cfg := ⟨impl_ApplyLaplacian.ctx, [], [], fun _ => ([], [])⟩
noncomputable def impl_ApplyLaplacian.code : Code := (Go.Proofs.Try.f25).body.getD .skip
noncomputable def impl_ApplyLaplacian.fin := finK impl_ApplyLaplacian.ctx impl_ApplyLaplacian.sig [.tmp 4, .tmp 5]
noncomputable def impl_ApplyLaplacian.F (d : (Int × List (Int × Int × Int)) × List Int × Unit) : Option ((List Int × Int × Unit) × (Unit)) := anyK (runFn impl_ApplyLaplacian.cfg impl_ApplyLaplacian.fin impl_ApplyLaplacian.code (initSt impl_ApplyLaplacian.sig.ps d 16))
noncomputable def impl_ApplyLaplacian.T (g_1 : Int) (g_2 : List (Int × Int × Int)) (x_3 : List Int) : Option ((List Int × Int × Unit) × (Unit)) :=
  (impl_withVector.F ((g_1, g_2), x_3, ())).bind fun r4 =>
    if ((r4.1.1 : Int) != (0 : Int)) = true then
      some (([], ((r4.1.1 : Int), ())), ())
    else
      (impl_laplace.F ((g_1, g_2), x_3, ())).bind fun r5 =>
        some ((r5.1.1, ((0 : Int), ())), ())
theorem impl_ApplyLaplacian.run (k : Nat) (g_1 : Int) (g_2 : List (Int × Int × Int)) (x_3 : List Int) : runFn impl_ApplyLaplacian.cfg impl_ApplyLaplacian.fin impl_ApplyLaplacian.code (initSt impl_ApplyLaplacian.sig.ps ((g_1, g_2), x_3, ()) 16) k = impl_ApplyLaplacian.T g_1 g_2 x_3 := by kernel_rfl
theorem impl_ApplyLaplacian.eq (g_1 : Int) (g_2 : List (Int × Int × Int)) (x_3 : List Int) : impl_ApplyLaplacian.F ((g_1, g_2), x_3, ()) = impl_ApplyLaplacian.T g_1 g_2 x_3 := (congrArg anyK (funext fun k => impl_ApplyLaplacian.run k g_1 g_2 x_3)).trans (anyK_const _)
theorem impl_ApplyLaplacian.ok : CtxOK Go.Proofs.Try.prog impl_ApplyLaplacian.ctx := ⟨List.forall_mem_nil _, mixed_ok, tab_ok tab_good, List.forall_mem_cons.2 ⟨impl_withVector.S, List.forall_mem_cons.2 ⟨impl_laplace.S, List.forall_mem_nil _⟩⟩, List.forall_mem_nil _⟩
theorem impl_ApplyLaplacian.S : Sound Go.Proofs.Try.prog ⟨25, impl_ApplyLaplacian.sig, impl_ApplyLaplacian.F⟩ := sound_any (fn := Go.Proofs.Try.f25) (code := impl_ApplyLaplacian.code) (g := impl_ApplyLaplacian.cfg) (res := [.tmp 4, .tmp 5]) Go.Proofs.Try.func25 (by kernel_rfl) (by kernel_rfl) impl_ApplyLaplacian.ok (by kernel_rfl) (by kernel_rfl) (Nat.le_of_ble_eq_true (by kernel_rfl)) (by kernel_rfl)
/-! ### laws_markEdgeS -/
noncomputable def laws_markEdgeS.sig : Sig := ⟨[.wr false (.sl TEdge) .deep, .val false (.int .i64)], [(.val false, (.int .i64), .deep)]⟩
noncomputable def laws_markEdgeS.ctx : Ctx := ⟨tabOf tabl, [], [], []⟩
noncomputable def laws_markEdgeS.cfg : Cfg := ⟨laws_markEdgeS.ctx, [0], [], fun id => match id with | 2 => ([0, 1, 5], [0]) | _ => ([], [])⟩
noncomputable def laws_markEdgeS.code : Code := (Go.Proofs.Try.f65).body.getD .skip
noncomputable def laws_markEdgeS.fin := finK laws_markEdgeS.ctx laws_markEdgeS.sig [.tmp 4]
noncomputable def laws_markEdgeS.F (d : List (Int × Int × Int) × Int × Unit) : Option ((Int × Unit) × (List (Int × Int × Int) × Unit)) := anyK (runFn laws_markEdgeS.cfg laws_markEdgeS.fin laws_markEdgeS.code (initSt laws_markEdgeS.sig.ps d 34))
noncomputable def laws_markEdgeS.l2 (k : Nat) (i3 : Int) (i4 : Int) (x5 : List (Int × Int × Int)) : Option ((Int × Unit) × (List (Int × Int × Int) × Unit)) :=
  Go.Vm.runT laws_markEdgeS.cfg laws_markEdgeS.fin k [.inLoop (sub [1, 0, 1, 0, 0] laws_markEdgeS.code), .inBlock 0, .code (sub [1, 1] laws_markEdgeS.code)]
    ⟨[.view 0 (.root 0) 1 false, .val false [⟨(.int .i64), .sh, i3⟩], .dead, .dead, .dead, .val false [⟨(.int .i64), .sh, i4⟩]] ++ deads 28, [(0, ⟨false, [⟨(.sl TEdge), .deep, x5⟩]⟩)]⟩
theorem laws_markEdgeS.l2_eq (k : Nat) (i3 : Int) (i4 : Int) (x5 : List (Int × Int × Int)) : laws_markEdgeS.l2 (k + 1) i3 i4 x5 =
  if (decide (i4 < (x5.length : Int))) = true then
    if 0 ≤ i4 ∧ i4 < (x5.length : Int) then
      if 0 ≤ i4 ∧ i4 < ((x5.set i4.toNat (i3, (x5.getD i4.toNat (0, 0, 0)).2)).length : Int) then
        let y6 : List (Int × Int × Int) := (x5.set i4.toNat (i3, (x5.getD i4.toNat (0, 0, 0)).2)).set i4.toNat ((((x5.set i4.toNat (i3, (x5.getD i4.toNat (0, 0, 0)).2)).getD i4.toNat (0, 0, 0)).1 : Int), (IntKind.i64.wrap (i3 + (1 : Int)), ((((x5.set i4.toNat (i3, (x5.getD i4.toNat (0, 0, 0)).2)).getD i4.toNat (0, 0, 0)).2).2 : Int)))
        if 0 ≤ i4 ∧ i4 < (y6.length : Int) then
          let y7 : List (Int × Int × Int) := y6.set i4.toNat (((y6.getD i4.toNat (0, 0, 0)).1 : Int), ((((y6.getD i4.toNat (0, 0, 0)).2).1 : Int), IntKind.i64.wrap ((IntKind.i64.wrap (i3 + (1 : Int))) + (1 : Int))))
          laws_markEdgeS.l2 k (IntKind.i64.wrap ((IntKind.i64.wrap ((IntKind.i64.wrap (i3 + (1 : Int))) + (1 : Int))) + (1 : Int))) (IntKind.i64.wrap (i4 + (1 : Int))) y7
        else
          none
      else
        none
    else
      none
  else
    some ((i3, ()), (x5, ())) := by kernel_rfl
noncomputable def laws_markEdgeS.T (k : Nat) (a_1 : List (Int × Int × Int)) (k_2 : Int) : Option ((Int × Unit) × (List (Int × Int × Int) × Unit)) :=
  laws_markEdgeS.l2 k k_2 (0 : Int) a_1
theorem laws_markEdgeS.run (k : Nat) (a_1 : List (Int × Int × Int)) (k_2 : Int) : runFn laws_markEdgeS.cfg laws_markEdgeS.fin laws_markEdgeS.code (initSt laws_markEdgeS.sig.ps (a_1, k_2, ()) 34) k = laws_markEdgeS.T k a_1 k_2 := by kernel_rfl
theorem laws_markEdgeS.of (a_1 : List (Int × Int × Int)) (k_2 : Int) {r : (Int × Unit) × (List (Int × Int × Int) × Unit)} (h : Ev (fun k => laws_markEdgeS.T k a_1 k_2) r) : laws_markEdgeS.F (a_1, k_2, ()) = some r := Ev.run (fun k => laws_markEdgeS.run k a_1 k_2) h
theorem laws_markEdgeS.ok : CtxOK Go.Proofs.Try.prog laws_markEdgeS.ctx := ⟨List.forall_mem_nil _, mixed_ok, tab_ok tab_good, List.forall_mem_nil _, List.forall_mem_nil _⟩
theorem laws_markEdgeS.S : Sound Go.Proofs.Try.prog ⟨65, laws_markEdgeS.sig, laws_markEdgeS.F⟩ := sound_any (fn := Go.Proofs.Try.f65) (code := laws_markEdgeS.code) (g := laws_markEdgeS.cfg) (res := [.tmp 4]) Go.Proofs.Try.func65 (by kernel_rfl) (by kernel_rfl) laws_markEdgeS.ok (by kernel_rfl) (by kernel_rfl) (Nat.le_of_ble_eq_true (by kernel_rfl)) (by kernel_rfl)
/-! ### laws_markGraph -/
noncomputable def laws_markGraph.sig : Sig := ⟨[.wr true TGraph .deep, .val false (.int .i64)], [(.val false, (.int .i64), .deep)]⟩
noncomputable def laws_markGraph.ctx : Ctx := ⟨tabOf tabl, [⟨65, laws_markEdgeS.sig, laws_markEdgeS.F⟩], [], []⟩
noncomputable def laws_markGraph.cfg : Cfg := ⟨laws_markGraph.ctx, [0], [], fun _ => ([], [])⟩
noncomputable def laws_markGraph.code : Code := (Go.Proofs.Try.f26).body.getD .skip
noncomputable def laws_markGraph.fin := finK laws_markGraph.ctx laws_markGraph.sig [.tmp 4]
noncomputable def laws_markGraph.F (d : (Int × List (Int × Int × Int)) × Int × Unit) : Option ((Int × Unit) × ((Int × List (Int × Int × Int)) × Unit)) := anyK (runFn laws_markGraph.cfg laws_markGraph.fin laws_markGraph.code (initSt laws_markGraph.sig.ps d 10))
noncomputable def laws_markGraph.T (a_1 : Int) (a_2 : List (Int × Int × Int)) (k_3 : Int) : Option ((Int × Unit) × ((Int × List (Int × Int × Int)) × Unit)) :=
  (laws_markEdgeS.F (a_2, k_3, ())).bind fun r4 =>
    some (((r4.1.1 : Int), ()), ((a_1, r4.2.1), ()))
theorem laws_markGraph.run (k : Nat) (a_1 : Int) (a_2 : List (Int × Int × Int)) (k_3 : Int) : runFn laws_markGraph.cfg laws_markGraph.fin laws_markGraph.code (initSt laws_markGraph.sig.ps ((a_1, a_2), k_3, ()) 10) k = laws_markGraph.T a_1 a_2 k_3 := by kernel_rfl
theorem laws_markGraph.eq (a_1 : Int) (a_2 : List (Int × Int × Int)) (k_3 : Int) : laws_markGraph.F ((a_1, a_2), k_3, ()) = laws_markGraph.T a_1 a_2 k_3 := (congrArg anyK (funext fun k => laws_markGraph.run k a_1 a_2 k_3)).trans (anyK_const _)
theorem laws_markGraph.ok : CtxOK Go.Proofs.Try.prog laws_markGraph.ctx := ⟨List.forall_mem_nil _, mixed_ok, tab_ok tab_good, List.forall_mem_cons.2 ⟨laws_markEdgeS.S, List.forall_mem_nil _⟩, List.forall_mem_nil _⟩
theorem laws_markGraph.S : Sound Go.Proofs.Try.prog ⟨26, laws_markGraph.sig, laws_markGraph.F⟩ := sound_any (fn := Go.Proofs.Try.f26) (code := laws_markGraph.code) (g := laws_markGraph.cfg) (res := [.tmp 4]) Go.Proofs.Try.func26 (by kernel_rfl) (by kernel_rfl) laws_markGraph.ok (by kernel_rfl) (by kernel_rfl) (Nat.le_of_ble_eq_true (by kernel_rfl)) (by kernel_rfl)
/-! ### laws_markInt64S -/
noncomputable def laws_markInt64S.sig : Sig := ⟨[.wr false (.sl (.int .i64)) .deep, .val false (.int .i64)], [(.val false, (.int .i64), .deep)]⟩
noncomputable def laws_markInt64S.ctx : Ctx := ⟨tabOf tabl, [], [], []⟩
noncomputable def laws_markInt64S.cfg : Cfg := ⟨laws_markInt64S.ctx, [0], [], fun id => match id with | 2 => ([0, 1, 5], [0]) | _ => ([], [])⟩
noncomputable def laws_markInt64S.code : Code := (Go.Proofs.Try.f27).body.getD .skip
noncomputable def laws_markInt64S.fin := finK laws_markInt64S.ctx laws_markInt64S.sig [.tmp 4]
noncomputable def laws_markInt64S.F (d : List Int × Int × Unit) : Option ((Int × Unit) × (List Int × Unit)) := anyK (runFn laws_markInt64S.cfg laws_markInt64S.fin laws_markInt64S.code (initSt laws_markInt64S.sig.ps d 19))
noncomputable def laws_markInt64S.l2 (k : Nat) (i3 : Int) (i4 : Int) (x5 : List Int) : Option ((Int × Unit) × (List Int × Unit)) :=
  Go.Vm.runT laws_markInt64S.cfg laws_markInt64S.fin k [.inLoop (sub [1, 0, 1, 0, 0] laws_markInt64S.code), .inBlock 0, .code (sub [1, 1] laws_markInt64S.code)]
    ⟨[.view 0 (.root 0) 1 false, .val false [⟨(.int .i64), .sh, i3⟩], .dead, .dead, .dead, .val false [⟨(.int .i64), .sh, i4⟩]] ++ deads 13, [(0, ⟨false, [⟨(.sl (.int .i64)), .deep, x5⟩]⟩)]⟩
theorem laws_markInt64S.l2_eq (k : Nat) (i3 : Int) (i4 : Int) (x5 : List Int) : laws_markInt64S.l2 (k + 1) i3 i4 x5 =
  if (decide (i4 < (x5.length : Int))) = true then
    if 0 ≤ i4 ∧ i4 < (x5.length : Int) then
      laws_markInt64S.l2 k (IntKind.i64.wrap (i3 + (1 : Int))) (IntKind.i64.wrap (i4 + (1 : Int))) (x5.set i4.toNat i3)
    else
      none
  else
    some ((i3, ()), (x5, ())) := by kernel_rfl
noncomputable def laws_markInt64S.T (k : Nat) (a_1 : List Int) (k_2 : Int) : Option ((Int × Unit) × (List Int × Unit)) :=
  laws_markInt64S.l2 k k_2 (0 : Int) a_1
theorem laws_markInt64S.run (k : Nat) (a_1 : List Int) (k_2 : Int) : runFn laws_markInt64S.cfg laws_markInt64S.fin laws_markInt64S.code (initSt laws_markInt64S.sig.ps (a_1, k_2, ()) 19) k = laws_markInt64S.T k a_1 k_2 := by kernel_rfl
theorem laws_markInt64S.of (a_1 : List Int) (k_2 : Int) {r : (Int × Unit) × (List Int × Unit)} (h : Ev (fun k => laws_markInt64S.T k a_1 k_2) r) : laws_markInt64S.F (a_1, k_2, ()) = some r := Ev.run (fun k => laws_markInt64S.run k a_1 k_2) h
theorem laws_markInt64S.ok : CtxOK Go.Proofs.Try.prog laws_markInt64S.ctx := ⟨List.forall_mem_nil _, mixed_ok, tab_ok tab_good, List.forall_mem_nil _, List.forall_mem_nil _⟩
theorem laws_markInt64S.S : Sound Go.Proofs.Try.prog ⟨27, laws_markInt64S.sig, laws_markInt64S.F⟩ := sound_any (fn := Go.Proofs.Try.f27) (code := laws_markInt64S.code) (g := laws_markInt64S.cfg) (res := [.tmp 4]) Go.Proofs.Try.func27 (by kernel_rfl) (by kernel_rfl) laws_markInt64S.ok (by kernel_rfl) (by kernel_rfl) (Nat.le_of_ble_eq_true (by kernel_rfl)) (by kernel_rfl)
/-! ### laws_heldInt64S -/
noncomputable def laws_heldInt64S.sig : Sig := ⟨[.val false (.sl (.int .i64)), .val false (.int .i64)], [(.val false, (.int .i64), .deep)]⟩
noncomputable def laws_heldInt64S.ctx : Ctx := ⟨tabOf tabl, [], [], []⟩
noncomputable def laws_heldInt64S.cfg : Cfg := ⟨laws_heldInt64S.ctx, [], [], fun id => match id with | 2 => ([0, 1, 5], []) | _ => ([], [])⟩
noncomputable def laws_heldInt64S.code : Code := (Go.Proofs.Try.f28).body.getD .skip
noncomputable def laws_heldInt64S.fin := finK laws_heldInt64S.ctx laws_heldInt64S.sig [.tmp 4]
noncomputable def laws_heldInt64S.F (d : List Int × Int × Unit) : Option ((Int × Unit) × (Unit)) := anyK (runFn laws_heldInt64S.cfg laws_heldInt64S.fin laws_heldInt64S.code (initSt laws_heldInt64S.sig.ps d 21))
noncomputable def laws_heldInt64S.l2 (k : Nat) (x3 : List Int) (i4 : Int) (i5 : Int) : Option ((Int × Unit) × (Unit)) :=
  Go.Vm.runT laws_heldInt64S.cfg laws_heldInt64S.fin k [.inLoop (sub [1, 0, 1, 0, 0] laws_heldInt64S.code), .inBlock 0, .code (sub [1, 1] laws_heldInt64S.code)]
    ⟨[.val false [⟨(.sl (.int .i64)), .sh, x3⟩], .val false [⟨(.int .i64), .sh, i4⟩], .dead, .dead, .dead, .val false [⟨(.int .i64), .sh, i5⟩]] ++ deads 15, []⟩
theorem laws_heldInt64S.l2_eq (k : Nat) (x3 : List Int) (i4 : Int) (i5 : Int) : laws_heldInt64S.l2 (k + 1) x3 i4 i5 =
  if (decide (i5 < (x3.length : Int))) = true then
    if 0 ≤ i5 ∧ i5 < (x3.length : Int) then
      if ((x3.getD i5.toNat 0 : Int) != i4) = true then
        some (((-1 : Int), ()), ())
      else
        laws_heldInt64S.l2 k x3 (IntKind.i64.wrap (i4 + (1 : Int))) (IntKind.i64.wrap (i5 + (1 : Int)))
    else
      none
  else
    some ((i4, ()), ()) := by kernel_rfl
noncomputable def laws_heldInt64S.T (k : Nat) (a_1 : List Int) (k_2 : Int) : Option ((Int × Unit) × (Unit)) :=
  laws_heldInt64S.l2 k a_1 k_2 (0 : Int)
theorem laws_heldInt64S.run (k : Nat) (a_1 : List Int) (k_2 : Int) : runFn laws_heldInt64S.cfg laws_heldInt64S.fin laws_heldInt64S.code (initSt laws_heldInt64S.sig.ps (a_1, k_2, ()) 21) k = laws_heldInt64S.T k a_1 k_2 := by kernel_rfl
theorem laws_heldInt64S.of (a_1 : List Int) (k_2 : Int) {r : (Int × Unit) × (Unit)} (h : Ev (fun k => laws_heldInt64S.T k a_1 k_2) r) : laws_heldInt64S.F (a_1, k_2, ()) = some r := Ev.run (fun k => laws_heldInt64S.run k a_1 k_2) h
theorem laws_heldInt64S.ok : CtxOK Go.Proofs.Try.prog laws_heldInt64S.ctx := ⟨List.forall_mem_nil _, mixed_ok, tab_ok tab_good, List.forall_mem_nil _, List.forall_mem_nil _⟩
theorem laws_heldInt64S.S : Sound Go.Proofs.Try.prog ⟨28, laws_heldInt64S.sig, laws_heldInt64S.F⟩ := sound_any (fn := Go.Proofs.Try.f28) (code := laws_heldInt64S.code) (g := laws_heldInt64S.cfg) (res := [.tmp 4]) Go.Proofs.Try.func28 (by kernel_rfl) (by kernel_rfl) laws_heldInt64S.ok (by kernel_rfl) (by kernel_rfl) (Nat.le_of_ble_eq_true (by kernel_rfl)) (by kernel_rfl)
/-! ### laws_FnExactApplyLaplacian -/
noncomputable def laws_FnExactApplyLaplacian.sig : Sig := ⟨[.val true TGraph, .val false (.sl (.int .i64))], [(.val false, .bool, .deep)]⟩
noncomputable def laws_FnExactApplyLaplacian.ctx : Ctx := ⟨tabOf tabl, [⟨12, laws_szGraph.sig, laws_szGraph.F⟩, ⟨14, laws_toGraph.sig, laws_toGraph.F⟩, ⟨15, laws_toInt64S.sig, laws_toInt64S.F⟩, ⟨17, laws_eqGraph.sig, laws_eqGraph.F⟩, ⟨18, laws_eqInt64S.sig, laws_eqInt64S.F⟩, ⟨24, spec_ApplyLaplacian.sig, spec_ApplyLaplacian.F⟩, ⟨25, impl_ApplyLaplacian.sig, impl_ApplyLaplacian.F⟩, ⟨26, laws_markGraph.sig, laws_markGraph.F⟩, ⟨27, laws_markInt64S.sig, laws_markInt64S.F⟩, ⟨28, laws_heldInt64S.sig, laws_heldInt64S.F⟩], [], []⟩
noncomputable def laws_FnExactApplyLaplacian.cfg : Cfg := ⟨laws_FnExactApplyLaplacian.ctx, [], [], fun _ => ([], [])⟩
noncomputable def laws_FnExactApplyLaplacian.code : Code := (Go.Proofs.Try.f5).body.getD .skip
noncomputable def laws_FnExactApplyLaplacian.fin := finK laws_FnExactApplyLaplacian.ctx laws_FnExactApplyLaplacian.sig [.tmp 4]
noncomputable def laws_FnExactApplyLaplacian.F (d : (Int × List (Int × Int × Int)) × List Int × Unit) : Option ((Bool × Unit) × (Unit)) := anyK (runFn laws_FnExactApplyLaplacian.cfg laws_FnExactApplyLaplacian.fin laws_FnExactApplyLaplacian.code (initSt laws_FnExactApplyLaplacian.sig.ps d 117))
noncomputable def laws_FnExactApplyLaplacian.T (toArray_1 : Int) (toArray_2 : List (Int × Int × Int)) (a_3 : List Int) : Option ((Bool × Unit) × (Unit)) :=
  if (decide ((a_3.length : Int) > (1048576 : Int))) = true then
    some ((true, ()), ())
  else
    (laws_szGraph.F ((toArray_1, toArray_2), (1048576 : Int), ())).bind fun r4 =>
      if (decide ((r4.1.1 : Int) < (0 : Int))) = true then
        some ((true, ()), ())
      else
        (laws_toGraph.F ((toArray_1, toArray_2), ())).bind fun r5 =>
          (laws_toInt64S.F (a_3, ())).bind fun r6 =>
            (spec_ApplyLaplacian.F (r5.1.1, r6.1.1, ())).bind fun r7 =>
              (laws_toGraph.F ((toArray_1, toArray_2), ())).bind fun r8 =>
                (laws_toInt64S.F (a_3, ())).bind fun r9 =>
                  (impl_ApplyLaplacian.F (r8.1.1, r9.1.1, ())).bind fun r10 =>
                    (laws_eqInt64S.F (r10.1.1, r7.1.1, ())).bind fun r11 =>
                      if (!(r11.1.1 : Bool)) = true then
                        some ((false, ()), ())
                      else
                        if ((r10.1.2.1 : Int) != (r7.1.2.1 : Int)) = true then
                          some ((false, ()), ())
                        else
                          (laws_toGraph.F ((toArray_1, toArray_2), ())).bind fun r12 =>
                            (laws_eqGraph.F (r8.1.1, r12.1.1, ())).bind fun r13 =>
                              if (!(r13.1.1 : Bool)) = true then
                                some ((false, ()), ())
                              else
                                (laws_toInt64S.F (a_3, ())).bind fun r14 =>
                                  (laws_eqInt64S.F (r9.1.1, r14.1.1, ())).bind fun r15 =>
                                    if (!(r15.1.1 : Bool)) = true then
                                      some ((false, ()), ())
                                    else
                                      (laws_markGraph.F (r8.1.1, (1 : Int), ())).bind fun r16 =>
                                        (laws_markInt64S.F (r9.1.1, (r16.1.1 : Int), ())).bind fun r17 =>
                                          if (decide ((r17.1.1 : Int) < (0 : Int))) = true then
                                            some ((false, ()), ())
                                          else
                                            (laws_eqInt64S.F (r10.1.1, r7.1.1, ())).bind fun r18 =>
                                              if (!(r18.1.1 : Bool)) = true then
                                                some ((false, ()), ())
                                              else
                                                if ((r10.1.2.1 : Int) != (r7.1.2.1 : Int)) = true then
                                                  some ((false, ()), ())
                                                else
                                                  (laws_markInt64S.F (r10.1.1, (1 : Int), ())).bind fun r19 =>
                                                    (laws_heldInt64S.F (r19.2.1, (1 : Int), ())).bind fun r20 =>
                                                      if (decide ((r20.1.1 : Int) < (0 : Int))) = true then
                                                        some ((false, ()), ())
                                                      else
                                                        if ((r20.1.1 : Int) != (r19.1.1 : Int)) = true then
                                                          some ((false, ()), ())
                                                        else
                                                          (laws_toGraph.F ((toArray_1, toArray_2), ())).bind fun r21 =>
                                                            (laws_toInt64S.F (a_3, ())).bind fun r22 =>
                                                              (impl_ApplyLaplacian.F (r21.1.1, r22.1.1, ())).bind fun r23 =>
                                                                (laws_eqInt64S.F (r23.1.1, r7.1.1, ())).bind fun r24 =>
                                                                  if (!(r24.1.1 : Bool)) = true then
                                                                    some ((false, ()), ())
                                                                  else
                                                                    if ((r23.1.2.1 : Int) != (r7.1.2.1 : Int)) = true then
                                                                      some ((false, ()), ())
                                                                    else
                                                                      (laws_heldInt64S.F (r19.2.1, (1 : Int), ())).bind fun r25 =>
                                                                        if (decide ((r25.1.1 : Int) < (0 : Int))) = true then
                                                                          some ((false, ()), ())
                                                                        else
                                                                          if ((r25.1.1 : Int) != (r19.1.1 : Int)) = true then
                                                                            some ((false, ()), ())
                                                                          else
                                                                            some ((true, ()), ())
theorem laws_FnExactApplyLaplacian.run (k : Nat) (toArray_1 : Int) (toArray_2 : List (Int × Int × Int)) (a_3 : List Int) : runFn laws_FnExactApplyLaplacian.cfg laws_FnExactApplyLaplacian.fin laws_FnExactApplyLaplacian.code (initSt laws_FnExactApplyLaplacian.sig.ps ((toArray_1, toArray_2), a_3, ()) 117) k = laws_FnExactApplyLaplacian.T toArray_1 toArray_2 a_3 := by kernel_rfl
theorem laws_FnExactApplyLaplacian.eq (toArray_1 : Int) (toArray_2 : List (Int × Int × Int)) (a_3 : List Int) : laws_FnExactApplyLaplacian.F ((toArray_1, toArray_2), a_3, ()) = laws_FnExactApplyLaplacian.T toArray_1 toArray_2 a_3 := (congrArg anyK (funext fun k => laws_FnExactApplyLaplacian.run k toArray_1 toArray_2 a_3)).trans (anyK_const _)
theorem laws_FnExactApplyLaplacian.ok : CtxOK Go.Proofs.Try.prog laws_FnExactApplyLaplacian.ctx := ⟨List.forall_mem_nil _, mixed_ok, tab_ok tab_good, List.forall_mem_cons.2 ⟨laws_szGraph.S, List.forall_mem_cons.2 ⟨laws_toGraph.S, List.forall_mem_cons.2 ⟨laws_toInt64S.S, List.forall_mem_cons.2 ⟨laws_eqGraph.S, List.forall_mem_cons.2 ⟨laws_eqInt64S.S, List.forall_mem_cons.2 ⟨spec_ApplyLaplacian.S, List.forall_mem_cons.2 ⟨impl_ApplyLaplacian.S, List.forall_mem_cons.2 ⟨laws_markGraph.S, List.forall_mem_cons.2 ⟨laws_markInt64S.S, List.forall_mem_cons.2 ⟨laws_heldInt64S.S, List.forall_mem_nil _⟩⟩⟩⟩⟩⟩⟩⟩⟩⟩, List.forall_mem_nil _⟩
theorem laws_FnExactApplyLaplacian.S : Sound Go.Proofs.Try.prog ⟨5, laws_FnExactApplyLaplacian.sig, laws_FnExactApplyLaplacian.F⟩ := sound_any (fn := Go.Proofs.Try.f5) (code := laws_FnExactApplyLaplacian.code) (g := laws_FnExactApplyLaplacian.cfg) (res := [.tmp 4]) Go.Proofs.Try.func5 (by kernel_rfl) (by kernel_rfl) laws_FnExactApplyLaplacian.ok (by kernel_rfl) (by kernel_rfl) (Nat.le_of_ble_eq_true (by kernel_rfl)) (by kernel_rfl)
end Go.Proofs.Ytpibalgbkhpcbaa
