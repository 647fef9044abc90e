/- The functions, as the machine runs them. -/
import Derived.Test.YtlpmcplimfioeaaVm3
import Derived.Test.YtlpmcplimfioeaaProg
import Derived.KernelRfl
namespace Go.Proofs.Ytlpmcplimfioeaa
open Go Go.Vm
set_option linter.unusedVariables false
set_option linter.unusedSimpArgs false
abbrev TEdge_1 : Ty := .pair (.int .i64) (.int .i64)
abbrev TEdge : Ty := .pair (.int .i64) TEdge_1
abbrev TGraph : Ty := .pair (.int .i64) (.sl TEdge)
def tabl : List (Nat × TInfo) := [
  (2, ⟨false, (.int .i64), 0, []⟩),
  (3, ⟨false, (.int .i64), 0, []⟩),
  (4, ⟨false, .bool, 0, []⟩),
  (22, ⟨false, (.sl TEdge), 66, []⟩),
  (24, ⟨true, TGraph, 0, [(0, 1, false), (1, 1, false)]⟩),
  (27, ⟨false, (.sl TEdge), 51, []⟩),
  (29, ⟨true, TGraph, 0, [(0, 1, false), (1, 1, false)]⟩),
  (51, ⟨true, TEdge, 0, [(0, 1, false), (1, 1, false), (2, 1, false)]⟩),
  (66, ⟨true, TEdge, 0, [(0, 1, false), (1, 1, false), (2, 1, false)]⟩)]
theorem tab_good : tabB Go.Proofs.Try.prog tabl = true := by kernel_rfl
theorem tab_open : openB Go.Proofs.Try.prog tabl = true := by kernel_rfl
theorem mixed_ok : Go.Proofs.Try.prog.follows .mixedOrders = true := by kernel_rfl
theorem eqT51 : eqRowB Go.Proofs.Try.prog (tabOf tabl) 51 = true := by kernel_rfl
/-! ### laws_szEdgeS -/
noncomputable def laws_szEdgeS.sig : Sig := ⟨[.val false (.sl TEdge), .val false (.int .i64)], [(.val false, (.int .i64), .deep)]⟩
noncomputable def laws_szEdgeS.ctx : Ctx := ⟨tabOf tabl, [], [], []⟩
noncomputable def laws_szEdgeS.cfg : Cfg := ⟨laws_szEdgeS.ctx, [], [], fun _ => ([], [])⟩
noncomputable def laws_szEdgeS.code : Code := (Go.Proofs.Try.f32).body.getD .skip
noncomputable def laws_szEdgeS.fin := finK laws_szEdgeS.ctx laws_szEdgeS.sig [.tmp 4]
noncomputable def laws_szEdgeS.F (d : List (Int × Int × Int) × Int × Unit) : Option ((Int × Unit) × (Unit)) := anyK (runFn laws_szEdgeS.cfg laws_szEdgeS.fin laws_szEdgeS.code (initSt laws_szEdgeS.sig.ps d 12))
noncomputable def laws_szEdgeS.T (a_1 : List (Int × Int × Int)) (left_2 : Int) : Option ((Int × Unit) × (Unit)) :=
  if (decide ((IntKind.i64.wrap (left_2 - (a_1.length : Int))) < (0 : Int))) = true then
    some (((-1 : Int), ()), ())
  else
    some ((IntKind.i64.wrap (left_2 - (a_1.length : Int)), ()), ())
theorem laws_szEdgeS.run (k : Nat) (a_1 : List (Int × Int × Int)) (left_2 : Int) : runFn laws_szEdgeS.cfg laws_szEdgeS.fin laws_szEdgeS.code (initSt laws_szEdgeS.sig.ps (a_1, left_2, ()) 12) k = laws_szEdgeS.T a_1 left_2 := by kernel_rfl
theorem laws_szEdgeS.eq (a_1 : List (Int × Int × Int)) (left_2 : Int) : laws_szEdgeS.F (a_1, left_2, ()) = laws_szEdgeS.T a_1 left_2 := (congrArg anyK (funext fun k => laws_szEdgeS.run k a_1 left_2)).trans (anyK_const _)
theorem laws_szEdgeS.ok : CtxOK Go.Proofs.Try.prog laws_szEdgeS.ctx := ⟨List.forall_mem_nil _, mixed_ok, tab_ok tab_good, List.forall_mem_nil _, List.forall_mem_nil _⟩
theorem laws_szEdgeS.S : Sound Go.Proofs.Try.prog ⟨32, laws_szEdgeS.sig, laws_szEdgeS.F⟩ := sound_any (fn := Go.Proofs.Try.f32) (code := laws_szEdgeS.code) (g := laws_szEdgeS.cfg) (res := [.tmp 4]) Go.Proofs.Try.func32 (by kernel_rfl) (by kernel_rfl) laws_szEdgeS.ok (by kernel_rfl) (by kernel_rfl) (Nat.le_of_ble_eq_true (by kernel_rfl)) (by kernel_rfl)
/-! ### laws_szGraph -/
noncomputable def laws_szGraph.sig : Sig := ⟨[.val true TGraph, .val false (.int .i64)], [(.val false, (.int .i64), .deep)]⟩
noncomputable def laws_szGraph.ctx : Ctx := ⟨tabOf tabl, [⟨32, laws_szEdgeS.sig, laws_szEdgeS.F⟩], [], []⟩
noncomputable def laws_szGraph.cfg : Cfg := ⟨laws_szGraph.ctx, [], [], fun _ => ([], [])⟩
noncomputable def laws_szGraph.code : Code := (Go.Proofs.Try.f9).body.getD .skip
noncomputable def laws_szGraph.fin := finK laws_szGraph.ctx laws_szGraph.sig [.tmp 4]
noncomputable def laws_szGraph.F (d : (Int × List (Int × Int × Int)) × Int × Unit) : Option ((Int × Unit) × (Unit)) := anyK (runFn laws_szGraph.cfg laws_szGraph.fin laws_szGraph.code (initSt laws_szGraph.sig.ps d 12))
noncomputable def laws_szGraph.T (a_1 : Int) (a_2 : List (Int × Int × Int)) (left_3 : Int) : Option ((Int × Unit) × (Unit)) :=
  (laws_szEdgeS.F (a_2, left_3, ())).bind fun r4 =>
    if (decide ((r4.1.1 : Int) < (0 : Int))) = true then
      some (((-1 : Int), ()), ())
    else
      some (((r4.1.1 : Int), ()), ())
theorem laws_szGraph.run (k : Nat) (a_1 : Int) (a_2 : List (Int × Int × Int)) (left_3 : Int) : runFn laws_szGraph.cfg laws_szGraph.fin laws_szGraph.code (initSt laws_szGraph.sig.ps ((a_1, a_2), left_3, ()) 12) k = laws_szGraph.T a_1 a_2 left_3 := by kernel_rfl
theorem laws_szGraph.eq (a_1 : Int) (a_2 : List (Int × Int × Int)) (left_3 : Int) : laws_szGraph.F ((a_1, a_2), left_3, ()) = laws_szGraph.T a_1 a_2 left_3 := (congrArg anyK (funext fun k => laws_szGraph.run k a_1 a_2 left_3)).trans (anyK_const _)
theorem laws_szGraph.ok : CtxOK Go.Proofs.Try.prog laws_szGraph.ctx := ⟨List.forall_mem_nil _, mixed_ok, tab_ok tab_good, List.forall_mem_cons.2 ⟨laws_szEdgeS.S, List.forall_mem_nil _⟩, List.forall_mem_nil _⟩
theorem laws_szGraph.S : Sound Go.Proofs.Try.prog ⟨9, laws_szGraph.sig, laws_szGraph.F⟩ := sound_any (fn := Go.Proofs.Try.f9) (code := laws_szGraph.code) (g := laws_szGraph.cfg) (res := [.tmp 4]) Go.Proofs.Try.func9 (by kernel_rfl) (by kernel_rfl) laws_szGraph.ok (by kernel_rfl) (by kernel_rfl) (Nat.le_of_ble_eq_true (by kernel_rfl)) (by kernel_rfl)
/-! ### spec_SameGraph -/
noncomputable def spec_SameGraph.sig : Sig := ⟨[.val true TGraph, .val true TGraph], [(.val false, .bool, .deep)]⟩
noncomputable def spec_SameGraph.ctx : Ctx := ⟨tabOf tabl, [], [], [51]⟩
noncomputable def spec_SameGraph.cfg : Cfg := ⟨spec_SameGraph.ctx, [], [], fun id => match id with | 4 => ([2, 3, 5], [8, 12]) | _ => ([], [])⟩
noncomputable def spec_SameGraph.code : Code := (Go.Proofs.Try.f10).body.getD .skip
noncomputable def spec_SameGraph.fin := finK spec_SameGraph.ctx spec_SameGraph.sig [.tmp 4]
noncomputable def spec_SameGraph.F (d : (Int × List (Int × Int × Int)) × (Int × List (Int × Int × Int)) × Unit) : Option ((Bool × Unit) × (Unit)) := anyK (runFn spec_SameGraph.cfg spec_SameGraph.fin spec_SameGraph.code (initSt spec_SameGraph.sig.ps d 38))
noncomputable def spec_SameGraph.l4 (k : Nat) (i5 : Int) (i6 : Int) (x7 : List (Int × Int × Int)) (i8 : Int) (x9 : List (Int × Int × Int)) : Option ((Bool × Unit) × (Unit)) :=
  Go.Vm.runT spec_SameGraph.cfg spec_SameGraph.fin k [.inLoop (sub [1, 1, 0, 1, 0, 0] spec_SameGraph.code), .inBlock 0, .code (sub [1, 1, 1] spec_SameGraph.code)]
    ⟨[.dead, .dead, .ref 8 (.root 0), .ref 12 (.root 0), .dead, .val false [⟨(.int .i64), .sh, i5⟩]] ++ deads 32, [(8, ⟨true, [⟨(.int .i64), .sh, i6⟩, ⟨(.sl TEdge), .sh, x7⟩]⟩), (12, ⟨true, [⟨(.int .i64), .sh, i8⟩, ⟨(.sl TEdge), .sh, x9⟩]⟩)]⟩
theorem spec_SameGraph.l4_eq (k : Nat) (i5 : Int) (i6 : Int) (x7 : List (Int × Int × Int)) (i8 : Int) (x9 : List (Int × Int × Int)) : spec_SameGraph.l4 (k + 1) i5 i6 x7 i8 x9 =
  if (decide (i5 < (x7.length : Int))) = true then
    if 0 ≤ i5 ∧ i5 < (x7.length : Int) then
      if 0 ≤ i5 ∧ i5 < (x9.length : Int) then
        if (!(eqT TEdge (x7.getD i5.toNat (0, 0, 0)) (x9.getD i5.toNat (0, 0, 0)))) = true then
          some ((false, ()), ())
        else
          spec_SameGraph.l4 k (IntKind.i64.wrap (i5 + (1 : Int))) i6 x7 i8 x9
      else
        none
    else
      none
  else
    some ((true, ()), ()) := by kernel_rfl
noncomputable def spec_SameGraph.T (k : Nat) (a_1 : Int) (a_2 : List (Int × Int × Int)) (b_3 : Int) (b_4 : List (Int × Int × Int)) : Option ((Bool × Unit) × (Unit)) :=
  if (a_1 != b_3) = true then
    some ((false, ()), ())
  else
    if ((a_2.length : Int) != (b_4.length : Int)) = true then
      some ((false, ()), ())
    else
      spec_SameGraph.l4 k (0 : Int) a_1 a_2 b_3 b_4
theorem spec_SameGraph.run (k : Nat) (a_1 : Int) (a_2 : List (Int × Int × Int)) (b_3 : Int) (b_4 : List (Int × Int × Int)) : runFn spec_SameGraph.cfg spec_SameGraph.fin spec_SameGraph.code (initSt spec_SameGraph.sig.ps ((a_1, a_2), (b_3, b_4), ()) 38) k = spec_SameGraph.T k a_1 a_2 b_3 b_4 := by kernel_rfl
theorem spec_SameGraph.of (a_1 : Int) (a_2 : List (Int × Int × Int)) (b_3 : Int) (b_4 : List (Int × Int × Int)) {r : (Bool × Unit) × (Unit)} (h : Ev (fun k => spec_SameGraph.T k a_1 a_2 b_3 b_4) r) : spec_SameGraph.F ((a_1, a_2), (b_3, b_4), ()) = some r := Ev.run (fun k => spec_SameGraph.run k a_1 a_2 b_3 b_4) h
theorem spec_SameGraph.ok : CtxOK Go.Proofs.Try.prog spec_SameGraph.ctx := ⟨List.forall_mem_cons.2 ⟨eq_ok eqT51, List.forall_mem_nil _⟩, mixed_ok, tab_ok tab_good, List.forall_mem_nil _, List.forall_mem_nil _⟩
theorem spec_SameGraph.S : Sound Go.Proofs.Try.prog ⟨10, spec_SameGraph.sig, spec_SameGraph.F⟩ := sound_any (fn := Go.Proofs.Try.f10) (code := spec_SameGraph.code) (g := spec_SameGraph.cfg) (res := [.tmp 4]) Go.Proofs.Try.func10 (by kernel_rfl) (by kernel_rfl) spec_SameGraph.ok (by kernel_rfl) (by kernel_rfl) (Nat.le_of_ble_eq_true (by kernel_rfl)) (by kernel_rfl)
/-! ### laws_toEdge -/
noncomputable def laws_toEdge.sig : Sig := ⟨[.val true TEdge], [(.val true, TEdge, .deep)]⟩
noncomputable def laws_toEdge.ctx : Ctx := ⟨tabOf tabl, [], [], []⟩
noncomputable def laws_toEdge.cfg : Cfg := ⟨laws_toEdge.ctx, [], [], fun _ => ([], [])⟩
noncomputable def laws_toEdge.code : Code := (Go.Proofs.Try.f46).body.getD .skip
noncomputable def laws_toEdge.fin := finK laws_toEdge.ctx laws_toEdge.sig [.cell 2 51]
noncomputable def laws_toEdge.F (d : (Int × Int × Int) × Unit) : Option (((Int × Int × Int) × Unit) × (Unit)) := anyK (runFn laws_toEdge.cfg laws_toEdge.fin laws_toEdge.code (initSt laws_toEdge.sig.ps d 14))
noncomputable def laws_toEdge.T (a_1 : Int) (a_2 : Int) (a_3 : Int) : Option (((Int × Int × Int) × Unit) × (Unit)) :=
  some (((a_1, (a_2, a_3)), ()), ())
theorem laws_toEdge.run (k : Nat) (a_1 : Int) (a_2 : Int) (a_3 : Int) : runFn laws_toEdge.cfg laws_toEdge.fin laws_toEdge.code (initSt laws_toEdge.sig.ps ((a_1, (a_2, a_3)), ()) 14) k = laws_toEdge.T a_1 a_2 a_3 := by kernel_rfl
theorem laws_toEdge.eq (a_1 : Int) (a_2 : Int) (a_3 : Int) : laws_toEdge.F ((a_1, (a_2, a_3)), ()) = laws_toEdge.T a_1 a_2 a_3 := (congrArg anyK (funext fun k => laws_toEdge.run k a_1 a_2 a_3)).trans (anyK_const _)
theorem laws_toEdge.ok : CtxOK Go.Proofs.Try.prog laws_toEdge.ctx := ⟨List.forall_mem_nil _, mixed_ok, tab_ok tab_good, List.forall_mem_nil _, List.forall_mem_nil _⟩
theorem laws_toEdge.S : Sound Go.Proofs.Try.prog ⟨46, laws_toEdge.sig, laws_toEdge.F⟩ := sound_any (fn := Go.Proofs.Try.f46) (code := laws_toEdge.code) (g := laws_toEdge.cfg) (res := [.cell 2 51]) Go.Proofs.Try.func46 (by kernel_rfl) (by kernel_rfl) laws_toEdge.ok (by kernel_rfl) (by kernel_rfl) (Nat.le_of_ble_eq_true (by kernel_rfl)) (by kernel_rfl)
/-! ### laws_toEdgeS -/
noncomputable def laws_toEdgeS.sig : Sig := ⟨[.val false (.sl TEdge)], [(.val false, (.sl TEdge), .deep)]⟩
noncomputable def laws_toEdgeS.ctx : Ctx := ⟨tabOf tabl, [⟨46, laws_toEdge.sig, laws_toEdge.F⟩], [], []⟩
noncomputable def laws_toEdgeS.cfg : Cfg := ⟨laws_toEdgeS.ctx, [], [], fun id => match id with | 3 => ([0, 3, 4], [12]) | _ => ([], [])⟩
noncomputable def laws_toEdgeS.code : Code := (Go.Proofs.Try.f33).body.getD .skip
noncomputable def laws_toEdgeS.fin := finK laws_toEdgeS.ctx laws_toEdgeS.sig [.tmp 2]
noncomputable def laws_toEdgeS.F (d : List (Int × Int × Int) × Unit) : Option ((List (Int × Int × Int) × Unit) × (Unit)) := anyK (runFn laws_toEdgeS.cfg laws_toEdgeS.fin laws_toEdgeS.code (initSt laws_toEdgeS.sig.ps d 23))
noncomputable def laws_toEdgeS.l3 (k : Nat) (x2 : List (Int × Int × Int)) (i3 : Int) (x4 : List (Int × Int × Int)) : Option ((List (Int × Int × Int) × Unit) × (Unit)) :=
  Go.Vm.runT laws_toEdgeS.cfg laws_toEdgeS.fin k [.inLoop (sub [1, 1, 0, 1, 0, 0] laws_toEdgeS.code), .inBlock 0, .code (sub [1, 1, 1] laws_toEdgeS.code)]
    ⟨[.val false [⟨(.sl TEdge), .sh, x2⟩], .dead, .dead, .view 12 (.root 0) 1 false, .val false [⟨(.int .i64), .sh, i3⟩]] ++ deads 18, [(12, ⟨false, [⟨(.sl TEdge), .deep, x4⟩]⟩)]⟩
theorem laws_toEdgeS.l3_eq (k : Nat) (x2 : List (Int × Int × Int)) (i3 : Int) (x4 : List (Int × Int × Int)) : laws_toEdgeS.l3 (k + 1) x2 i3 x4 =
  if (decide (i3 < (x2.length : Int))) = true then
    if 0 ≤ i3 ∧ i3 < (x2.length : Int) then
      (laws_toEdge.F (x2.getD i3.toNat (0, 0, 0), ())).bind fun r5 =>
        if 0 ≤ i3 ∧ i3 < (x4.length : Int) then
          laws_toEdgeS.l3 k x2 (IntKind.i64.wrap (i3 + (1 : Int))) (x4.set i3.toNat r5.1.1)
        else
          none
    else
      none
  else
    some ((x4, ()), ()) := by kernel_rfl
noncomputable def laws_toEdgeS.T (k : Nat) (a_1 : List (Int × Int × Int)) : Option ((List (Int × Int × Int) × Unit) × (Unit)) :=
  if 0 ≤ (a_1.length : Int) ∧ (a_1.length : Int) ≤ (bigN : Int) then
    laws_toEdgeS.l3 k a_1 (0 : Int) (List.replicate (a_1.length : Int).toNat (0, 0, 0))
  else
    none
theorem laws_toEdgeS.run (k : Nat) (a_1 : List (Int × Int × Int)) : runFn laws_toEdgeS.cfg laws_toEdgeS.fin laws_toEdgeS.code (initSt laws_toEdgeS.sig.ps (a_1, ()) 23) k = laws_toEdgeS.T k a_1 := by kernel_rfl
theorem laws_toEdgeS.of (a_1 : List (Int × Int × Int)) {r : (List (Int × Int × Int) × Unit) × (Unit)} (h : Ev (fun k => laws_toEdgeS.T k a_1) r) : laws_toEdgeS.F (a_1, ()) = some r := Ev.run (fun k => laws_toEdgeS.run k a_1) h
theorem laws_toEdgeS.ok : CtxOK Go.Proofs.Try.prog laws_toEdgeS.ctx := ⟨List.forall_mem_nil _, mixed_ok, tab_ok tab_good, List.forall_mem_cons.2 ⟨laws_toEdge.S, List.forall_mem_nil _⟩, List.forall_mem_nil _⟩
theorem laws_toEdgeS.S : Sound Go.Proofs.Try.prog ⟨33, laws_toEdgeS.sig, laws_toEdgeS.F⟩ := sound_any (fn := Go.Proofs.Try.f33) (code := laws_toEdgeS.code) (g := laws_toEdgeS.cfg) (res := [.tmp 2]) Go.Proofs.Try.func33 (by kernel_rfl) (by kernel_rfl) laws_toEdgeS.ok (by kernel_rfl) (by kernel_rfl) (Nat.le_of_ble_eq_true (by kernel_rfl)) (by kernel_rfl)
/-! ### laws_toGraph -/
noncomputable def laws_toGraph.sig : Sig := ⟨[.val true TGraph], [(.val true, TGraph, .deep)]⟩
noncomputable def laws_toGraph.ctx : Ctx := ⟨tabOf tabl, [⟨33, laws_toEdgeS.sig, laws_toEdgeS.F⟩], [], []⟩
noncomputable def laws_toGraph.cfg : Cfg := ⟨laws_toGraph.ctx, [], [], fun _ => ([], [])⟩
noncomputable def laws_toGraph.code : Code := (Go.Proofs.Try.f11).body.getD .skip
noncomputable def laws_toGraph.fin := finK laws_toGraph.ctx laws_toGraph.sig [.cell 2 29]
noncomputable def laws_toGraph.F (d : (Int × List (Int × Int × Int)) × Unit) : Option (((Int × List (Int × Int × Int)) × Unit) × (Unit)) := anyK (runFn laws_toGraph.cfg laws_toGraph.fin laws_toGraph.code (initSt laws_toGraph.sig.ps d 12))
noncomputable def laws_toGraph.T (a_1 : Int) (a_2 : List (Int × Int × Int)) : Option (((Int × List (Int × Int × Int)) × Unit) × (Unit)) :=
  (laws_toEdgeS.F (a_2, ())).bind fun r3 =>
    some (((a_1, r3.1.1), ()), ())
theorem laws_toGraph.run (k : Nat) (a_1 : Int) (a_2 : List (Int × Int × Int)) : runFn laws_toGraph.cfg laws_toGraph.fin laws_toGraph.code (initSt laws_toGraph.sig.ps ((a_1, a_2), ()) 12) k = laws_toGraph.T a_1 a_2 := by kernel_rfl
theorem laws_toGraph.eq (a_1 : Int) (a_2 : List (Int × Int × Int)) : laws_toGraph.F ((a_1, a_2), ()) = laws_toGraph.T a_1 a_2 := (congrArg anyK (funext fun k => laws_toGraph.run k a_1 a_2)).trans (anyK_const _)
theorem laws_toGraph.ok : CtxOK Go.Proofs.Try.prog laws_toGraph.ctx := ⟨List.forall_mem_nil _, mixed_ok, tab_ok tab_good, List.forall_mem_cons.2 ⟨laws_toEdgeS.S, List.forall_mem_nil _⟩, List.forall_mem_nil _⟩
theorem laws_toGraph.S : Sound Go.Proofs.Try.prog ⟨11, laws_toGraph.sig, laws_toGraph.F⟩ := sound_any (fn := Go.Proofs.Try.f11) (code := laws_toGraph.code) (g := laws_toGraph.cfg) (res := [.cell 2 29]) Go.Proofs.Try.func11 (by kernel_rfl) (by kernel_rfl) laws_toGraph.ok (by kernel_rfl) (by kernel_rfl) (Nat.le_of_ble_eq_true (by kernel_rfl)) (by kernel_rfl)
/-! ### slices_Equal_Limpl_Edge_impl_Edge -/
noncomputable def slices_Equal_Limpl_Edge_impl_Edge.sig : Sig := ⟨[.val false (.sl TEdge), .val false (.sl TEdge)], [(.val false, .bool, .deep)]⟩
noncomputable def slices_Equal_Limpl_Edge_impl_Edge.ctx : Ctx := ⟨tabOf tabl, [], [], [51]⟩
noncomputable def slices_Equal_Limpl_Edge_impl_Edge.cfg : Cfg := ⟨slices_Equal_Limpl_Edge_impl_Edge.ctx, [], [], fun id => match id with | 4 => ([0, 1, 12, 13], []) | _ => ([], [])⟩
noncomputable def slices_Equal_Limpl_Edge_impl_Edge.code : Code := (Go.Proofs.Try.f34).body.getD .skip
noncomputable def slices_Equal_Limpl_Edge_impl_Edge.fin := finK slices_Equal_Limpl_Edge_impl_Edge.ctx slices_Equal_Limpl_Edge_impl_Edge.sig [.tmp 4]
noncomputable def slices_Equal_Limpl_Edge_impl_Edge.F (d : List (Int × Int × Int) × List (Int × Int × Int) × Unit) : Option ((Bool × Unit) × (Unit)) := anyK (runFn slices_Equal_Limpl_Edge_impl_Edge.cfg slices_Equal_Limpl_Edge_impl_Edge.fin slices_Equal_Limpl_Edge_impl_Edge.code (initSt slices_Equal_Limpl_Edge_impl_Edge.sig.ps d 26))
noncomputable def slices_Equal_Limpl_Edge_impl_Edge.l4 (k : Nat) (x3 : List (Int × Int × Int)) (x4 : List (Int × Int × Int)) (i5 : Int) (i6 : Int) : Option ((Bool × Unit) × (Unit)) :=
  Go.Vm.runT slices_Equal_Limpl_Edge_impl_Edge.cfg slices_Equal_Limpl_Edge_impl_Edge.fin k [.inLoop (sub [1, 1, 0, 1, 0, 0] slices_Equal_Limpl_Edge_impl_Edge.code), .inBlock 0, .code (sub [1, 1, 1] slices_Equal_Limpl_Edge_impl_Edge.code)]
    ⟨[.val false [⟨(.sl TEdge), .sh, x3⟩], .val false [⟨(.sl TEdge), .sh, x4⟩], .dead, .dead, .dead, .dead, .dead, .dead, .dead, .dead, .dead, .dead, .val false [⟨(.int .i64), .sh, i5⟩], .val false [⟨(.int .i64), .sh, i6⟩]] ++ deads 12, []⟩
theorem slices_Equal_Limpl_Edge_impl_Edge.l4_eq (k : Nat) (x3 : List (Int × Int × Int)) (x4 : List (Int × Int × Int)) (i5 : Int) (i6 : Int) : slices_Equal_Limpl_Edge_impl_Edge.l4 (k + 1) x3 x4 i5 i6 =
  if (decide (i6 < i5)) = true then
    if 0 ≤ i6 ∧ i6 < (x3.length : Int) then
      if 0 ≤ i6 ∧ i6 < (x4.length : Int) then
        if (!(eqT TEdge (x3.getD i6.toNat (0, 0, 0)) (x4.getD i6.toNat (0, 0, 0)))) = true then
          some ((false, ()), ())
        else
          slices_Equal_Limpl_Edge_impl_Edge.l4 k x3 x4 i5 (IntKind.i64.wrap (i6 + (1 : Int)))
      else
        none
    else
      none
  else
    some ((true, ()), ()) := by kernel_rfl
noncomputable def slices_Equal_Limpl_Edge_impl_Edge.T (k : Nat) (s1_1 : List (Int × Int × Int)) (s2_2 : List (Int × Int × Int)) : Option ((Bool × Unit) × (Unit)) :=
  if ((s1_1.length : Int) != (s2_2.length : Int)) = true then
    some ((false, ()), ())
  else
    slices_Equal_Limpl_Edge_impl_Edge.l4 k s1_1 s2_2 (s1_1.length : Int) (0 : Int)
theorem slices_Equal_Limpl_Edge_impl_Edge.run (k : Nat) (s1_1 : List (Int × Int × Int)) (s2_2 : List (Int × Int × Int)) : runFn slices_Equal_Limpl_Edge_impl_Edge.cfg slices_Equal_Limpl_Edge_impl_Edge.fin slices_Equal_Limpl_Edge_impl_Edge.code (initSt slices_Equal_Limpl_Edge_impl_Edge.sig.ps (s1_1, s2_2, ()) 26) k = slices_Equal_Limpl_Edge_impl_Edge.T k s1_1 s2_2 := by kernel_rfl
theorem slices_Equal_Limpl_Edge_impl_Edge.of (s1_1 : List (Int × Int × Int)) (s2_2 : List (Int × Int × Int)) {r : (Bool × Unit) × (Unit)} (h : Ev (fun k => slices_Equal_Limpl_Edge_impl_Edge.T k s1_1 s2_2) r) : slices_Equal_Limpl_Edge_impl_Edge.F (s1_1, s2_2, ()) = some r := Ev.run (fun k => slices_Equal_Limpl_Edge_impl_Edge.run k s1_1 s2_2) h
theorem slices_Equal_Limpl_Edge_impl_Edge.ok : CtxOK Go.Proofs.Try.prog slices_Equal_Limpl_Edge_impl_Edge.ctx := ⟨List.forall_mem_cons.2 ⟨eq_ok eqT51, List.forall_mem_nil _⟩, mixed_ok, tab_ok tab_good, List.forall_mem_nil _, List.forall_mem_nil _⟩
theorem slices_Equal_Limpl_Edge_impl_Edge.S : Sound Go.Proofs.Try.prog ⟨34, slices_Equal_Limpl_Edge_impl_Edge.sig, slices_Equal_Limpl_Edge_impl_Edge.F⟩ := sound_any (fn := Go.Proofs.Try.f34) (code := slices_Equal_Limpl_Edge_impl_Edge.code) (g := slices_Equal_Limpl_Edge_impl_Edge.cfg) (res := [.tmp 4]) Go.Proofs.Try.func34 (by kernel_rfl) (by kernel_rfl) slices_Equal_Limpl_Edge_impl_Edge.ok (by kernel_rfl) (by kernel_rfl) (Nat.le_of_ble_eq_true (by kernel_rfl)) (by kernel_rfl)
/-! ### impl_SameGraph -/
noncomputable def impl_SameGraph.sig : Sig := ⟨[.val true TGraph, .val true TGraph], [(.val false, .bool, .deep)]⟩
noncomputable def impl_SameGraph.ctx : Ctx := ⟨tabOf tabl, [⟨34, slices_Equal_Limpl_Edge_impl_Edge.sig, slices_Equal_Limpl_Edge_impl_Edge.F⟩], [], [51]⟩
noncomputable def impl_SameGraph.cfg : Cfg := ⟨impl_SameGraph.ctx, [], [], fun _ => ([], [])⟩
noncomputable def impl_SameGraph.code : Code := (Go.Proofs.Try.f12).body.getD .skip
noncomputable def impl_SameGraph.fin := finK impl_SameGraph.ctx impl_SameGraph.sig [.tmp 4]
noncomputable def impl_SameGraph.F (d : (Int × List (Int × Int × Int)) × (Int × List (Int × Int × Int)) × Unit) : Option ((Bool × Unit) × (Unit)) := anyK (runFn impl_SameGraph.cfg impl_SameGraph.fin impl_SameGraph.code (initSt impl_SameGraph.sig.ps d 17))
noncomputable def impl_SameGraph.T (a_1 : Int) (a_2 : List (Int × Int × Int)) (b_3 : Int) (b_4 : List (Int × Int × Int)) : Option ((Bool × Unit) × (Unit)) :=
  if (a_1 == b_3) = true then
    (slices_Equal_Limpl_Edge_impl_Edge.F (a_2, b_4, ())).bind fun r5 =>
      some (((r5.1.1 : Bool), ()), ())
  else
    some ((false, ()), ())
theorem impl_SameGraph.run (k : Nat) (a_1 : Int) (a_2 : List (Int × Int × Int)) (b_3 : Int) (b_4 : List (Int × Int × Int)) : runFn impl_SameGraph.cfg impl_SameGraph.fin impl_SameGraph.code (initSt impl_SameGraph.sig.ps ((a_1, a_2), (b_3, b_4), ()) 17) k = impl_SameGraph.T a_1 a_2 b_3 b_4 := by kernel_rfl
theorem impl_SameGraph.eq (a_1 : Int) (a_2 : List (Int × Int × Int)) (b_3 : Int) (b_4 : List (Int × Int × Int)) : impl_SameGraph.F ((a_1, a_2), (b_3, b_4), ()) = impl_SameGraph.T a_1 a_2 b_3 b_4 := (congrArg anyK (funext fun k => impl_SameGraph.run k a_1 a_2 b_3 b_4)).trans (anyK_const _)
theorem impl_SameGraph.ok : CtxOK Go.Proofs.Try.prog impl_SameGraph.ctx := ⟨List.forall_mem_cons.2 ⟨eq_ok eqT51, List.forall_mem_nil _⟩, mixed_ok, tab_ok tab_good, List.forall_mem_cons.2 ⟨slices_Equal_Limpl_Edge_impl_Edge.S, List.forall_mem_nil _⟩, List.forall_mem_nil _⟩
theorem impl_SameGraph.S : Sound Go.Proofs.Try.prog ⟨12, impl_SameGraph.sig, impl_SameGraph.F⟩ := sound_any (fn := Go.Proofs.Try.f12) (code := impl_SameGraph.code) (g := impl_SameGraph.cfg) (res := [.tmp 4]) Go.Proofs.Try.func12 (by kernel_rfl) (by kernel_rfl) impl_SameGraph.ok (by kernel_rfl) (by kernel_rfl) (Nat.le_of_ble_eq_true (by kernel_rfl)) (by kernel_rfl)
/-! ### laws_eqEdge -/
noncomputable def laws_eqEdge.sig : Sig := ⟨[.val true TEdge, .val true TEdge], [(.val false, .bool, .deep)]⟩
noncomputable def laws_eqEdge.ctx : Ctx := ⟨tabOf tabl, [], [], []⟩
noncomputable def laws_eqEdge.cfg : Cfg := ⟨laws_eqEdge.ctx, [], [], fun _ => ([], [])⟩
noncomputable def laws_eqEdge.code : Code := (Go.Proofs.Try.f47).body.getD .skip
noncomputable def laws_eqEdge.fin := finK laws_eqEdge.ctx laws_eqEdge.sig [.tmp 4]
noncomputable def laws_eqEdge.F (d : (Int × Int × Int) × (Int × Int × Int) × Unit) : Option ((Bool × Unit) × (Unit)) := anyK (runFn laws_eqEdge.cfg laws_eqEdge.fin laws_eqEdge.code (initSt laws_eqEdge.sig.ps d 20))
noncomputable def laws_eqEdge.T (a_1 : Int) (a_2 : Int) (a_3 : Int) (b_4 : Int) (b_5 : Int) (b_6 : Int) : Option ((Bool × Unit) × (Unit)) :=
  if (a_1 != b_4) = true then
    some ((false, ()), ())
  else
    if (a_2 != b_5) = true then
      some ((false, ()), ())
    else
      if (a_3 != b_6) = true then
        some ((false, ()), ())
      else
        some ((true, ()), ())
theorem laws_eqEdge.run (k : Nat) (a_1 : Int) (a_2 : Int) (a_3 : Int) (b_4 : Int) (b_5 : Int) (b_6 : Int) : runFn laws_eqEdge.cfg laws_eqEdge.fin laws_eqEdge.code (initSt laws_eqEdge.sig.ps ((a_1, (a_2, a_3)), (b_4, (b_5, b_6)), ()) 20) k = laws_eqEdge.T a_1 a_2 a_3 b_4 b_5 b_6 := by kernel_rfl
theorem laws_eqEdge.eq (a_1 : Int) (a_2 : Int) (a_3 : Int) (b_4 : Int) (b_5 : Int) (b_6 : Int) : laws_eqEdge.F ((a_1, (a_2, a_3)), (b_4, (b_5, b_6)), ()) = laws_eqEdge.T a_1 a_2 a_3 b_4 b_5 b_6 := (congrArg anyK (funext fun k => laws_eqEdge.run k a_1 a_2 a_3 b_4 b_5 b_6)).trans (anyK_const _)
theorem laws_eqEdge.ok : CtxOK Go.Proofs.Try.prog laws_eqEdge.ctx := ⟨List.forall_mem_nil _, mixed_ok, tab_ok tab_good, List.forall_mem_nil _, List.forall_mem_nil _⟩
theorem laws_eqEdge.S : Sound Go.Proofs.Try.prog ⟨47, laws_eqEdge.sig, laws_eqEdge.F⟩ := sound_any (fn := Go.Proofs.Try.f47) (code := laws_eqEdge.code) (g := laws_eqEdge.cfg) (res := [.tmp 4]) Go.Proofs.Try.func47 (by kernel_rfl) (by kernel_rfl) laws_eqEdge.ok (by kernel_rfl) (by kernel_rfl) (Nat.le_of_ble_eq_true (by kernel_rfl)) (by kernel_rfl)
/-! ### laws_eqEdgeS -/
noncomputable def laws_eqEdgeS.sig : Sig := ⟨[.val false (.sl TEdge), .val false (.sl TEdge)], [(.val false, .bool, .deep)]⟩
noncomputable def laws_eqEdgeS.ctx : Ctx := ⟨tabOf tabl, [⟨47, laws_eqEdge.sig, laws_eqEdge.F⟩], [], []⟩
noncomputable def laws_eqEdgeS.cfg : Cfg := ⟨laws_eqEdgeS.ctx, [], [], fun id => match id with | 4 => ([0, 1, 5], []) | _ => ([], [])⟩
noncomputable def laws_eqEdgeS.code : Code := (Go.Proofs.Try.f35).body.getD .skip
noncomputable def laws_eqEdgeS.fin := finK laws_eqEdgeS.ctx laws_eqEdgeS.sig [.tmp 4]
noncomputable def laws_eqEdgeS.F (d : List (Int × Int × Int) × List (Int × Int × Int) × Unit) : Option ((Bool × Unit) × (Unit)) := anyK (runFn laws_eqEdgeS.cfg laws_eqEdgeS.fin laws_eqEdgeS.code (initSt laws_eqEdgeS.sig.ps d 27))
noncomputable def laws_eqEdgeS.l4 (k : Nat) (x3 : List (Int × Int × Int)) (x4 : List (Int × Int × Int)) (i5 : Int) : Option ((Bool × Unit) × (Unit)) :=
  Go.Vm.runT laws_eqEdgeS.cfg laws_eqEdgeS.fin k [.inLoop (sub [1, 1, 0, 1, 0, 0] laws_eqEdgeS.code), .inBlock 0, .code (sub [1, 1, 1] laws_eqEdgeS.code)]
    ⟨[.val false [⟨(.sl TEdge), .sh, x3⟩], .val false [⟨(.sl TEdge), .sh, x4⟩], .dead, .dead, .dead, .val false [⟨(.int .i64), .sh, i5⟩]] ++ deads 21, []⟩
theorem laws_eqEdgeS.l4_eq (k : Nat) (x3 : List (Int × Int × Int)) (x4 : List (Int × Int × Int)) (i5 : Int) : laws_eqEdgeS.l4 (k + 1) x3 x4 i5 =
  if (decide (i5 < (x3.length : Int))) = true then
    if 0 ≤ i5 ∧ i5 < (x3.length : Int) then
      if 0 ≤ i5 ∧ i5 < (x4.length : Int) then
        (laws_eqEdge.F (x3.getD i5.toNat (0, 0, 0), x4.getD i5.toNat (0, 0, 0), ())).bind fun r6 =>
          if (!(r6.1.1 : Bool)) = true then
            some ((false, ()), ())
          else
            laws_eqEdgeS.l4 k x3 x4 (IntKind.i64.wrap (i5 + (1 : Int)))
      else
        none
    else
      none
  else
    some ((true, ()), ()) := by kernel_rfl
noncomputable def laws_eqEdgeS.T (k : Nat) (a_1 : List (Int × Int × Int)) (b_2 : List (Int × Int × Int)) : Option ((Bool × Unit) × (Unit)) :=
  if ((a_1.length : Int) != (b_2.length : Int)) = true then
    some ((false, ()), ())
  else
    laws_eqEdgeS.l4 k a_1 b_2 (0 : Int)
theorem laws_eqEdgeS.run (k : Nat) (a_1 : List (Int × Int × Int)) (b_2 : List (Int × Int × Int)) : runFn laws_eqEdgeS.cfg laws_eqEdgeS.fin laws_eqEdgeS.code (initSt laws_eqEdgeS.sig.ps (a_1, b_2, ()) 27) k = laws_eqEdgeS.T k a_1 b_2 := by kernel_rfl
theorem laws_eqEdgeS.of (a_1 : List (Int × Int × Int)) (b_2 : List (Int × Int × Int)) {r : (Bool × Unit) × (Unit)} (h : Ev (fun k => laws_eqEdgeS.T k a_1 b_2) r) : laws_eqEdgeS.F (a_1, b_2, ()) = some r := Ev.run (fun k => laws_eqEdgeS.run k a_1 b_2) h
theorem laws_eqEdgeS.ok : CtxOK Go.Proofs.Try.prog laws_eqEdgeS.ctx := ⟨List.forall_mem_nil _, mixed_ok, tab_ok tab_good, List.forall_mem_cons.2 ⟨laws_eqEdge.S, List.forall_mem_nil _⟩, List.forall_mem_nil _⟩
theorem laws_eqEdgeS.S : Sound Go.Proofs.Try.prog ⟨35, laws_eqEdgeS.sig, laws_eqEdgeS.F⟩ := sound_any (fn := Go.Proofs.Try.f35) (code := laws_eqEdgeS.code) (g := laws_eqEdgeS.cfg) (res := [.tmp 4]) Go.Proofs.Try.func35 (by kernel_rfl) (by kernel_rfl) laws_eqEdgeS.ok (by kernel_rfl) (by kernel_rfl) (Nat.le_of_ble_eq_true (by kernel_rfl)) (by kernel_rfl)
/-! ### laws_eqGraph -/
noncomputable def laws_eqGraph.sig : Sig := ⟨[.val true TGraph, .val true TGraph], [(.val false, .bool, .deep)]⟩
noncomputable def laws_eqGraph.ctx : Ctx := ⟨tabOf tabl, [⟨35, laws_eqEdgeS.sig, laws_eqEdgeS.F⟩], [], []⟩
noncomputable def laws_eqGraph.cfg : Cfg := ⟨laws_eqGraph.ctx, [], [], fun _ => ([], [])⟩
noncomputable def laws_eqGraph.code : Code := (Go.Proofs.Try.f13).body.getD .skip
noncomputable def laws_eqGraph.fin := finK laws_eqGraph.ctx laws_eqGraph.sig [.tmp 4]
noncomputable def laws_eqGraph.F (d : (Int × List (Int × Int × Int)) × (Int × List (Int × Int × Int)) × Unit) : Option ((Bool × Unit) × (Unit)) := anyK (runFn laws_eqGraph.cfg laws_eqGraph.fin laws_eqGraph.code (initSt laws_eqGraph.sig.ps d 16))
noncomputable def laws_eqGraph.T (a_1 : Int) (a_2 : List (Int × Int × Int)) (b_3 : Int) (b_4 : List (Int × Int × Int)) : Option ((Bool × Unit) × (Unit)) :=
  if (a_1 != b_3) = true then
    some ((false, ()), ())
  else
    (laws_eqEdgeS.F (a_2, b_4, ())).bind fun r5 =>
      if (!(r5.1.1 : Bool)) = true then
        some ((false, ()), ())
      else
        some ((true, ()), ())
theorem laws_eqGraph.run (k : Nat) (a_1 : Int) (a_2 : List (Int × Int × Int)) (b_3 : Int) (b_4 : List (Int × Int × Int)) : runFn laws_eqGraph.cfg laws_eqGraph.fin laws_eqGraph.code (initSt laws_eqGraph.sig.ps ((a_1, a_2), (b_3, b_4), ()) 16) k = laws_eqGraph.T a_1 a_2 b_3 b_4 := by kernel_rfl
theorem laws_eqGraph.eq (a_1 : Int) (a_2 : List (Int × Int × Int)) (b_3 : Int) (b_4 : List (Int × Int × Int)) : laws_eqGraph.F ((a_1, a_2), (b_3, b_4), ()) = laws_eqGraph.T a_1 a_2 b_3 b_4 := (congrArg anyK (funext fun k => laws_eqGraph.run k a_1 a_2 b_3 b_4)).trans (anyK_const _)
theorem laws_eqGraph.ok : CtxOK Go.Proofs.Try.prog laws_eqGraph.ctx := ⟨List.forall_mem_nil _, mixed_ok, tab_ok tab_good, List.forall_mem_cons.2 ⟨laws_eqEdgeS.S, List.forall_mem_nil _⟩, List.forall_mem_nil _⟩
theorem laws_eqGraph.S : Sound Go.Proofs.Try.prog ⟨13, laws_eqGraph.sig, laws_eqGraph.F⟩ := sound_any (fn := Go.Proofs.Try.f13) (code := laws_eqGraph.code) (g := laws_eqGraph.cfg) (res := [.tmp 4]) Go.Proofs.Try.func13 (by kernel_rfl) (by kernel_rfl) laws_eqGraph.ok (by kernel_rfl) (by kernel_rfl) (Nat.le_of_ble_eq_true (by kernel_rfl)) (by kernel_rfl)
/-! ### laws_FnExactSameGraph -/
noncomputable def laws_FnExactSameGraph.sig : Sig := ⟨[.val true TGraph, .val true TGraph], [(.val false, .bool, .deep)]⟩
noncomputable def laws_FnExactSameGraph.ctx : Ctx := ⟨tabOf tabl, [⟨9, laws_szGraph.sig, laws_szGraph.F⟩, ⟨10, spec_SameGraph.sig, spec_SameGraph.F⟩, ⟨11, laws_toGraph.sig, laws_toGraph.F⟩, ⟨12, impl_SameGraph.sig, impl_SameGraph.F⟩, ⟨13, laws_eqGraph.sig, laws_eqGraph.F⟩], [], []⟩
noncomputable def laws_FnExactSameGraph.cfg : Cfg := ⟨laws_FnExactSameGraph.ctx, [], [], fun _ => ([], [])⟩
noncomputable def laws_FnExactSameGraph.code : Code := (Go.Proofs.Try.f3).body.getD .skip
noncomputable def laws_FnExactSameGraph.fin := finK laws_FnExactSameGraph.ctx laws_FnExactSameGraph.sig [.tmp 4]
noncomputable def laws_FnExactSameGraph.F (d : (Int × List (Int × Int × Int)) × (Int × List (Int × Int × Int)) × Unit) : Option ((Bool × Unit) × (Unit)) := anyK (runFn laws_FnExactSameGraph.cfg laws_FnExactSameGraph.fin laws_FnExactSameGraph.code (initSt laws_FnExactSameGraph.sig.ps d 45))
noncomputable def laws_FnExactSameGraph.T (aA_1 : Int) (aA_2 : List (Int × Int × Int)) (aB_3 : Int) (aB_4 : List (Int × Int × Int)) : Option ((Bool × Unit) × (Unit)) :=
  (laws_szGraph.F ((aA_1, aA_2), (1048576 : Int), ())).bind fun r5 =>
    if (decide ((r5.1.1 : Int) < (0 : Int))) = true then
      some ((true, ()), ())
    else
      (laws_szGraph.F ((aB_3, aB_4), (r5.1.1 : Int), ())).bind fun r6 =>
        if (decide ((r6.1.1 : Int) < (0 : Int))) = true then
          some ((true, ()), ())
        else
          (laws_toGraph.F ((aA_1, aA_2), ())).bind fun r7 =>
            (laws_toGraph.F ((aB_3, aB_4), ())).bind fun r8 =>
              (spec_SameGraph.F (r7.1.1, r8.1.1, ())).bind fun r9 =>
                (laws_toGraph.F ((aA_1, aA_2), ())).bind fun r10 =>
                  (laws_toGraph.F ((aB_3, aB_4), ())).bind fun r11 =>
                    (impl_SameGraph.F (r10.1.1, r11.1.1, ())).bind fun r12 =>
                      if (!((r12.1.1 : Bool) == (r9.1.1 : Bool))) = true then
                        some ((false, ()), ())
                      else
                        (laws_toGraph.F ((aA_1, aA_2), ())).bind fun r13 =>
                          (laws_eqGraph.F (r10.1.1, r13.1.1, ())).bind fun r14 =>
                            if (!(r14.1.1 : Bool)) = true then
                              some ((false, ()), ())
                            else
                              (laws_toGraph.F ((aB_3, aB_4), ())).bind fun r15 =>
                                (laws_eqGraph.F (r11.1.1, r15.1.1, ())).bind fun r16 =>
                                  if (!(r16.1.1 : Bool)) = true then
                                    some ((false, ()), ())
                                  else
                                    some ((true, ()), ())
theorem laws_FnExactSameGraph.run (k : Nat) (aA_1 : Int) (aA_2 : List (Int × Int × Int)) (aB_3 : Int) (aB_4 : List (Int × Int × Int)) : runFn laws_FnExactSameGraph.cfg laws_FnExactSameGraph.fin laws_FnExactSameGraph.code (initSt laws_FnExactSameGraph.sig.ps ((aA_1, aA_2), (aB_3, aB_4), ()) 45) k = laws_FnExactSameGraph.T aA_1 aA_2 aB_3 aB_4 := by kernel_rfl
theorem laws_FnExactSameGraph.eq (aA_1 : Int) (aA_2 : List (Int × Int × Int)) (aB_3 : Int) (aB_4 : List (Int × Int × Int)) : laws_FnExactSameGraph.F ((aA_1, aA_2), (aB_3, aB_4), ()) = laws_FnExactSameGraph.T aA_1 aA_2 aB_3 aB_4 := (congrArg anyK (funext fun k => laws_FnExactSameGraph.run k aA_1 aA_2 aB_3 aB_4)).trans (anyK_const _)
theorem laws_FnExactSameGraph.ok : CtxOK Go.Proofs.Try.prog laws_FnExactSameGraph.ctx := ⟨List.forall_mem_nil _, mixed_ok, tab_ok tab_good, List.forall_mem_cons.2 ⟨laws_szGraph.S, List.forall_mem_cons.2 ⟨spec_SameGraph.S, List.forall_mem_cons.2 ⟨laws_toGraph.S, List.forall_mem_cons.2 ⟨impl_SameGraph.S, List.forall_mem_cons.2 ⟨laws_eqGraph.S, List.forall_mem_nil _⟩⟩⟩⟩⟩, List.forall_mem_nil _⟩
theorem laws_FnExactSameGraph.S : Sound Go.Proofs.Try.prog ⟨3, laws_FnExactSameGraph.sig, laws_FnExactSameGraph.F⟩ := sound_any (fn := Go.Proofs.Try.f3) (code := laws_FnExactSameGraph.code) (g := laws_FnExactSameGraph.cfg) (res := [.tmp 4]) Go.Proofs.Try.func3 (by kernel_rfl) (by kernel_rfl) laws_FnExactSameGraph.ok (by kernel_rfl) (by kernel_rfl) (Nat.le_of_ble_eq_true (by kernel_rfl)) (by kernel_rfl)
end Go.Proofs.Ytlpmcplimfioeaa
