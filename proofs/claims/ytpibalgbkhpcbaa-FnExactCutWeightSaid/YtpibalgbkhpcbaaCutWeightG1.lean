/- The functions, as the machine runs them. -/
import Derived.Test.YtpibalgbkhpcbaaVm3
import Derived.Test.YtpibalgbkhpcbaaProg
import Derived.KernelRfl
namespace Go.Proofs.Ytpibalgbkhpcbaa
open Go Go.Vm
set_option linter.unusedVariables false
set_option linter.unusedSimpArgs false
abbrev TEdge_1 : Ty := .pair (.int .i64) (.int .i64)
abbrev TEdge : Ty := .pair (.int .i64) TEdge_1
abbrev TGraph : Ty := .pair (.int .i64) (.sl TEdge)
def tabl : List (Nat × TInfo) := [
  (2, ⟨false, (.int .i64), 0, []⟩),
  (3, ⟨false, (.int .i64), 0, []⟩),
  (4, ⟨false, .bool, 0, []⟩),
  (22, ⟨false, (.sl TEdge), 114, []⟩),
  (24, ⟨true, TGraph, 0, [(0, 1, false), (1, 1, false)]⟩),
  (25, ⟨false, (.sl (.int .i64)), 2, []⟩),
  (29, ⟨false, (.sl TEdge), 110, []⟩),
  (31, ⟨true, TGraph, 0, [(0, 1, false), (1, 1, false)]⟩),
  (110, ⟨true, TEdge, 0, [(0, 1, false), (1, 1, false), (2, 1, false)]⟩),
  (114, ⟨true, TEdge, 0, [(0, 1, false), (1, 1, false), (2, 1, false)]⟩),
  (178, ⟨false, (.sl (.int .i64)), 3, []⟩)]
theorem tab_good : tabB Go.Proofs.Try.prog tabl = true := by kernel_rfl
theorem tab_open : openB Go.Proofs.Try.prog tabl = true := by kernel_rfl
theorem mixed_ok : Go.Proofs.Try.prog.follows .mixedOrders = true := by kernel_rfl
/-! ### laws_szEdgeS -/
noncomputable def laws_szEdgeS.sig : Sig := ⟨[.val false (.sl TEdge), .val false (.int .i64)], [(.val false, (.int .i64), .deep)]⟩
noncomputable def laws_szEdgeS.ctx : Ctx := ⟨tabOf tabl, [], [], []⟩
noncomputable def laws_szEdgeS.cfg : Cfg := ⟨laws_szEdgeS.ctx, [], [], fun _ => ([], [])⟩
noncomputable def laws_szEdgeS.code : Code := (Go.Proofs.Try.f46).body.getD .skip
noncomputable def laws_szEdgeS.fin := finK laws_szEdgeS.ctx laws_szEdgeS.sig [.tmp 4]
noncomputable def laws_szEdgeS.F (d : List (Int × Int × Int) × Int × Unit) : Option ((Int × Unit) × (Unit)) := anyK (runFn laws_szEdgeS.cfg laws_szEdgeS.fin laws_szEdgeS.code (initSt laws_szEdgeS.sig.ps d 12))
noncomputable def laws_szEdgeS.T (a_1 : List (Int × Int × Int)) (left_2 : Int) : Option ((Int × Unit) × (Unit)) :=
  if (decide ((IntKind.i64.wrap (left_2 - (a_1.length : Int))) < (0 : Int))) = true then
    some (((-1 : Int), ()), ())
  else
    some ((IntKind.i64.wrap (left_2 - (a_1.length : Int)), ()), ())
theorem laws_szEdgeS.run (k : Nat) (a_1 : List (Int × Int × Int)) (left_2 : Int) : runFn laws_szEdgeS.cfg laws_szEdgeS.fin laws_szEdgeS.code (initSt laws_szEdgeS.sig.ps (a_1, left_2, ()) 12) k = laws_szEdgeS.T a_1 left_2 := by kernel_rfl
theorem laws_szEdgeS.eq (a_1 : List (Int × Int × Int)) (left_2 : Int) : laws_szEdgeS.F (a_1, left_2, ()) = laws_szEdgeS.T a_1 left_2 := (congrArg anyK (funext fun k => laws_szEdgeS.run k a_1 left_2)).trans (anyK_const _)
theorem laws_szEdgeS.ok : CtxOK Go.Proofs.Try.prog laws_szEdgeS.ctx := ⟨List.forall_mem_nil _, mixed_ok, tab_ok tab_good, List.forall_mem_nil _, List.forall_mem_nil _⟩
theorem laws_szEdgeS.S : Sound Go.Proofs.Try.prog ⟨46, laws_szEdgeS.sig, laws_szEdgeS.F⟩ := sound_any (fn := Go.Proofs.Try.f46) (code := laws_szEdgeS.code) (g := laws_szEdgeS.cfg) (res := [.tmp 4]) Go.Proofs.Try.func46 (by kernel_rfl) (by kernel_rfl) laws_szEdgeS.ok (by kernel_rfl) (by kernel_rfl) (Nat.le_of_ble_eq_true (by kernel_rfl)) (by kernel_rfl)
/-! ### laws_szGraph -/
noncomputable def laws_szGraph.sig : Sig := ⟨[.val true TGraph, .val false (.int .i64)], [(.val false, (.int .i64), .deep)]⟩
noncomputable def laws_szGraph.ctx : Ctx := ⟨tabOf tabl, [⟨46, laws_szEdgeS.sig, laws_szEdgeS.F⟩], [], []⟩
noncomputable def laws_szGraph.cfg : Cfg := ⟨laws_szGraph.ctx, [], [], fun _ => ([], [])⟩
noncomputable def laws_szGraph.code : Code := (Go.Proofs.Try.f12).body.getD .skip
noncomputable def laws_szGraph.fin := finK laws_szGraph.ctx laws_szGraph.sig [.tmp 4]
noncomputable def laws_szGraph.F (d : (Int × List (Int × Int × Int)) × Int × Unit) : Option ((Int × Unit) × (Unit)) := anyK (runFn laws_szGraph.cfg laws_szGraph.fin laws_szGraph.code (initSt laws_szGraph.sig.ps d 12))
noncomputable def laws_szGraph.T (a_1 : Int) (a_2 : List (Int × Int × Int)) (left_3 : Int) : Option ((Int × Unit) × (Unit)) :=
  (laws_szEdgeS.F (a_2, left_3, ())).bind fun r4 =>
    if (decide ((r4.1.1 : Int) < (0 : Int))) = true then
      some (((-1 : Int), ()), ())
    else
      some (((r4.1.1 : Int), ()), ())
theorem laws_szGraph.run (k : Nat) (a_1 : Int) (a_2 : List (Int × Int × Int)) (left_3 : Int) : runFn laws_szGraph.cfg laws_szGraph.fin laws_szGraph.code (initSt laws_szGraph.sig.ps ((a_1, a_2), left_3, ()) 12) k = laws_szGraph.T a_1 a_2 left_3 := by kernel_rfl
theorem laws_szGraph.eq (a_1 : Int) (a_2 : List (Int × Int × Int)) (left_3 : Int) : laws_szGraph.F ((a_1, a_2), left_3, ()) = laws_szGraph.T a_1 a_2 left_3 := (congrArg anyK (funext fun k => laws_szGraph.run k a_1 a_2 left_3)).trans (anyK_const _)
theorem laws_szGraph.ok : CtxOK Go.Proofs.Try.prog laws_szGraph.ctx := ⟨List.forall_mem_nil _, mixed_ok, tab_ok tab_good, List.forall_mem_cons.2 ⟨laws_szEdgeS.S, List.forall_mem_nil _⟩, List.forall_mem_nil _⟩
theorem laws_szGraph.S : Sound Go.Proofs.Try.prog ⟨12, laws_szGraph.sig, laws_szGraph.F⟩ := sound_any (fn := Go.Proofs.Try.f12) (code := laws_szGraph.code) (g := laws_szGraph.cfg) (res := [.tmp 4]) Go.Proofs.Try.func12 (by kernel_rfl) (by kernel_rfl) laws_szGraph.ok (by kernel_rfl) (by kernel_rfl) (Nat.le_of_ble_eq_true (by kernel_rfl)) (by kernel_rfl)
/-! ### spec_l00In -/
noncomputable def spec_l00In.sig : Sig := ⟨[.val false (.int .i64), .val false (.int .i64), .val false (.int .i64)], [(.val false, .bool, .deep)]⟩
noncomputable def spec_l00In.ctx : Ctx := ⟨tabOf tabl, [], [], []⟩
noncomputable def spec_l00In.cfg : Cfg := ⟨spec_l00In.ctx, [], [], fun _ => ([], [])⟩
noncomputable def spec_l00In.code : Code := (Go.Proofs.Try.f90).body.getD .skip
noncomputable def spec_l00In.fin := finK spec_l00In.ctx spec_l00In.sig [.tmp 6]
noncomputable def spec_l00In.F (d : Int × Int × Int × Unit) : Option ((Bool × Unit) × (Unit)) := anyK (runFn spec_l00In.cfg spec_l00In.fin spec_l00In.code (initSt spec_l00In.sig.ps d 15))
noncomputable def spec_l00In.T (n_1 : Int) (low_2 : Int) (high_3 : Int) : Option ((Bool × Unit) × (Unit)) :=
  if (decide (n_1 ≥ low_2)) = true then
    some ((decide (n_1 ≤ high_3), ()), ())
  else
    some ((false, ()), ())
theorem spec_l00In.run (k : Nat) (n_1 : Int) (low_2 : Int) (high_3 : Int) : runFn spec_l00In.cfg spec_l00In.fin spec_l00In.code (initSt spec_l00In.sig.ps (n_1, low_2, high_3, ()) 15) k = spec_l00In.T n_1 low_2 high_3 := by kernel_rfl
theorem spec_l00In.eq (n_1 : Int) (low_2 : Int) (high_3 : Int) : spec_l00In.F (n_1, low_2, high_3, ()) = spec_l00In.T n_1 low_2 high_3 := (congrArg anyK (funext fun k => spec_l00In.run k n_1 low_2 high_3)).trans (anyK_const _)
theorem spec_l00In.ok : CtxOK Go.Proofs.Try.prog spec_l00In.ctx := ⟨List.forall_mem_nil _, mixed_ok, tab_ok tab_good, List.forall_mem_nil _, List.forall_mem_nil _⟩
theorem spec_l00In.S : Sound Go.Proofs.Try.prog ⟨90, spec_l00In.sig, spec_l00In.F⟩ := sound_any (fn := Go.Proofs.Try.f90) (code := spec_l00In.code) (g := spec_l00In.cfg) (res := [.tmp 6]) Go.Proofs.Try.func90 (by kernel_rfl) (by kernel_rfl) spec_l00In.ok (by kernel_rfl) (by kernel_rfl) (Nat.le_of_ble_eq_true (by kernel_rfl)) (by kernel_rfl)
/-! ### spec_l16Ok -/
noncomputable def spec_l16Ok.sig : Sig := ⟨[.rptr TGraph], [(.val false, .bool, .deep)]⟩
noncomputable def spec_l16Ok.ctx : Ctx := ⟨tabOf tabl, [⟨90, spec_l00In.sig, spec_l00In.F⟩], [], []⟩
noncomputable def spec_l16Ok.cfg : Cfg := ⟨spec_l16Ok.ctx, [], [], fun id => match id with | 4 => ([0, 3], []) | _ => ([], [])⟩
noncomputable def spec_l16Ok.code : Code := (Go.Proofs.Try.f47).body.getD .skip
noncomputable def spec_l16Ok.fin := finK spec_l16Ok.ctx spec_l16Ok.sig [.tmp 2]
noncomputable def spec_l16Ok.F (d : (Int × List (Int × Int × Int)) × Unit) : Option ((Bool × Unit) × (Unit)) := anyK (runFn spec_l16Ok.cfg spec_l16Ok.fin spec_l16Ok.code (initSt spec_l16Ok.sig.ps d 101))
noncomputable def spec_l16Ok.l4 (k : Nat) (i4 : Int) (x5 : List (Int × Int × Int)) (i6 : Int) : Option ((Bool × Unit) × (Unit)) :=
  Go.Vm.runT spec_l16Ok.cfg spec_l16Ok.fin k [.inLoop (sub [1, 1, 0, 1, 0, 0] spec_l16Ok.code), .inBlock 0, .code (sub [1, 1, 1] spec_l16Ok.code)]
    ⟨[.rptr [⟨(.int .i64), .sh, i4⟩, ⟨(.sl TEdge), .sh, x5⟩], .dead, .dead, .val false [⟨(.int .i64), .sh, i6⟩]] ++ deads 97, []⟩
theorem spec_l16Ok.l4_eq (k : Nat) (i4 : Int) (x5 : List (Int × Int × Int)) (i6 : Int) : spec_l16Ok.l4 (k + 1) i4 x5 i6 =
  if (decide (i6 < (x5.length : Int))) = true then
    if 0 ≤ i6 ∧ i6 < (x5.length : Int) then
      (spec_l00In.F ((((x5.getD i6.toNat (0, 0, 0)).2).1 : Int), (0 : Int), IntKind.i64.wrap (i4 - (1 : Int)), ())).bind fun r7 =>
        if (!(r7.1.1 : Bool)) = true then
          some ((false, ()), ())
        else
          (spec_l00In.F (((x5.getD i6.toNat (0, 0, 0)).1 : Int), (0 : Int), IntKind.i64.wrap ((((x5.getD i6.toNat (0, 0, 0)).2).1 : Int) - (1 : Int)), ())).bind fun r8 =>
            if (!(r8.1.1 : Bool)) = true then
              some ((false, ()), ())
            else
              (spec_l00In.F ((((x5.getD i6.toNat (0, 0, 0)).2).2 : Int), (1 : Int), (9 : Int), ())).bind fun r9 =>
                if (!(r9.1.1 : Bool)) = true then
                  some ((false, ()), ())
                else
                  if (decide (i6 > (0 : Int))) = true then
                    if 0 ≤ (IntKind.i64.wrap (i6 - (1 : Int))) ∧ (IntKind.i64.wrap (i6 - (1 : Int))) < (x5.length : Int) then
                      if (decide (((x5.getD (IntKind.i64.wrap (i6 - (1 : Int))).toNat (0, 0, 0)).1) > ((x5.getD i6.toNat (0, 0, 0)).1 : Int))) = true then
                        some ((false, ()), ())
                      else
                        if 0 ≤ (IntKind.i64.wrap (i6 - (1 : Int))) ∧ (IntKind.i64.wrap (i6 - (1 : Int))) < (x5.length : Int) then
                          if (((x5.getD (IntKind.i64.wrap (i6 - (1 : Int))).toNat (0, 0, 0)).1) == ((x5.getD i6.toNat (0, 0, 0)).1 : Int)) = true then
                            if 0 ≤ (IntKind.i64.wrap (i6 - (1 : Int))) ∧ (IntKind.i64.wrap (i6 - (1 : Int))) < (x5.length : Int) then
                              if (decide ((((x5.getD (IntKind.i64.wrap (i6 - (1 : Int))).toNat (0, 0, 0)).2).1) ≥ (((x5.getD i6.toNat (0, 0, 0)).2).1 : Int))) = true then
                                some ((false, ()), ())
                              else
                                spec_l16Ok.l4 k i4 x5 (IntKind.i64.wrap (i6 + (1 : Int)))
                            else
                              none
                          else
                            spec_l16Ok.l4 k i4 x5 (IntKind.i64.wrap (i6 + (1 : Int)))
                        else
                          none
                    else
                      none
                  else
                    spec_l16Ok.l4 k i4 x5 (IntKind.i64.wrap (i6 + (1 : Int)))
    else
      none
  else
    some ((decide ((x5.length : Int) ≤ (24 : Int)), ()), ()) := by kernel_rfl
noncomputable def spec_l16Ok.T (k : Nat) (toArray_1 : Int) (toArray_2 : List (Int × Int × Int)) : Option ((Bool × Unit) × (Unit)) :=
  (spec_l00In.F (toArray_1, (1 : Int), (12 : Int), ())).bind fun r3 =>
    if (!(r3.1.1 : Bool)) = true then
      some ((false, ()), ())
    else
      spec_l16Ok.l4 k toArray_1 toArray_2 (0 : Int)
theorem spec_l16Ok.run (k : Nat) (toArray_1 : Int) (toArray_2 : List (Int × Int × Int)) : runFn spec_l16Ok.cfg spec_l16Ok.fin spec_l16Ok.code (initSt spec_l16Ok.sig.ps ((toArray_1, toArray_2), ()) 101) k = spec_l16Ok.T k toArray_1 toArray_2 := by kernel_rfl
theorem spec_l16Ok.of (toArray_1 : Int) (toArray_2 : List (Int × Int × Int)) {r : (Bool × Unit) × (Unit)} (h : Ev (fun k => spec_l16Ok.T k toArray_1 toArray_2) r) : spec_l16Ok.F ((toArray_1, toArray_2), ()) = some r := Ev.run (fun k => spec_l16Ok.run k toArray_1 toArray_2) h
theorem spec_l16Ok.ok : CtxOK Go.Proofs.Try.prog spec_l16Ok.ctx := ⟨List.forall_mem_nil _, mixed_ok, tab_ok tab_good, List.forall_mem_cons.2 ⟨spec_l00In.S, List.forall_mem_nil _⟩, List.forall_mem_nil _⟩
theorem spec_l16Ok.S : Sound Go.Proofs.Try.prog ⟨47, spec_l16Ok.sig, spec_l16Ok.F⟩ := sound_any (fn := Go.Proofs.Try.f47) (code := spec_l16Ok.code) (g := spec_l16Ok.cfg) (res := [.tmp 2]) Go.Proofs.Try.func47 (by kernel_rfl) (by kernel_rfl) spec_l16Ok.ok (by kernel_rfl) (by kernel_rfl) (Nat.le_of_ble_eq_true (by kernel_rfl)) (by kernel_rfl)
/-! ### spec_l00Rises -/
noncomputable def spec_l00Rises.sig : Sig := ⟨[.val false (.sl (.int .i64)), .val false (.int .i64), .val false (.int .i64)], [(.val false, .bool, .deep)]⟩
noncomputable def spec_l00Rises.ctx : Ctx := ⟨tabOf tabl, [⟨90, spec_l00In.sig, spec_l00In.F⟩], [], []⟩
noncomputable def spec_l00Rises.cfg : Cfg := ⟨spec_l00Rises.ctx, [], [], fun id => match id with | 2 => ([0, 1, 2, 7], []) | _ => ([], [])⟩
noncomputable def spec_l00Rises.code : Code := (Go.Proofs.Try.f91).body.getD .skip
noncomputable def spec_l00Rises.fin := finK spec_l00Rises.ctx spec_l00Rises.sig [.tmp 6]
noncomputable def spec_l00Rises.F (d : List Int × Int × Int × Unit) : Option ((Bool × Unit) × (Unit)) := anyK (runFn spec_l00Rises.cfg spec_l00Rises.fin spec_l00Rises.code (initSt spec_l00Rises.sig.ps d 38))
noncomputable def spec_l00Rises.l2 (k : Nat) (x4 : List Int) (i5 : Int) (i6 : Int) (i7 : Int) : Option ((Bool × Unit) × (Unit)) :=
  Go.Vm.runT spec_l00Rises.cfg spec_l00Rises.fin k [.inLoop (sub [1, 0, 1, 0, 0] spec_l00Rises.code), .inBlock 0, .code (sub [1, 1] spec_l00Rises.code)]
    ⟨[.val false [⟨(.sl (.int .i64)), .sh, x4⟩], .val false [⟨(.int .i64), .sh, i5⟩], .val false [⟨(.int .i64), .sh, i6⟩], .dead, .dead, .dead, .dead, .val false [⟨(.int .i64), .sh, i7⟩]] ++ deads 30, []⟩
theorem spec_l00Rises.l2_eq (k : Nat) (x4 : List Int) (i5 : Int) (i6 : Int) (i7 : Int) : spec_l00Rises.l2 (k + 1) x4 i5 i6 i7 =
  if (decide (i7 < (x4.length : Int))) = true then
    if 0 ≤ i7 ∧ i7 < (x4.length : Int) then
      (spec_l00In.F ((x4.getD i7.toNat 0 : Int), i5, i6, ())).bind fun r8 =>
        if (!(r8.1.1 : Bool)) = true then
          some ((false, ()), ())
        else
          if (decide (i7 > (0 : Int))) = true then
            if 0 ≤ (IntKind.i64.wrap (i7 - (1 : Int))) ∧ (IntKind.i64.wrap (i7 - (1 : Int))) < (x4.length : Int) then
              if 0 ≤ i7 ∧ i7 < (x4.length : Int) then
                if (decide ((x4.getD (IntKind.i64.wrap (i7 - (1 : Int))).toNat 0) ≥ (x4.getD i7.toNat 0 : Int))) = true then
                  some ((false, ()), ())
                else
                  spec_l00Rises.l2 k x4 i5 i6 (IntKind.i64.wrap (i7 + (1 : Int)))
              else
                none
            else
              none
          else
            spec_l00Rises.l2 k x4 i5 i6 (IntKind.i64.wrap (i7 + (1 : Int)))
    else
      none
  else
    some ((true, ()), ()) := by kernel_rfl
noncomputable def spec_l00Rises.T (k : Nat) (list_1 : List Int) (low_2 : Int) (high_3 : Int) : Option ((Bool × Unit) × (Unit)) :=
  spec_l00Rises.l2 k list_1 low_2 high_3 (0 : Int)
theorem spec_l00Rises.run (k : Nat) (list_1 : List Int) (low_2 : Int) (high_3 : Int) : runFn spec_l00Rises.cfg spec_l00Rises.fin spec_l00Rises.code (initSt spec_l00Rises.sig.ps (list_1, low_2, high_3, ()) 38) k = spec_l00Rises.T k list_1 low_2 high_3 := by kernel_rfl
theorem spec_l00Rises.of (list_1 : List Int) (low_2 : Int) (high_3 : Int) {r : (Bool × Unit) × (Unit)} (h : Ev (fun k => spec_l00Rises.T k list_1 low_2 high_3) r) : spec_l00Rises.F (list_1, low_2, high_3, ()) = some r := Ev.run (fun k => spec_l00Rises.run k list_1 low_2 high_3) h
theorem spec_l00Rises.ok : CtxOK Go.Proofs.Try.prog spec_l00Rises.ctx := ⟨List.forall_mem_nil _, mixed_ok, tab_ok tab_good, List.forall_mem_cons.2 ⟨spec_l00In.S, List.forall_mem_nil _⟩, List.forall_mem_nil _⟩
theorem spec_l00Rises.S : Sound Go.Proofs.Try.prog ⟨91, spec_l00Rises.sig, spec_l00Rises.F⟩ := sound_any (fn := Go.Proofs.Try.f91) (code := spec_l00Rises.code) (g := spec_l00Rises.cfg) (res := [.tmp 6]) Go.Proofs.Try.func91 (by kernel_rfl) (by kernel_rfl) spec_l00Rises.ok (by kernel_rfl) (by kernel_rfl) (Nat.le_of_ble_eq_true (by kernel_rfl)) (by kernel_rfl)
/-! ### spec_l16Set -/
noncomputable def spec_l16Set.sig : Sig := ⟨[.rptr TGraph, .val false (.sl (.int .i64))], [(.val false, .bool, .deep)]⟩
noncomputable def spec_l16Set.ctx : Ctx := ⟨tabOf tabl, [⟨91, spec_l00Rises.sig, spec_l00Rises.F⟩], [], []⟩
noncomputable def spec_l16Set.cfg : Cfg := ⟨spec_l16Set.ctx, [], [], fun _ => ([], [])⟩
noncomputable def spec_l16Set.code : Code := (Go.Proofs.Try.f48).body.getD .skip
noncomputable def spec_l16Set.fin := finK spec_l16Set.ctx spec_l16Set.sig [.tmp 4]
noncomputable def spec_l16Set.F (d : (Int × List (Int × Int × Int)) × List Int × Unit) : Option ((Bool × Unit) × (Unit)) := anyK (runFn spec_l16Set.cfg spec_l16Set.fin spec_l16Set.code (initSt spec_l16Set.sig.ps d 12))
noncomputable def spec_l16Set.T (g_1 : Int) (g_2 : List (Int × Int × Int)) (set_3 : List Int) : Option ((Bool × Unit) × (Unit)) :=
  (spec_l00Rises.F (set_3, (0 : Int), IntKind.i64.wrap (g_1 - (1 : Int)), ())).bind fun r4 =>
    some (((r4.1.1 : Bool), ()), ())
theorem spec_l16Set.run (k : Nat) (g_1 : Int) (g_2 : List (Int × Int × Int)) (set_3 : List Int) : runFn spec_l16Set.cfg spec_l16Set.fin spec_l16Set.code (initSt spec_l16Set.sig.ps ((g_1, g_2), set_3, ()) 12) k = spec_l16Set.T g_1 g_2 set_3 := by kernel_rfl
theorem spec_l16Set.eq (g_1 : Int) (g_2 : List (Int × Int × Int)) (set_3 : List Int) : spec_l16Set.F ((g_1, g_2), set_3, ()) = spec_l16Set.T g_1 g_2 set_3 := (congrArg anyK (funext fun k => spec_l16Set.run k g_1 g_2 set_3)).trans (anyK_const _)
theorem spec_l16Set.ok : CtxOK Go.Proofs.Try.prog spec_l16Set.ctx := ⟨List.forall_mem_nil _, mixed_ok, tab_ok tab_good, List.forall_mem_cons.2 ⟨spec_l00Rises.S, List.forall_mem_nil _⟩, List.forall_mem_nil _⟩
theorem spec_l16Set.S : Sound Go.Proofs.Try.prog ⟨48, spec_l16Set.sig, spec_l16Set.F⟩ := sound_any (fn := Go.Proofs.Try.f48) (code := spec_l16Set.code) (g := spec_l16Set.cfg) (res := [.tmp 4]) Go.Proofs.Try.func48 (by kernel_rfl) (by kernel_rfl) spec_l16Set.ok (by kernel_rfl) (by kernel_rfl) (Nat.le_of_ble_eq_true (by kernel_rfl)) (by kernel_rfl)
/-! ### spec_l00Has -/
noncomputable def spec_l00Has.sig : Sig := ⟨[.val false (.sl (.int .i64)), .val false (.int .i64)], [(.val false, .bool, .deep)]⟩
noncomputable def spec_l00Has.ctx : Ctx := ⟨tabOf tabl, [], [], []⟩
noncomputable def spec_l00Has.cfg : Cfg := ⟨spec_l00Has.ctx, [], [], fun id => match id with | 2 => ([0, 1, 5], []) | _ => ([], [])⟩
noncomputable def spec_l00Has.code : Code := (Go.Proofs.Try.f92).body.getD .skip
noncomputable def spec_l00Has.fin := finK spec_l00Has.ctx spec_l00Has.sig [.tmp 4]
noncomputable def spec_l00Has.F (d : List Int × Int × Unit) : Option ((Bool × Unit) × (Unit)) := anyK (runFn spec_l00Has.cfg spec_l00Has.fin spec_l00Has.code (initSt spec_l00Has.sig.ps d 18))
noncomputable def spec_l00Has.l2 (k : Nat) (x3 : List Int) (i4 : Int) (i5 : Int) : Option ((Bool × Unit) × (Unit)) :=
  Go.Vm.runT spec_l00Has.cfg spec_l00Has.fin k [.inLoop (sub [1, 0, 1, 0, 0] spec_l00Has.code), .inBlock 0, .code (sub [1, 1] spec_l00Has.code)]
    ⟨[.val false [⟨(.sl (.int .i64)), .sh, x3⟩], .val false [⟨(.int .i64), .sh, i4⟩], .dead, .dead, .dead, .val false [⟨(.int .i64), .sh, i5⟩]] ++ deads 12, []⟩
theorem spec_l00Has.l2_eq (k : Nat) (x3 : List Int) (i4 : Int) (i5 : Int) : spec_l00Has.l2 (k + 1) x3 i4 i5 =
  if (decide (i5 < (x3.length : Int))) = true then
    if 0 ≤ i5 ∧ i5 < (x3.length : Int) then
      if ((x3.getD i5.toNat 0 : Int) == i4) = true then
        some ((true, ()), ())
      else
        spec_l00Has.l2 k x3 i4 (IntKind.i64.wrap (i5 + (1 : Int)))
    else
      none
  else
    some ((false, ()), ()) := by kernel_rfl
noncomputable def spec_l00Has.T (k : Nat) (list_1 : List Int) (n_2 : Int) : Option ((Bool × Unit) × (Unit)) :=
  spec_l00Has.l2 k list_1 n_2 (0 : Int)
theorem spec_l00Has.run (k : Nat) (list_1 : List Int) (n_2 : Int) : runFn spec_l00Has.cfg spec_l00Has.fin spec_l00Has.code (initSt spec_l00Has.sig.ps (list_1, n_2, ()) 18) k = spec_l00Has.T k list_1 n_2 := by kernel_rfl
theorem spec_l00Has.of (list_1 : List Int) (n_2 : Int) {r : (Bool × Unit) × (Unit)} (h : Ev (fun k => spec_l00Has.T k list_1 n_2) r) : spec_l00Has.F (list_1, n_2, ()) = some r := Ev.run (fun k => spec_l00Has.run k list_1 n_2) h
theorem spec_l00Has.ok : CtxOK Go.Proofs.Try.prog spec_l00Has.ctx := ⟨List.forall_mem_nil _, mixed_ok, tab_ok tab_good, List.forall_mem_nil _, List.forall_mem_nil _⟩
theorem spec_l00Has.S : Sound Go.Proofs.Try.prog ⟨92, spec_l00Has.sig, spec_l00Has.F⟩ := sound_any (fn := Go.Proofs.Try.f92) (code := spec_l00Has.code) (g := spec_l00Has.cfg) (res := [.tmp 4]) Go.Proofs.Try.func92 (by kernel_rfl) (by kernel_rfl) spec_l00Has.ok (by kernel_rfl) (by kernel_rfl) (Nat.le_of_ble_eq_true (by kernel_rfl)) (by kernel_rfl)
/-! ### spec_l16Cut -/
noncomputable def spec_l16Cut.sig : Sig := ⟨[.rptr TGraph, .val false (.sl (.int .i64))], [(.val false, (.int .i64), .deep)]⟩
noncomputable def spec_l16Cut.ctx : Ctx := ⟨tabOf tabl, [⟨92, spec_l00Has.sig, spec_l00Has.F⟩], [], []⟩
noncomputable def spec_l16Cut.cfg : Cfg := ⟨spec_l16Cut.ctx, [], [], fun id => match id with | 3 => ([0, 1, 5, 6], []) | _ => ([], [])⟩
noncomputable def spec_l16Cut.code : Code := (Go.Proofs.Try.f49).body.getD .skip
noncomputable def spec_l16Cut.fin := finK spec_l16Cut.ctx spec_l16Cut.sig [.tmp 4]
noncomputable def spec_l16Cut.F (d : (Int × List (Int × Int × Int)) × List Int × Unit) : Option ((Int × Unit) × (Unit)) := anyK (runFn spec_l16Cut.cfg spec_l16Cut.fin spec_l16Cut.code (initSt spec_l16Cut.sig.ps d 38))
noncomputable def spec_l16Cut.l3 (k : Nat) (i4 : Int) (x5 : List (Int × Int × Int)) (x6 : List Int) (i7 : Int) (i8 : Int) : Option ((Int × Unit) × (Unit)) :=
  Go.Vm.runT spec_l16Cut.cfg spec_l16Cut.fin k [.inLoop (sub [1, 1, 0, 1, 0, 0] spec_l16Cut.code), .inBlock 0, .code (sub [1, 1, 1] spec_l16Cut.code)]
    ⟨[.rptr [⟨(.int .i64), .sh, i4⟩, ⟨(.sl TEdge), .sh, x5⟩], .val false [⟨(.sl (.int .i64)), .sh, x6⟩], .dead, .dead, .dead, .val false [⟨(.int .i64), .sh, i7⟩], .val false [⟨(.int .i64), .sh, i8⟩]] ++ deads 31, []⟩
theorem spec_l16Cut.l3_eq (k : Nat) (i4 : Int) (x5 : List (Int × Int × Int)) (x6 : List Int) (i7 : Int) (i8 : Int) : spec_l16Cut.l3 (k + 1) i4 x5 x6 i7 i8 =
  if (decide (i8 < (x5.length : Int))) = true then
    if 0 ≤ i8 ∧ i8 < (x5.length : Int) then
      (spec_l00Has.F (x6, ((x5.getD i8.toNat (0, 0, 0)).1 : Int), ())).bind fun r9 =>
        (spec_l00Has.F (x6, (((x5.getD i8.toNat (0, 0, 0)).2).1 : Int), ())).bind fun r10 =>
          if (!((r9.1.1 : Bool) == (r10.1.1 : Bool))) = true then
            spec_l16Cut.l3 k i4 x5 x6 (IntKind.i64.wrap (i7 + (((x5.getD i8.toNat (0, 0, 0)).2).2 : Int))) (IntKind.i64.wrap (i8 + (1 : Int)))
          else
            spec_l16Cut.l3 k i4 x5 x6 i7 (IntKind.i64.wrap (i8 + (1 : Int)))
    else
      none
  else
    some ((i7, ()), ()) := by kernel_rfl
noncomputable def spec_l16Cut.T (k : Nat) (g_1 : Int) (g_2 : List (Int × Int × Int)) (set_3 : List Int) : Option ((Int × Unit) × (Unit)) :=
  spec_l16Cut.l3 k g_1 g_2 set_3 (0 : Int) (0 : Int)
theorem spec_l16Cut.run (k : Nat) (g_1 : Int) (g_2 : List (Int × Int × Int)) (set_3 : List Int) : runFn spec_l16Cut.cfg spec_l16Cut.fin spec_l16Cut.code (initSt spec_l16Cut.sig.ps ((g_1, g_2), set_3, ()) 38) k = spec_l16Cut.T k g_1 g_2 set_3 := by kernel_rfl
theorem spec_l16Cut.of (g_1 : Int) (g_2 : List (Int × Int × Int)) (set_3 : List Int) {r : (Int × Unit) × (Unit)} (h : Ev (fun k => spec_l16Cut.T k g_1 g_2 set_3) r) : spec_l16Cut.F ((g_1, g_2), set_3, ()) = some r := Ev.run (fun k => spec_l16Cut.run k g_1 g_2 set_3) h
theorem spec_l16Cut.ok : CtxOK Go.Proofs.Try.prog spec_l16Cut.ctx := ⟨List.forall_mem_nil _, mixed_ok, tab_ok tab_good, List.forall_mem_cons.2 ⟨spec_l00Has.S, List.forall_mem_nil _⟩, List.forall_mem_nil _⟩
theorem spec_l16Cut.S : Sound Go.Proofs.Try.prog ⟨49, spec_l16Cut.sig, spec_l16Cut.F⟩ := sound_any (fn := Go.Proofs.Try.f49) (code := spec_l16Cut.code) (g := spec_l16Cut.cfg) (res := [.tmp 4]) Go.Proofs.Try.func49 (by kernel_rfl) (by kernel_rfl) spec_l16Cut.ok (by kernel_rfl) (by kernel_rfl) (Nat.le_of_ble_eq_true (by kernel_rfl)) (by kernel_rfl)
/-! ### spec_CutWeight -/
noncomputable def spec_CutWeight.sig : Sig := ⟨[.val true TGraph, .val false (.sl (.int .i64))], [(.val false, (.int .i64), .deep), (.val false, (.int .i64), .deep)]⟩
noncomputable def spec_CutWeight.ctx : Ctx := ⟨tabOf tabl, [⟨47, spec_l16Ok.sig, spec_l16Ok.F⟩, ⟨48, spec_l16Set.sig, spec_l16Set.F⟩, ⟨49, spec_l16Cut.sig, spec_l16Cut.F⟩], [], []⟩
noncomputable def spec_CutWeight.cfg : Cfg := ⟨spec_CutWeight.ctx, [], [], fun _ => ([], [])⟩
noncomputable def spec_CutWeight.code : Code := (Go.Proofs.Try.f13).body.getD .skip
noncomputable def spec_CutWeight.fin := finK spec_CutWeight.ctx spec_CutWeight.sig [.tmp 4, .tmp 5]
noncomputable def spec_CutWeight.F (d : (Int × List (Int × Int × Int)) × List Int × Unit) : Option ((Int × Int × Unit) × (Unit)) := anyK (runFn spec_CutWeight.cfg spec_CutWeight.fin spec_CutWeight.code (initSt spec_CutWeight.sig.ps d 13))
noncomputable def spec_CutWeight.T (g_1 : Int) (g_2 : List (Int × Int × Int)) (set_3 : List Int) : Option ((Int × Int × Unit) × (Unit)) :=
  (spec_l16Ok.F ((g_1, g_2), ())).bind fun r4 =>
    if (!(r4.1.1 : Bool)) = true then
      some (((0 : Int), ((1 : Int), ())), ())
    else
      (spec_l16Set.F ((g_1, g_2), set_3, ())).bind fun r5 =>
        if (!(r5.1.1 : Bool)) = true then
          some (((0 : Int), ((2 : Int), ())), ())
        else
          (spec_l16Cut.F ((g_1, g_2), set_3, ())).bind fun r6 =>
            some (((r6.1.1 : Int), ((0 : Int), ())), ())
theorem spec_CutWeight.run (k : Nat) (g_1 : Int) (g_2 : List (Int × Int × Int)) (set_3 : List Int) : runFn spec_CutWeight.cfg spec_CutWeight.fin spec_CutWeight.code (initSt spec_CutWeight.sig.ps ((g_1, g_2), set_3, ()) 13) k = spec_CutWeight.T g_1 g_2 set_3 := by kernel_rfl
theorem spec_CutWeight.eq (g_1 : Int) (g_2 : List (Int × Int × Int)) (set_3 : List Int) : spec_CutWeight.F ((g_1, g_2), set_3, ()) = spec_CutWeight.T g_1 g_2 set_3 := (congrArg anyK (funext fun k => spec_CutWeight.run k g_1 g_2 set_3)).trans (anyK_const _)
theorem spec_CutWeight.ok : CtxOK Go.Proofs.Try.prog spec_CutWeight.ctx := ⟨List.forall_mem_nil _, mixed_ok, tab_ok tab_good, List.forall_mem_cons.2 ⟨spec_l16Ok.S, List.forall_mem_cons.2 ⟨spec_l16Set.S, List.forall_mem_cons.2 ⟨spec_l16Cut.S, List.forall_mem_nil _⟩⟩⟩, List.forall_mem_nil _⟩
theorem spec_CutWeight.S : Sound Go.Proofs.Try.prog ⟨13, spec_CutWeight.sig, spec_CutWeight.F⟩ := sound_any (fn := Go.Proofs.Try.f13) (code := spec_CutWeight.code) (g := spec_CutWeight.cfg) (res := [.tmp 4, .tmp 5]) Go.Proofs.Try.func13 (by kernel_rfl) (by kernel_rfl) spec_CutWeight.ok (by kernel_rfl) (by kernel_rfl) (Nat.le_of_ble_eq_true (by kernel_rfl)) (by kernel_rfl)
/-! ### laws_toEdge -/
noncomputable def laws_toEdge.sig : Sig := ⟨[.val true TEdge], [(.val true, TEdge, .deep)]⟩
noncomputable def laws_toEdge.ctx : Ctx := ⟨tabOf tabl, [], [], []⟩
noncomputable def laws_toEdge.cfg : Cfg := ⟨laws_toEdge.ctx, [], [], fun _ => ([], [])⟩
noncomputable def laws_toEdge.code : Code := (Go.Proofs.Try.f93).body.getD .skip
noncomputable def laws_toEdge.fin := finK laws_toEdge.ctx laws_toEdge.sig [.cell 2 110]
noncomputable def laws_toEdge.F (d : (Int × Int × Int) × Unit) : Option (((Int × Int × Int) × Unit) × (Unit)) := anyK (runFn laws_toEdge.cfg laws_toEdge.fin laws_toEdge.code (initSt laws_toEdge.sig.ps d 14))
noncomputable def laws_toEdge.T (a_1 : Int) (a_2 : Int) (a_3 : Int) : Option (((Int × Int × Int) × Unit) × (Unit)) :=
  some (((a_1, (a_2, a_3)), ()), ())
theorem laws_toEdge.run (k : Nat) (a_1 : Int) (a_2 : Int) (a_3 : Int) : runFn laws_toEdge.cfg laws_toEdge.fin laws_toEdge.code (initSt laws_toEdge.sig.ps ((a_1, (a_2, a_3)), ()) 14) k = laws_toEdge.T a_1 a_2 a_3 := by kernel_rfl
theorem laws_toEdge.eq (a_1 : Int) (a_2 : Int) (a_3 : Int) : laws_toEdge.F ((a_1, (a_2, a_3)), ()) = laws_toEdge.T a_1 a_2 a_3 := (congrArg anyK (funext fun k => laws_toEdge.run k a_1 a_2 a_3)).trans (anyK_const _)
theorem laws_toEdge.ok : CtxOK Go.Proofs.Try.prog laws_toEdge.ctx := ⟨List.forall_mem_nil _, mixed_ok, tab_ok tab_good, List.forall_mem_nil _, List.forall_mem_nil _⟩
theorem laws_toEdge.S : Sound Go.Proofs.Try.prog ⟨93, laws_toEdge.sig, laws_toEdge.F⟩ := sound_any (fn := Go.Proofs.Try.f93) (code := laws_toEdge.code) (g := laws_toEdge.cfg) (res := [.cell 2 110]) Go.Proofs.Try.func93 (by kernel_rfl) (by kernel_rfl) laws_toEdge.ok (by kernel_rfl) (by kernel_rfl) (Nat.le_of_ble_eq_true (by kernel_rfl)) (by kernel_rfl)
/-! ### laws_toEdgeS -/
noncomputable def laws_toEdgeS.sig : Sig := ⟨[.val false (.sl TEdge)], [(.val false, (.sl TEdge), .deep)]⟩
noncomputable def laws_toEdgeS.ctx : Ctx := ⟨tabOf tabl, [⟨93, laws_toEdge.sig, laws_toEdge.F⟩], [], []⟩
noncomputable def laws_toEdgeS.cfg : Cfg := ⟨laws_toEdgeS.ctx, [], [], fun id => match id with | 3 => ([0, 3, 4], [12]) | _ => ([], [])⟩
noncomputable def laws_toEdgeS.code : Code := (Go.Proofs.Try.f50).body.getD .skip
noncomputable def laws_toEdgeS.fin := finK laws_toEdgeS.ctx laws_toEdgeS.sig [.tmp 2]
noncomputable def laws_toEdgeS.F (d : List (Int × Int × Int) × Unit) : Option ((List (Int × Int × Int) × Unit) × (Unit)) := anyK (runFn laws_toEdgeS.cfg laws_toEdgeS.fin laws_toEdgeS.code (initSt laws_toEdgeS.sig.ps d 23))
noncomputable def laws_toEdgeS.l3 (k : Nat) (x2 : List (Int × Int × Int)) (i3 : Int) (x4 : List (Int × Int × Int)) : Option ((List (Int × Int × Int) × Unit) × (Unit)) :=
  Go.Vm.runT laws_toEdgeS.cfg laws_toEdgeS.fin k [.inLoop (sub [1, 1, 0, 1, 0, 0] laws_toEdgeS.code), .inBlock 0, .code (sub [1, 1, 1] laws_toEdgeS.code)]
    ⟨[.val false [⟨(.sl TEdge), .sh, x2⟩], .dead, .dead, .view 12 (.root 0) 1 false, .val false [⟨(.int .i64), .sh, i3⟩]] ++ deads 18, [(12, ⟨false, [⟨(.sl TEdge), .deep, x4⟩]⟩)]⟩
theorem laws_toEdgeS.l3_eq (k : Nat) (x2 : List (Int × Int × Int)) (i3 : Int) (x4 : List (Int × Int × Int)) : laws_toEdgeS.l3 (k + 1) x2 i3 x4 =
  if (decide (i3 < (x2.length : Int))) = true then
    if 0 ≤ i3 ∧ i3 < (x2.length : Int) then
      (laws_toEdge.F (x2.getD i3.toNat (0, 0, 0), ())).bind fun r5 =>
        if 0 ≤ i3 ∧ i3 < (x4.length : Int) then
          laws_toEdgeS.l3 k x2 (IntKind.i64.wrap (i3 + (1 : Int))) (x4.set i3.toNat r5.1.1)
        else
          none
    else
      none
  else
    some ((x4, ()), ()) := by kernel_rfl
noncomputable def laws_toEdgeS.T (k : Nat) (a_1 : List (Int × Int × Int)) : Option ((List (Int × Int × Int) × Unit) × (Unit)) :=
  if 0 ≤ (a_1.length : Int) ∧ (a_1.length : Int) ≤ (bigN : Int) then
    laws_toEdgeS.l3 k a_1 (0 : Int) (List.replicate (a_1.length : Int).toNat (0, 0, 0))
  else
    none
theorem laws_toEdgeS.run (k : Nat) (a_1 : List (Int × Int × Int)) : runFn laws_toEdgeS.cfg laws_toEdgeS.fin laws_toEdgeS.code (initSt laws_toEdgeS.sig.ps (a_1, ()) 23) k = laws_toEdgeS.T k a_1 := by kernel_rfl
theorem laws_toEdgeS.of (a_1 : List (Int × Int × Int)) {r : (List (Int × Int × Int) × Unit) × (Unit)} (h : Ev (fun k => laws_toEdgeS.T k a_1) r) : laws_toEdgeS.F (a_1, ()) = some r := Ev.run (fun k => laws_toEdgeS.run k a_1) h
theorem laws_toEdgeS.ok : CtxOK Go.Proofs.Try.prog laws_toEdgeS.ctx := ⟨List.forall_mem_nil _, mixed_ok, tab_ok tab_good, List.forall_mem_cons.2 ⟨laws_toEdge.S, List.forall_mem_nil _⟩, List.forall_mem_nil _⟩
theorem laws_toEdgeS.S : Sound Go.Proofs.Try.prog ⟨50, laws_toEdgeS.sig, laws_toEdgeS.F⟩ := sound_any (fn := Go.Proofs.Try.f50) (code := laws_toEdgeS.code) (g := laws_toEdgeS.cfg) (res := [.tmp 2]) Go.Proofs.Try.func50 (by kernel_rfl) (by kernel_rfl) laws_toEdgeS.ok (by kernel_rfl) (by kernel_rfl) (Nat.le_of_ble_eq_true (by kernel_rfl)) (by kernel_rfl)
/-! ### laws_toGraph -/
noncomputable def laws_toGraph.sig : Sig := ⟨[.val true TGraph], [(.val true, TGraph, .deep)]⟩
noncomputable def laws_toGraph.ctx : Ctx := ⟨tabOf tabl, [⟨50, laws_toEdgeS.sig, laws_toEdgeS.F⟩], [], []⟩
noncomputable def laws_toGraph.cfg : Cfg := ⟨laws_toGraph.ctx, [], [], fun _ => ([], [])⟩
noncomputable def laws_toGraph.code : Code := (Go.Proofs.Try.f14).body.getD .skip
noncomputable def laws_toGraph.fin := finK laws_toGraph.ctx laws_toGraph.sig [.cell 2 31]
noncomputable def laws_toGraph.F (d : (Int × List (Int × Int × Int)) × Unit) : Option (((Int × List (Int × Int × Int)) × Unit) × (Unit)) := anyK (runFn laws_toGraph.cfg laws_toGraph.fin laws_toGraph.code (initSt laws_toGraph.sig.ps d 12))
noncomputable def laws_toGraph.T (a_1 : Int) (a_2 : List (Int × Int × Int)) : Option (((Int × List (Int × Int × Int)) × Unit) × (Unit)) :=
  (laws_toEdgeS.F (a_2, ())).bind fun r3 =>
    some (((a_1, r3.1.1), ()), ())
theorem laws_toGraph.run (k : Nat) (a_1 : Int) (a_2 : List (Int × Int × Int)) : runFn laws_toGraph.cfg laws_toGraph.fin laws_toGraph.code (initSt laws_toGraph.sig.ps ((a_1, a_2), ()) 12) k = laws_toGraph.T a_1 a_2 := by kernel_rfl
theorem laws_toGraph.eq (a_1 : Int) (a_2 : List (Int × Int × Int)) : laws_toGraph.F ((a_1, a_2), ()) = laws_toGraph.T a_1 a_2 := (congrArg anyK (funext fun k => laws_toGraph.run k a_1 a_2)).trans (anyK_const _)
theorem laws_toGraph.ok : CtxOK Go.Proofs.Try.prog laws_toGraph.ctx := ⟨List.forall_mem_nil _, mixed_ok, tab_ok tab_good, List.forall_mem_cons.2 ⟨laws_toEdgeS.S, List.forall_mem_nil _⟩, List.forall_mem_nil _⟩
theorem laws_toGraph.S : Sound Go.Proofs.Try.prog ⟨14, laws_toGraph.sig, laws_toGraph.F⟩ := sound_any (fn := Go.Proofs.Try.f14) (code := laws_toGraph.code) (g := laws_toGraph.cfg) (res := [.cell 2 31]) Go.Proofs.Try.func14 (by kernel_rfl) (by kernel_rfl) laws_toGraph.ok (by kernel_rfl) (by kernel_rfl) (Nat.le_of_ble_eq_true (by kernel_rfl)) (by kernel_rfl)
/-! ### laws_toInt64S -/
noncomputable def laws_toInt64S.sig : Sig := ⟨[.val false (.sl (.int .i64))], [(.val false, (.sl (.int .i64)), .deep)]⟩
noncomputable def laws_toInt64S.ctx : Ctx := ⟨tabOf tabl, [], [], []⟩
noncomputable def laws_toInt64S.cfg : Cfg := ⟨laws_toInt64S.ctx, [], [], fun id => match id with | 3 => ([0, 3, 4], [12]) | _ => ([], [])⟩
noncomputable def laws_toInt64S.code : Code := (Go.Proofs.Try.f15).body.getD .skip
noncomputable def laws_toInt64S.fin := finK laws_toInt64S.ctx laws_toInt64S.sig [.tmp 2]
noncomputable def laws_toInt64S.F (d : List Int × Unit) : Option ((List Int × Unit) × (Unit)) := anyK (runFn laws_toInt64S.cfg laws_toInt64S.fin laws_toInt64S.code (initSt laws_toInt64S.sig.ps d 22))
noncomputable def laws_toInt64S.l3 (k : Nat) (x2 : List Int) (i3 : Int) (x4 : List Int) : Option ((List Int × Unit) × (Unit)) :=
  Go.Vm.runT laws_toInt64S.cfg laws_toInt64S.fin k [.inLoop (sub [1, 1, 0, 1, 0, 0] laws_toInt64S.code), .inBlock 0, .code (sub [1, 1, 1] laws_toInt64S.code)]
    ⟨[.val false [⟨(.sl (.int .i64)), .sh, x2⟩], .dead, .dead, .view 12 (.root 0) 1 false, .val false [⟨(.int .i64), .sh, i3⟩]] ++ deads 17, [(12, ⟨false, [⟨(.sl (.int .i64)), .deep, x4⟩]⟩)]⟩
theorem laws_toInt64S.l3_eq (k : Nat) (x2 : List Int) (i3 : Int) (x4 : List Int) : laws_toInt64S.l3 (k + 1) x2 i3 x4 =
  if (decide (i3 < (x2.length : Int))) = true then
    if 0 ≤ i3 ∧ i3 < (x2.length : Int) then
      if 0 ≤ i3 ∧ i3 < (x4.length : Int) then
        laws_toInt64S.l3 k x2 (IntKind.i64.wrap (i3 + (1 : Int))) (x4.set i3.toNat (x2.getD i3.toNat 0 : Int))
      else
        none
    else
      none
  else
    some ((x4, ()), ()) := by kernel_rfl
noncomputable def laws_toInt64S.T (k : Nat) (a_1 : List Int) : Option ((List Int × Unit) × (Unit)) :=
  if 0 ≤ (a_1.length : Int) ∧ (a_1.length : Int) ≤ (bigN : Int) then
    laws_toInt64S.l3 k a_1 (0 : Int) (List.replicate (a_1.length : Int).toNat 0)
  else
    none
theorem laws_toInt64S.run (k : Nat) (a_1 : List Int) : runFn laws_toInt64S.cfg laws_toInt64S.fin laws_toInt64S.code (initSt laws_toInt64S.sig.ps (a_1, ()) 22) k = laws_toInt64S.T k a_1 := by kernel_rfl
theorem laws_toInt64S.of (a_1 : List Int) {r : (List Int × Unit) × (Unit)} (h : Ev (fun k => laws_toInt64S.T k a_1) r) : laws_toInt64S.F (a_1, ()) = some r := Ev.run (fun k => laws_toInt64S.run k a_1) h
theorem laws_toInt64S.ok : CtxOK Go.Proofs.Try.prog laws_toInt64S.ctx := ⟨List.forall_mem_nil _, mixed_ok, tab_ok tab_good, List.forall_mem_nil _, List.forall_mem_nil _⟩
theorem laws_toInt64S.S : Sound Go.Proofs.Try.prog ⟨15, laws_toInt64S.sig, laws_toInt64S.F⟩ := sound_any (fn := Go.Proofs.Try.f15) (code := laws_toInt64S.code) (g := laws_toInt64S.cfg) (res := [.tmp 2]) Go.Proofs.Try.func15 (by kernel_rfl) (by kernel_rfl) laws_toInt64S.ok (by kernel_rfl) (by kernel_rfl) (Nat.le_of_ble_eq_true (by kernel_rfl)) (by kernel_rfl)
/-! ### impl_within -/
noncomputable def impl_within.sig : Sig := ⟨[.val false (.int .i64), .val false (.int .i64), .val false (.int .i64)], [(.val false, .bool, .deep)]⟩
noncomputable def impl_within.ctx : Ctx := ⟨tabOf tabl, [], [], []⟩
noncomputable def impl_within.cfg : Cfg := ⟨impl_within.ctx, [], [], fun _ => ([], [])⟩
noncomputable def impl_within.code : Code := (Go.Proofs.Try.f94).body.getD .skip
noncomputable def impl_within.fin := finK impl_within.ctx impl_within.sig [.tmp 6]
noncomputable def impl_within.F (d : Int × Int × Int × Unit) : Option ((Bool × Unit) × (Unit)) := anyK (runFn impl_within.cfg impl_within.fin impl_within.code (initSt impl_within.sig.ps d 15))
noncomputable def impl_within.T (n_1 : Int) (low_2 : Int) (high_3 : Int) : Option ((Bool × Unit) × (Unit)) :=
  if (decide (n_1 ≥ low_2)) = true then
    some ((decide (n_1 ≤ high_3), ()), ())
  else
    some ((false, ()), ())
theorem impl_within.run (k : Nat) (n_1 : Int) (low_2 : Int) (high_3 : Int) : runFn impl_within.cfg impl_within.fin impl_within.code (initSt impl_within.sig.ps (n_1, low_2, high_3, ()) 15) k = impl_within.T n_1 low_2 high_3 := by kernel_rfl
theorem impl_within.eq (n_1 : Int) (low_2 : Int) (high_3 : Int) : impl_within.F (n_1, low_2, high_3, ()) = impl_within.T n_1 low_2 high_3 := (congrArg anyK (funext fun k => impl_within.run k n_1 low_2 high_3)).trans (anyK_const _)
theorem impl_within.ok : CtxOK Go.Proofs.Try.prog impl_within.ctx := ⟨List.forall_mem_nil _, mixed_ok, tab_ok tab_good, List.forall_mem_nil _, List.forall_mem_nil _⟩
theorem impl_within.S : Sound Go.Proofs.Try.prog ⟨94, impl_within.sig, impl_within.F⟩ := sound_any (fn := Go.Proofs.Try.f94) (code := impl_within.code) (g := impl_within.cfg) (res := [.tmp 6]) Go.Proofs.Try.func94 (by kernel_rfl) (by kernel_rfl) impl_within.ok (by kernel_rfl) (by kernel_rfl) (Nat.le_of_ble_eq_true (by kernel_rfl)) (by kernel_rfl)
/-! ### cmp_Or_int -/
noncomputable def cmp_Or_int.sig : Sig := ⟨[.val false (.sl (.int .i64))], [(.val false, (.int .i64), .deep)]⟩
noncomputable def cmp_Or_int.ctx : Ctx := ⟨tabOf tabl, [], [], []⟩
noncomputable def cmp_Or_int.cfg : Cfg := ⟨cmp_Or_int.ctx, [], [], fun id => match id with | 3 => ([3, 6, 7, 8], []) | _ => ([], [])⟩
noncomputable def cmp_Or_int.code : Code := (Go.Proofs.Try.f145).body.getD .skip
noncomputable def cmp_Or_int.fin := finK cmp_Or_int.ctx cmp_Or_int.sig [.tmp 2]
noncomputable def cmp_Or_int.F (d : List Int × Unit) : Option ((Int × Unit) × (Unit)) := anyK (runFn cmp_Or_int.cfg cmp_Or_int.fin cmp_Or_int.code (initSt cmp_Or_int.sig.ps d 18))
noncomputable def cmp_Or_int.l3 (k : Nat) (i2 : Int) (x3 : List Int) (i4 : Int) (i5 : Int) : Option ((Int × Unit) × (Unit)) :=
  Go.Vm.runT cmp_Or_int.cfg cmp_Or_int.fin k [.inLoop (sub [1, 1, 0, 1, 0, 0] cmp_Or_int.code), .inBlock 0, .code (sub [1, 1, 1] cmp_Or_int.code)]
    ⟨[.dead, .dead, .dead, .val false [⟨(.int .i64), .sh, i2⟩], .dead, .dead, .val false [⟨(.sl (.int .i64)), .sh, x3⟩], .val false [⟨(.int .i64), .sh, i4⟩], .val false [⟨(.int .i64), .sh, i5⟩]] ++ deads 9, []⟩
theorem cmp_Or_int.l3_eq (k : Nat) (i2 : Int) (x3 : List Int) (i4 : Int) (i5 : Int) : cmp_Or_int.l3 (k + 1) i2 x3 i4 i5 =
  if (decide (i5 < i4)) = true then
    if 0 ≤ i5 ∧ i5 < (x3.length : Int) then
      if ((x3.getD i5.toNat 0 : Int) != i2) = true then
        some (((x3.getD i5.toNat 0 : Int), ()), ())
      else
        cmp_Or_int.l3 k i2 x3 i4 (IntKind.i64.wrap (i5 + (1 : Int)))
    else
      none
  else
    some ((i2, ()), ()) := by kernel_rfl
noncomputable def cmp_Or_int.T (k : Nat) (vals_1 : List Int) : Option ((Int × Unit) × (Unit)) :=
  cmp_Or_int.l3 k (0 : Int) vals_1 (vals_1.length : Int) (0 : Int)
theorem cmp_Or_int.run (k : Nat) (vals_1 : List Int) : runFn cmp_Or_int.cfg cmp_Or_int.fin cmp_Or_int.code (initSt cmp_Or_int.sig.ps (vals_1, ()) 18) k = cmp_Or_int.T k vals_1 := by kernel_rfl
theorem cmp_Or_int.of (vals_1 : List Int) {r : (Int × Unit) × (Unit)} (h : Ev (fun k => cmp_Or_int.T k vals_1) r) : cmp_Or_int.F (vals_1, ()) = some r := Ev.run (fun k => cmp_Or_int.run k vals_1) h
theorem cmp_Or_int.ok : CtxOK Go.Proofs.Try.prog cmp_Or_int.ctx := ⟨List.forall_mem_nil _, mixed_ok, tab_ok tab_good, List.forall_mem_nil _, List.forall_mem_nil _⟩
theorem cmp_Or_int.S : Sound Go.Proofs.Try.prog ⟨145, cmp_Or_int.sig, cmp_Or_int.F⟩ := sound_any (fn := Go.Proofs.Try.f145) (code := cmp_Or_int.code) (g := cmp_Or_int.cfg) (res := [.tmp 2]) Go.Proofs.Try.func145 (by kernel_rfl) (by kernel_rfl) cmp_Or_int.ok (by kernel_rfl) (by kernel_rfl) (Nat.le_of_ble_eq_true (by kernel_rfl)) (by kernel_rfl)
/-! ### cmp_isNaN_int64 -/
noncomputable def cmp_isNaN_int64.sig : Sig := ⟨[.val false (.int .i64)], [(.val false, .bool, .deep)]⟩
noncomputable def cmp_isNaN_int64.ctx : Ctx := ⟨tabOf tabl, [], [], []⟩
noncomputable def cmp_isNaN_int64.cfg : Cfg := ⟨cmp_isNaN_int64.ctx, [], [], fun _ => ([], [])⟩
noncomputable def cmp_isNaN_int64.code : Code := (Go.Proofs.Try.f180).body.getD .skip
noncomputable def cmp_isNaN_int64.fin := finK cmp_isNaN_int64.ctx cmp_isNaN_int64.sig [.tmp 2]
noncomputable def cmp_isNaN_int64.F (d : Int × Unit) : Option ((Bool × Unit) × (Unit)) := anyK (runFn cmp_isNaN_int64.cfg cmp_isNaN_int64.fin cmp_isNaN_int64.code (initSt cmp_isNaN_int64.sig.ps d 6))
noncomputable def cmp_isNaN_int64.T (x_1 : Int) : Option ((Bool × Unit) × (Unit)) :=
  some ((x_1 != x_1, ()), ())
theorem cmp_isNaN_int64.run (k : Nat) (x_1 : Int) : runFn cmp_isNaN_int64.cfg cmp_isNaN_int64.fin cmp_isNaN_int64.code (initSt cmp_isNaN_int64.sig.ps (x_1, ()) 6) k = cmp_isNaN_int64.T x_1 := by kernel_rfl
theorem cmp_isNaN_int64.eq (x_1 : Int) : cmp_isNaN_int64.F (x_1, ()) = cmp_isNaN_int64.T x_1 := (congrArg anyK (funext fun k => cmp_isNaN_int64.run k x_1)).trans (anyK_const _)
theorem cmp_isNaN_int64.ok : CtxOK Go.Proofs.Try.prog cmp_isNaN_int64.ctx := ⟨List.forall_mem_nil _, mixed_ok, tab_ok tab_good, List.forall_mem_nil _, List.forall_mem_nil _⟩
theorem cmp_isNaN_int64.S : Sound Go.Proofs.Try.prog ⟨180, cmp_isNaN_int64.sig, cmp_isNaN_int64.F⟩ := sound_any (fn := Go.Proofs.Try.f180) (code := cmp_isNaN_int64.code) (g := cmp_isNaN_int64.cfg) (res := [.tmp 2]) Go.Proofs.Try.func180 (by kernel_rfl) (by kernel_rfl) cmp_isNaN_int64.ok (by kernel_rfl) (by kernel_rfl) (Nat.le_of_ble_eq_true (by kernel_rfl)) (by kernel_rfl)
/-! ### cmp_Compare_int64 -/
noncomputable def cmp_Compare_int64.sig : Sig := ⟨[.val false (.int .i64), .val false (.int .i64)], [(.val false, (.int .i64), .deep)]⟩
noncomputable def cmp_Compare_int64.ctx : Ctx := ⟨tabOf tabl, [⟨180, cmp_isNaN_int64.sig, cmp_isNaN_int64.F⟩], [], []⟩
noncomputable def cmp_Compare_int64.cfg : Cfg := ⟨cmp_Compare_int64.ctx, [], [], fun _ => ([], [])⟩
noncomputable def cmp_Compare_int64.code : Code := (Go.Proofs.Try.f146).body.getD .skip
noncomputable def cmp_Compare_int64.fin := finK cmp_Compare_int64.ctx cmp_Compare_int64.sig [.tmp 4]
noncomputable def cmp_Compare_int64.F (d : Int × Int × Unit) : Option ((Int × Unit) × (Unit)) := anyK (runFn cmp_Compare_int64.cfg cmp_Compare_int64.fin cmp_Compare_int64.code (initSt cmp_Compare_int64.sig.ps d 20))
noncomputable def cmp_Compare_int64.T (x_1 : Int) (y_2 : Int) : Option ((Int × Unit) × (Unit)) :=
  (cmp_isNaN_int64.F (x_1, ())).bind fun r3 =>
    (cmp_isNaN_int64.F (y_2, ())).bind fun r4 =>
      if (r3.1.1 : Bool) = true then
        if (r4.1.1 : Bool) = true then
          some (((0 : Int), ()), ())
        else
          some (((-1 : Int), ()), ())
      else
        if (r4.1.1 : Bool) = true then
          some (((1 : Int), ()), ())
        else
          if (decide (x_1 < y_2)) = true then
            some (((-1 : Int), ()), ())
          else
            if (decide (x_1 > y_2)) = true then
              some (((1 : Int), ()), ())
            else
              some (((0 : Int), ()), ())
theorem cmp_Compare_int64.run (k : Nat) (x_1 : Int) (y_2 : Int) : runFn cmp_Compare_int64.cfg cmp_Compare_int64.fin cmp_Compare_int64.code (initSt cmp_Compare_int64.sig.ps (x_1, y_2, ()) 20) k = cmp_Compare_int64.T x_1 y_2 := by kernel_rfl
theorem cmp_Compare_int64.eq (x_1 : Int) (y_2 : Int) : cmp_Compare_int64.F (x_1, y_2, ()) = cmp_Compare_int64.T x_1 y_2 := (congrArg anyK (funext fun k => cmp_Compare_int64.run k x_1 y_2)).trans (anyK_const _)
theorem cmp_Compare_int64.ok : CtxOK Go.Proofs.Try.prog cmp_Compare_int64.ctx := ⟨List.forall_mem_nil _, mixed_ok, tab_ok tab_good, List.forall_mem_cons.2 ⟨cmp_isNaN_int64.S, List.forall_mem_nil _⟩, List.forall_mem_nil _⟩
theorem cmp_Compare_int64.S : Sound Go.Proofs.Try.prog ⟨146, cmp_Compare_int64.sig, cmp_Compare_int64.F⟩ := sound_any (fn := Go.Proofs.Try.f146) (code := cmp_Compare_int64.code) (g := cmp_Compare_int64.cfg) (res := [.tmp 4]) Go.Proofs.Try.func146 (by kernel_rfl) (by kernel_rfl) cmp_Compare_int64.ok (by kernel_rfl) (by kernel_rfl) (Nat.le_of_ble_eq_true (by kernel_rfl)) (by kernel_rfl)
/-! ### impl_compareEdges -/
noncomputable def impl_compareEdges.sig : Sig := ⟨[.val true TEdge, .val true TEdge], [(.val false, (.int .i64), .deep)]⟩
noncomputable def impl_compareEdges.ctx : Ctx := ⟨tabOf tabl, [⟨145, cmp_Or_int.sig, cmp_Or_int.F⟩, ⟨146, cmp_Compare_int64.sig, cmp_Compare_int64.F⟩], [], []⟩
noncomputable def impl_compareEdges.cfg : Cfg := ⟨impl_compareEdges.ctx, [], [], fun _ => ([], [])⟩
noncomputable def impl_compareEdges.code : Code := (Go.Proofs.Try.f95).body.getD .skip
noncomputable def impl_compareEdges.fin := finK impl_compareEdges.ctx impl_compareEdges.sig [.tmp 4]
noncomputable def impl_compareEdges.F (d : (Int × Int × Int) × (Int × Int × Int) × Unit) : Option ((Int × Unit) × (Unit)) := anyK (runFn impl_compareEdges.cfg impl_compareEdges.fin impl_compareEdges.code (initSt impl_compareEdges.sig.ps d 17))
noncomputable def impl_compareEdges.T (a_1 : Int) (a_2 : Int) (a_3 : Int) (b_4 : Int) (b_5 : Int) (b_6 : Int) : Option ((Int × Unit) × (Unit)) :=
  (cmp_Compare_int64.F (a_1, b_4, ())).bind fun r7 =>
    (cmp_Compare_int64.F (a_2, b_5, ())).bind fun r8 =>
      (cmp_Or_int.F ([(r7.1.1 : Int), (r8.1.1 : Int)], ())).bind fun r9 =>
        some (((r9.1.1 : Int), ()), ())
theorem impl_compareEdges.run (k : Nat) (a_1 : Int) (a_2 : Int) (a_3 : Int) (b_4 : Int) (b_5 : Int) (b_6 : Int) : runFn impl_compareEdges.cfg impl_compareEdges.fin impl_compareEdges.code (initSt impl_compareEdges.sig.ps ((a_1, (a_2, a_3)), (b_4, (b_5, b_6)), ()) 17) k = impl_compareEdges.T a_1 a_2 a_3 b_4 b_5 b_6 := by kernel_rfl
theorem impl_compareEdges.eq (a_1 : Int) (a_2 : Int) (a_3 : Int) (b_4 : Int) (b_5 : Int) (b_6 : Int) : impl_compareEdges.F ((a_1, (a_2, a_3)), (b_4, (b_5, b_6)), ()) = impl_compareEdges.T a_1 a_2 a_3 b_4 b_5 b_6 := (congrArg anyK (funext fun k => impl_compareEdges.run k a_1 a_2 a_3 b_4 b_5 b_6)).trans (anyK_const _)
theorem impl_compareEdges.ok : CtxOK Go.Proofs.Try.prog impl_compareEdges.ctx := ⟨List.forall_mem_nil _, mixed_ok, tab_ok tab_good, List.forall_mem_cons.2 ⟨cmp_Or_int.S, List.forall_mem_cons.2 ⟨cmp_Compare_int64.S, List.forall_mem_nil _⟩⟩, List.forall_mem_nil _⟩
theorem impl_compareEdges.S : Sound Go.Proofs.Try.prog ⟨95, impl_compareEdges.sig, impl_compareEdges.F⟩ := sound_any (fn := Go.Proofs.Try.f95) (code := impl_compareEdges.code) (g := impl_compareEdges.cfg) (res := [.tmp 4]) Go.Proofs.Try.func95 (by kernel_rfl) (by kernel_rfl) impl_compareEdges.ok (by kernel_rfl) (by kernel_rfl) (Nat.le_of_ble_eq_true (by kernel_rfl)) (by kernel_rfl)
/-! ### impl_ValidGraph -/
noncomputable def impl_ValidGraph.sig : Sig := ⟨[.val true TGraph], [(.val false, .bool, .deep)]⟩
noncomputable def impl_ValidGraph.ctx : Ctx := ⟨tabOf tabl, [⟨94, impl_within.sig, impl_within.F⟩, ⟨95, impl_compareEdges.sig, impl_compareEdges.F⟩], [], []⟩
noncomputable def impl_ValidGraph.cfg : Cfg := ⟨impl_ValidGraph.ctx, [], [], fun id => match id with | 2 => ([1, 6, 7, 8], [4]) | _ => ([], [])⟩
noncomputable def impl_ValidGraph.code : Code := (Go.Proofs.Try.f51).body.getD .skip
noncomputable def impl_ValidGraph.fin := finK impl_ValidGraph.ctx impl_ValidGraph.sig [.tmp 2]
noncomputable def impl_ValidGraph.F (d : (Int × List (Int × Int × Int)) × Unit) : Option ((Bool × Unit) × (Unit)) := anyK (runFn impl_ValidGraph.cfg impl_ValidGraph.fin impl_ValidGraph.code (initSt impl_ValidGraph.sig.ps d 61))
noncomputable def impl_ValidGraph.l2 (k : Nat) (x3 : List (Int × Int × Int)) (i4 : Int) (i5 : Int) (i6 : Int) (x7 : List (Int × Int × Int)) : Option ((Bool × Unit) × (Unit)) :=
  Go.Vm.runT impl_ValidGraph.cfg impl_ValidGraph.fin k [.inLoop (sub [1, 0, 1, 0, 0] impl_ValidGraph.code), .inBlock 0, .code (sub [1, 1] impl_ValidGraph.code)]
    ⟨[.dead, .ref 4 (.root 0), .dead, .dead, .dead, .dead, .val false [⟨(.sl TEdge), .sh, x3⟩], .val false [⟨(.int .i64), .sh, i4⟩], .val false [⟨(.int .i64), .sh, i5⟩]] ++ deads 52, [(4, ⟨true, [⟨(.int .i64), .sh, i6⟩, ⟨(.sl TEdge), .sh, x7⟩]⟩)]⟩
theorem impl_ValidGraph.l2_eq (k : Nat) (x3 : List (Int × Int × Int)) (i4 : Int) (i5 : Int) (i6 : Int) (x7 : List (Int × Int × Int)) : impl_ValidGraph.l2 (k + 1) x3 i4 i5 i6 x7 =
  if (decide (i5 < i4)) = true then
    if 0 ≤ i5 ∧ i5 < (x3.length : Int) then
      if (decide (((x3.getD i5.toNat (0, 0, 0)).1 : Int) < (0 : Int))) = true then
        some ((false, ()), ())
      else
        if (decide (((x3.getD i5.toNat (0, 0, 0)).1 : Int) ≥ (((x3.getD i5.toNat (0, 0, 0)).2).1 : Int))) = true then
          some ((false, ()), ())
        else
          if (decide ((((x3.getD i5.toNat (0, 0, 0)).2).1 : Int) ≥ i6)) = true then
            some ((false, ()), ())
          else
            (impl_within.F ((((x3.getD i5.toNat (0, 0, 0)).2).2 : Int), (1 : Int), (9 : Int), ())).bind fun r8 =>
              if (!(r8.1.1 : Bool)) = true then
                some ((false, ()), ())
              else
                if (decide (i5 > (0 : Int))) = true then
                  if 0 ≤ (IntKind.i64.wrap (i5 - (1 : Int))) ∧ (IntKind.i64.wrap (i5 - (1 : Int))) < (x7.length : Int) then
                    (impl_compareEdges.F (x7.getD (IntKind.i64.wrap (i5 - (1 : Int))).toNat (0, 0, 0), x3.getD i5.toNat (0, 0, 0), ())).bind fun r9 =>
                      if (decide ((r9.1.1 : Int) ≥ (0 : Int))) = true then
                        some ((false, ()), ())
                      else
                        impl_ValidGraph.l2 k x3 i4 (IntKind.i64.wrap (i5 + (1 : Int))) i6 x7
                  else
                    none
                else
                  impl_ValidGraph.l2 k x3 i4 (IntKind.i64.wrap (i5 + (1 : Int))) i6 x7
    else
      none
  else
    (impl_within.F (i6, (1 : Int), (12 : Int), ())).bind fun r10 =>
      if (r10.1.1 : Bool) = true then
        some ((decide ((x7.length : Int) ≤ (24 : Int)), ()), ())
      else
        some ((false, ()), ()) := by kernel_rfl
noncomputable def impl_ValidGraph.T (k : Nat) (g_1 : Int) (g_2 : List (Int × Int × Int)) : Option ((Bool × Unit) × (Unit)) :=
  impl_ValidGraph.l2 k g_2 (g_2.length : Int) (0 : Int) g_1 g_2
theorem impl_ValidGraph.run (k : Nat) (g_1 : Int) (g_2 : List (Int × Int × Int)) : runFn impl_ValidGraph.cfg impl_ValidGraph.fin impl_ValidGraph.code (initSt impl_ValidGraph.sig.ps ((g_1, g_2), ()) 61) k = impl_ValidGraph.T k g_1 g_2 := by kernel_rfl
theorem impl_ValidGraph.of (g_1 : Int) (g_2 : List (Int × Int × Int)) {r : (Bool × Unit) × (Unit)} (h : Ev (fun k => impl_ValidGraph.T k g_1 g_2) r) : impl_ValidGraph.F ((g_1, g_2), ()) = some r := Ev.run (fun k => impl_ValidGraph.run k g_1 g_2) h
theorem impl_ValidGraph.ok : CtxOK Go.Proofs.Try.prog impl_ValidGraph.ctx := ⟨List.forall_mem_nil _, mixed_ok, tab_ok tab_good, List.forall_mem_cons.2 ⟨impl_within.S, List.forall_mem_cons.2 ⟨impl_compareEdges.S, List.forall_mem_nil _⟩⟩, List.forall_mem_nil _⟩
theorem impl_ValidGraph.S : Sound Go.Proofs.Try.prog ⟨51, impl_ValidGraph.sig, impl_ValidGraph.F⟩ := sound_any (fn := Go.Proofs.Try.f51) (code := impl_ValidGraph.code) (g := impl_ValidGraph.cfg) (res := [.tmp 2]) Go.Proofs.Try.func51 (by kernel_rfl) (by kernel_rfl) impl_ValidGraph.ok (by kernel_rfl) (by kernel_rfl) (Nat.le_of_ble_eq_true (by kernel_rfl)) (by kernel_rfl)
/-! ### impl_isRising -/
noncomputable def impl_isRising.sig : Sig := ⟨[.val false (.sl (.int .i64))], [(.val false, .bool, .deep)]⟩
noncomputable def impl_isRising.ctx : Ctx := ⟨tabOf tabl, [], [], []⟩
noncomputable def impl_isRising.cfg : Cfg := ⟨impl_isRising.ctx, [], [], fun id => match id with | 2 => ([0, 3], []) | _ => ([], [])⟩
noncomputable def impl_isRising.code : Code := (Go.Proofs.Try.f96).body.getD .skip
noncomputable def impl_isRising.fin := finK impl_isRising.ctx impl_isRising.sig [.tmp 2]
noncomputable def impl_isRising.F (d : List Int × Unit) : Option ((Bool × Unit) × (Unit)) := anyK (runFn impl_isRising.cfg impl_isRising.fin impl_isRising.code (initSt impl_isRising.sig.ps d 20))
noncomputable def impl_isRising.l2 (k : Nat) (x2 : List Int) (i3 : Int) : Option ((Bool × Unit) × (Unit)) :=
  Go.Vm.runT impl_isRising.cfg impl_isRising.fin k [.inLoop (sub [1, 0, 1, 0, 0] impl_isRising.code), .inBlock 0, .code (sub [1, 1] impl_isRising.code)]
    ⟨[.val false [⟨(.sl (.int .i64)), .sh, x2⟩], .dead, .dead, .val false [⟨(.int .i64), .sh, i3⟩]] ++ deads 16, []⟩
theorem impl_isRising.l2_eq (k : Nat) (x2 : List Int) (i3 : Int) : impl_isRising.l2 (k + 1) x2 i3 =
  if (decide (i3 < (x2.length : Int))) = true then
    if 0 ≤ (IntKind.i64.wrap (i3 - (1 : Int))) ∧ (IntKind.i64.wrap (i3 - (1 : Int))) < (x2.length : Int) then
      if 0 ≤ i3 ∧ i3 < (x2.length : Int) then
        if (decide ((x2.getD (IntKind.i64.wrap (i3 - (1 : Int))).toNat 0) ≥ (x2.getD i3.toNat 0 : Int))) = true then
          some ((false, ()), ())
        else
          impl_isRising.l2 k x2 (IntKind.i64.wrap (i3 + (1 : Int)))
      else
        none
    else
      none
  else
    some ((true, ()), ()) := by kernel_rfl
noncomputable def impl_isRising.T (k : Nat) (list_1 : List Int) : Option ((Bool × Unit) × (Unit)) :=
  impl_isRising.l2 k list_1 (1 : Int)
theorem impl_isRising.run (k : Nat) (list_1 : List Int) : runFn impl_isRising.cfg impl_isRising.fin impl_isRising.code (initSt impl_isRising.sig.ps (list_1, ()) 20) k = impl_isRising.T k list_1 := by kernel_rfl
theorem impl_isRising.of (list_1 : List Int) {r : (Bool × Unit) × (Unit)} (h : Ev (fun k => impl_isRising.T k list_1) r) : impl_isRising.F (list_1, ()) = some r := Ev.run (fun k => impl_isRising.run k list_1) h
theorem impl_isRising.ok : CtxOK Go.Proofs.Try.prog impl_isRising.ctx := ⟨List.forall_mem_nil _, mixed_ok, tab_ok tab_good, List.forall_mem_nil _, List.forall_mem_nil _⟩
theorem impl_isRising.S : Sound Go.Proofs.Try.prog ⟨96, impl_isRising.sig, impl_isRising.F⟩ := sound_any (fn := Go.Proofs.Try.f96) (code := impl_isRising.code) (g := impl_isRising.cfg) (res := [.tmp 2]) Go.Proofs.Try.func96 (by kernel_rfl) (by kernel_rfl) impl_isRising.ok (by kernel_rfl) (by kernel_rfl) (Nat.le_of_ble_eq_true (by kernel_rfl)) (by kernel_rfl)
/-! ### slices_IndexFunc_Lint64_int64 -/
noncomputable def slices_IndexFunc_Lint64_int64.sig : Sig := ⟨[.val false (.sl (.int .i64)), .fnx ⟨[(false, (.int .i64))], [(.val false, .bool, .deep)]⟩], [(.val false, (.int .i64), .deep)]⟩
noncomputable def slices_IndexFunc_Lint64_int64.ctx : Ctx := ⟨tabOf tabl, [], [], []⟩
noncomputable def slices_IndexFunc_Lint64_int64.cfg : Cfg := ⟨slices_IndexFunc_Lint64_int64.ctx, [], [], fun id => match id with | 2 => ([0, 1, 7, 8], []) | _ => ([], [])⟩
noncomputable def slices_IndexFunc_Lint64_int64.code : Code := (Go.Proofs.Try.f181).body.getD .skip
noncomputable def slices_IndexFunc_Lint64_int64.fin := finK slices_IndexFunc_Lint64_int64.ctx slices_IndexFunc_Lint64_int64.sig [.tmp 4]
noncomputable def slices_IndexFunc_Lint64_int64.F (d : List Int × ((Int × Unit) → Option (Bool × Unit)) × Unit) : Option ((Int × Unit) × (Unit)) := anyK (runFn slices_IndexFunc_Lint64_int64.cfg slices_IndexFunc_Lint64_int64.fin slices_IndexFunc_Lint64_int64.code (initSt slices_IndexFunc_Lint64_int64.sig.ps d 19))
noncomputable def slices_IndexFunc_Lint64_int64.l2 (k : Nat) (x3 : List Int) (f4 : (Int × Unit) → Option (Bool × Unit)) (i5 : Int) (i6 : Int) : Option ((Int × Unit) × (Unit)) :=
  Go.Vm.runT slices_IndexFunc_Lint64_int64.cfg slices_IndexFunc_Lint64_int64.fin k [.inLoop (sub [1, 0, 1, 0, 0] slices_IndexFunc_Lint64_int64.code), .inBlock 0, .code (sub [1, 1] slices_IndexFunc_Lint64_int64.code)]
    ⟨[.val false [⟨(.sl (.int .i64)), .sh, x3⟩], .fnx ⟨[(false, (.int .i64))], [(.val false, .bool, .deep)]⟩ f4, .dead, .dead, .dead, .dead, .dead, .val false [⟨(.int .i64), .sh, i5⟩], .val false [⟨(.int .i64), .sh, i6⟩]] ++ deads 10, []⟩
theorem slices_IndexFunc_Lint64_int64.l2_eq (k : Nat) (x3 : List Int) (f4 : (Int × Unit) → Option (Bool × Unit)) (i5 : Int) (i6 : Int) : slices_IndexFunc_Lint64_int64.l2 (k + 1) x3 f4 i5 i6 =
  if (decide (i6 < i5)) = true then
    if 0 ≤ i6 ∧ i6 < (x3.length : Int) then
      (f4 ((x3.getD i6.toNat 0 : Int), ())).bind fun r7 =>
        if (r7.1 : Bool) = true then
          some ((i6, ()), ())
        else
          slices_IndexFunc_Lint64_int64.l2 k x3 f4 i5 (IntKind.i64.wrap (i6 + (1 : Int)))
    else
      none
  else
    some (((-1 : Int), ()), ()) := by kernel_rfl
noncomputable def slices_IndexFunc_Lint64_int64.T (k : Nat) (s_1 : List Int) (f_2 : (Int × Unit) → Option (Bool × Unit)) : Option ((Int × Unit) × (Unit)) :=
  slices_IndexFunc_Lint64_int64.l2 k s_1 f_2 (s_1.length : Int) (0 : Int)
theorem slices_IndexFunc_Lint64_int64.run (k : Nat) (s_1 : List Int) (f_2 : (Int × Unit) → Option (Bool × Unit)) : runFn slices_IndexFunc_Lint64_int64.cfg slices_IndexFunc_Lint64_int64.fin slices_IndexFunc_Lint64_int64.code (initSt slices_IndexFunc_Lint64_int64.sig.ps (s_1, f_2, ()) 19) k = slices_IndexFunc_Lint64_int64.T k s_1 f_2 := by kernel_rfl
theorem slices_IndexFunc_Lint64_int64.of (s_1 : List Int) (f_2 : (Int × Unit) → Option (Bool × Unit)) {r : (Int × Unit) × (Unit)} (h : Ev (fun k => slices_IndexFunc_Lint64_int64.T k s_1 f_2) r) : slices_IndexFunc_Lint64_int64.F (s_1, f_2, ()) = some r := Ev.run (fun k => slices_IndexFunc_Lint64_int64.run k s_1 f_2) h
theorem slices_IndexFunc_Lint64_int64.ok : CtxOK Go.Proofs.Try.prog slices_IndexFunc_Lint64_int64.ctx := ⟨List.forall_mem_nil _, mixed_ok, tab_ok tab_good, List.forall_mem_nil _, List.forall_mem_nil _⟩
theorem slices_IndexFunc_Lint64_int64.S : Sound Go.Proofs.Try.prog ⟨181, slices_IndexFunc_Lint64_int64.sig, slices_IndexFunc_Lint64_int64.F⟩ := sound_any (fn := Go.Proofs.Try.f181) (code := slices_IndexFunc_Lint64_int64.code) (g := slices_IndexFunc_Lint64_int64.cfg) (res := [.tmp 4]) Go.Proofs.Try.func181 (by kernel_rfl) (by kernel_rfl) slices_IndexFunc_Lint64_int64.ok (by kernel_rfl) (by kernel_rfl) (Nat.le_of_ble_eq_true (by kernel_rfl)) (by kernel_rfl)
/-! ### slices_ContainsFunc_Lint64_int64 -/
noncomputable def slices_ContainsFunc_Lint64_int64.sig : Sig := ⟨[.val false (.sl (.int .i64)), .fnx ⟨[(false, (.int .i64))], [(.val false, .bool, .deep)]⟩], [(.val false, .bool, .deep)]⟩
noncomputable def slices_ContainsFunc_Lint64_int64.ctx : Ctx := ⟨tabOf tabl, [⟨181, slices_IndexFunc_Lint64_int64.sig, slices_IndexFunc_Lint64_int64.F⟩], [], []⟩
noncomputable def slices_ContainsFunc_Lint64_int64.cfg : Cfg := ⟨slices_ContainsFunc_Lint64_int64.ctx, [], [], fun _ => ([], [])⟩
noncomputable def slices_ContainsFunc_Lint64_int64.code : Code := (Go.Proofs.Try.f147).body.getD .skip
noncomputable def slices_ContainsFunc_Lint64_int64.fin := finK slices_ContainsFunc_Lint64_int64.ctx slices_ContainsFunc_Lint64_int64.sig [.tmp 4]
noncomputable def slices_ContainsFunc_Lint64_int64.F (d : List Int × ((Int × Unit) → Option (Bool × Unit)) × Unit) : Option ((Bool × Unit) × (Unit)) := anyK (runFn slices_ContainsFunc_Lint64_int64.cfg slices_ContainsFunc_Lint64_int64.fin slices_ContainsFunc_Lint64_int64.code (initSt slices_ContainsFunc_Lint64_int64.sig.ps d 9))
noncomputable def slices_ContainsFunc_Lint64_int64.T (s_1 : List Int) (f_2 : (Int × Unit) → Option (Bool × Unit)) : Option ((Bool × Unit) × (Unit)) :=
  (slices_IndexFunc_Lint64_int64.F (s_1, f_2, ())).bind fun r3 =>
    some ((decide ((r3.1.1 : Int) ≥ (0 : Int)), ()), ())
theorem slices_ContainsFunc_Lint64_int64.run (k : Nat) (s_1 : List Int) (f_2 : (Int × Unit) → Option (Bool × Unit)) : runFn slices_ContainsFunc_Lint64_int64.cfg slices_ContainsFunc_Lint64_int64.fin slices_ContainsFunc_Lint64_int64.code (initSt slices_ContainsFunc_Lint64_int64.sig.ps (s_1, f_2, ()) 9) k = slices_ContainsFunc_Lint64_int64.T s_1 f_2 := by kernel_rfl
theorem slices_ContainsFunc_Lint64_int64.eq (s_1 : List Int) (f_2 : (Int × Unit) → Option (Bool × Unit)) : slices_ContainsFunc_Lint64_int64.F (s_1, f_2, ()) = slices_ContainsFunc_Lint64_int64.T s_1 f_2 := (congrArg anyK (funext fun k => slices_ContainsFunc_Lint64_int64.run k s_1 f_2)).trans (anyK_const _)
theorem slices_ContainsFunc_Lint64_int64.ok : CtxOK Go.Proofs.Try.prog slices_ContainsFunc_Lint64_int64.ctx := ⟨List.forall_mem_nil _, mixed_ok, tab_ok tab_good, List.forall_mem_cons.2 ⟨slices_IndexFunc_Lint64_int64.S, List.forall_mem_nil _⟩, List.forall_mem_nil _⟩
theorem slices_ContainsFunc_Lint64_int64.S : Sound Go.Proofs.Try.prog ⟨147, slices_ContainsFunc_Lint64_int64.sig, slices_ContainsFunc_Lint64_int64.F⟩ := sound_any (fn := Go.Proofs.Try.f147) (code := slices_ContainsFunc_Lint64_int64.code) (g := slices_ContainsFunc_Lint64_int64.cfg) (res := [.tmp 4]) Go.Proofs.Try.func147 (by kernel_rfl) (by kernel_rfl) slices_ContainsFunc_Lint64_int64.ok (by kernel_rfl) (by kernel_rfl) (Nat.le_of_ble_eq_true (by kernel_rfl)) (by kernel_rfl)
/-! ### impl_isElement -/
noncomputable def impl_isElement.sig : Sig := ⟨[.val false (.int .i64), .val false (.int .i64)], [(.val false, .bool, .deep)]⟩
noncomputable def impl_isElement.ctx : Ctx := ⟨tabOf tabl, [⟨94, impl_within.sig, impl_within.F⟩], [], []⟩
noncomputable def impl_isElement.cfg : Cfg := ⟨impl_isElement.ctx, [], [], fun _ => ([], [])⟩
noncomputable def impl_isElement.code : Code := (Go.Proofs.Try.f149).body.getD .skip
noncomputable def impl_isElement.fin := finK impl_isElement.ctx impl_isElement.sig [.tmp 4]
noncomputable def impl_isElement.F (d : Int × Int × Unit) : Option ((Bool × Unit) × (Unit)) := anyK (runFn impl_isElement.cfg impl_isElement.fin impl_isElement.code (initSt impl_isElement.sig.ps d 9))
noncomputable def impl_isElement.T (a_1 : Int) (p_2 : Int) : Option ((Bool × Unit) × (Unit)) :=
  (impl_within.F (a_1, (0 : Int), IntKind.i64.wrap (p_2 - (1 : Int)), ())).bind fun r3 =>
    some (((r3.1.1 : Bool), ()), ())
theorem impl_isElement.run (k : Nat) (a_1 : Int) (p_2 : Int) : runFn impl_isElement.cfg impl_isElement.fin impl_isElement.code (initSt impl_isElement.sig.ps (a_1, p_2, ()) 9) k = impl_isElement.T a_1 p_2 := by kernel_rfl
theorem impl_isElement.eq (a_1 : Int) (p_2 : Int) : impl_isElement.F (a_1, p_2, ()) = impl_isElement.T a_1 p_2 := (congrArg anyK (funext fun k => impl_isElement.run k a_1 p_2)).trans (anyK_const _)
theorem impl_isElement.ok : CtxOK Go.Proofs.Try.prog impl_isElement.ctx := ⟨List.forall_mem_nil _, mixed_ok, tab_ok tab_good, List.forall_mem_cons.2 ⟨impl_within.S, List.forall_mem_nil _⟩, List.forall_mem_nil _⟩
theorem impl_isElement.S : Sound Go.Proofs.Try.prog ⟨149, impl_isElement.sig, impl_isElement.F⟩ := sound_any (fn := Go.Proofs.Try.f149) (code := impl_isElement.code) (g := impl_isElement.cfg) (res := [.tmp 4]) Go.Proofs.Try.func149 (by kernel_rfl) (by kernel_rfl) impl_isElement.ok (by kernel_rfl) (by kernel_rfl) (Nat.le_of_ble_eq_true (by kernel_rfl)) (by kernel_rfl)
/-! ### impl_areElements_1 -/
noncomputable def impl_areElements_1.sig : Sig := ⟨[.val false (.int .i64), .rptr (.int .i64)], [(.val false, .bool, .deep)]⟩
noncomputable def impl_areElements_1.ctx : Ctx := ⟨tabOf tabl, [⟨149, impl_isElement.sig, impl_isElement.F⟩], [], []⟩
noncomputable def impl_areElements_1.cfg : Cfg := ⟨impl_areElements_1.ctx, [], [], fun _ => ([], [])⟩
noncomputable def impl_areElements_1.code : Code := (Go.Proofs.Try.f148).body.getD .skip
noncomputable def impl_areElements_1.fin := finK impl_areElements_1.ctx impl_areElements_1.sig [.tmp 3]
noncomputable def impl_areElements_1.F (d : Int × Int × Unit) : Option ((Bool × Unit) × (Unit)) := anyK (runFn impl_areElements_1.cfg impl_areElements_1.fin impl_areElements_1.code (initSt impl_areElements_1.sig.ps d 8))
noncomputable def impl_areElements_1.T (a_1 : Int) (a_2 : Int) : Option ((Bool × Unit) × (Unit)) :=
  (impl_isElement.F (a_1, a_2, ())).bind fun r3 =>
    some ((!(r3.1.1 : Bool), ()), ())
theorem impl_areElements_1.run (k : Nat) (a_1 : Int) (a_2 : Int) : runFn impl_areElements_1.cfg impl_areElements_1.fin impl_areElements_1.code (initSt impl_areElements_1.sig.ps (a_1, a_2, ()) 8) k = impl_areElements_1.T a_1 a_2 := by kernel_rfl
theorem impl_areElements_1.eq (a_1 : Int) (a_2 : Int) : impl_areElements_1.F (a_1, a_2, ()) = impl_areElements_1.T a_1 a_2 := (congrArg anyK (funext fun k => impl_areElements_1.run k a_1 a_2)).trans (anyK_const _)
theorem impl_areElements_1.ok : CtxOK Go.Proofs.Try.prog impl_areElements_1.ctx := ⟨List.forall_mem_nil _, mixed_ok, tab_ok tab_good, List.forall_mem_cons.2 ⟨impl_isElement.S, List.forall_mem_nil _⟩, List.forall_mem_nil _⟩
theorem impl_areElements_1.S : Sound Go.Proofs.Try.prog ⟨148, impl_areElements_1.sig, impl_areElements_1.F⟩ := sound_any (fn := Go.Proofs.Try.f148) (code := impl_areElements_1.code) (g := impl_areElements_1.cfg) (res := [.tmp 3]) Go.Proofs.Try.func148 (by kernel_rfl) (by kernel_rfl) impl_areElements_1.ok (by kernel_rfl) (by kernel_rfl) (Nat.le_of_ble_eq_true (by kernel_rfl)) (by kernel_rfl)
noncomputable def impl_areElements_1.cloG (y : Int × Unit) (d : Int × Unit) : Option (Bool × Unit) := (impl_areElements_1.F (joinIns [.rptr (.int .i64)] [(false, (.int .i64))] d y)).map (·.1)
noncomputable def impl_areElements_1.clo : Clo := ⟨148, ⟨[(false, (.int .i64))], [(.val false, .bool, .deep)]⟩, [.rptr (.int .i64)], impl_areElements_1.cloG⟩
theorem impl_areElements_1.cloS : SoundClo Go.Proofs.Try.prog impl_areElements_1.clo := sound_clo (s := ⟨[(false, (.int .i64))], [(.val false, .bool, .deep)]⟩) (caps := [.rptr (.int .i64)]) rfl impl_areElements_1.S
/-! ### impl_areElements -/
noncomputable def impl_areElements.sig : Sig := ⟨[.val false (.sl (.int .i64)), .val false (.int .i64)], [(.val false, .bool, .deep)]⟩
noncomputable def impl_areElements.ctx : Ctx := ⟨tabOf tabl, [⟨147, slices_ContainsFunc_Lint64_int64.sig, slices_ContainsFunc_Lint64_int64.F⟩], [impl_areElements_1.clo], []⟩
noncomputable def impl_areElements.cfg : Cfg := ⟨impl_areElements.ctx, [], [], fun _ => ([], [])⟩
noncomputable def impl_areElements.code : Code := (Go.Proofs.Try.f97).body.getD .skip
noncomputable def impl_areElements.fin := finK impl_areElements.ctx impl_areElements.sig [.tmp 4]
noncomputable def impl_areElements.F (d : List Int × Int × Unit) : Option ((Bool × Unit) × (Unit)) := anyK (runFn impl_areElements.cfg impl_areElements.fin impl_areElements.code (initSt impl_areElements.sig.ps d 9))
noncomputable def impl_areElements.T (list_1 : List Int) (p_2 : Int) : Option ((Bool × Unit) × (Unit)) :=
  (slices_ContainsFunc_Lint64_int64.F (list_1, impl_areElements_1.cloG (p_2, ()), ())).bind fun r3 =>
    some ((!(r3.1.1 : Bool), ()), ())
theorem impl_areElements.run (k : Nat) (list_1 : List Int) (p_2 : Int) : runFn impl_areElements.cfg impl_areElements.fin impl_areElements.code (initSt impl_areElements.sig.ps (list_1, p_2, ()) 9) k = impl_areElements.T list_1 p_2 := by kernel_rfl
theorem impl_areElements.eq (list_1 : List Int) (p_2 : Int) : impl_areElements.F (list_1, p_2, ()) = impl_areElements.T list_1 p_2 := (congrArg anyK (funext fun k => impl_areElements.run k list_1 p_2)).trans (anyK_const _)
theorem impl_areElements.ok : CtxOK Go.Proofs.Try.prog impl_areElements.ctx := ⟨List.forall_mem_nil _, mixed_ok, tab_ok tab_good, List.forall_mem_cons.2 ⟨slices_ContainsFunc_Lint64_int64.S, List.forall_mem_nil _⟩, List.forall_mem_cons.2 ⟨impl_areElements_1.cloS, List.forall_mem_nil _⟩⟩
theorem impl_areElements.S : Sound Go.Proofs.Try.prog ⟨97, impl_areElements.sig, impl_areElements.F⟩ := sound_any (fn := Go.Proofs.Try.f97) (code := impl_areElements.code) (g := impl_areElements.cfg) (res := [.tmp 4]) Go.Proofs.Try.func97 (by kernel_rfl) (by kernel_rfl) impl_areElements.ok (by kernel_rfl) (by kernel_rfl) (Nat.le_of_ble_eq_true (by kernel_rfl)) (by kernel_rfl)
/-! ### impl_isSet -/
noncomputable def impl_isSet.sig : Sig := ⟨[.val true TGraph, .val false (.sl (.int .i64))], [(.val false, .bool, .deep)]⟩
noncomputable def impl_isSet.ctx : Ctx := ⟨tabOf tabl, [⟨96, impl_isRising.sig, impl_isRising.F⟩, ⟨97, impl_areElements.sig, impl_areElements.F⟩], [], []⟩
noncomputable def impl_isSet.cfg : Cfg := ⟨impl_isSet.ctx, [], [], fun _ => ([], [])⟩
noncomputable def impl_isSet.code : Code := (Go.Proofs.Try.f52).body.getD .skip
noncomputable def impl_isSet.fin := finK impl_isSet.ctx impl_isSet.sig [.tmp 4]
noncomputable def impl_isSet.F (d : (Int × List (Int × Int × Int)) × List Int × Unit) : Option ((Bool × Unit) × (Unit)) := anyK (runFn impl_isSet.cfg impl_isSet.fin impl_isSet.code (initSt impl_isSet.sig.ps d 13))
noncomputable def impl_isSet.T (g_1 : Int) (g_2 : List (Int × Int × Int)) (set_3 : List Int) : Option ((Bool × Unit) × (Unit)) :=
  (impl_isRising.F (set_3, ())).bind fun r4 =>
    if (r4.1.1 : Bool) = true then
      (impl_areElements.F (set_3, g_1, ())).bind fun r5 =>
        some (((r5.1.1 : Bool), ()), ())
    else
      some ((false, ()), ())
theorem impl_isSet.run (k : Nat) (g_1 : Int) (g_2 : List (Int × Int × Int)) (set_3 : List Int) : runFn impl_isSet.cfg impl_isSet.fin impl_isSet.code (initSt impl_isSet.sig.ps ((g_1, g_2), set_3, ()) 13) k = impl_isSet.T g_1 g_2 set_3 := by kernel_rfl
theorem impl_isSet.eq (g_1 : Int) (g_2 : List (Int × Int × Int)) (set_3 : List Int) : impl_isSet.F ((g_1, g_2), set_3, ()) = impl_isSet.T g_1 g_2 set_3 := (congrArg anyK (funext fun k => impl_isSet.run k g_1 g_2 set_3)).trans (anyK_const _)
theorem impl_isSet.ok : CtxOK Go.Proofs.Try.prog impl_isSet.ctx := ⟨List.forall_mem_nil _, mixed_ok, tab_ok tab_good, List.forall_mem_cons.2 ⟨impl_isRising.S, List.forall_mem_cons.2 ⟨impl_areElements.S, List.forall_mem_nil _⟩⟩, List.forall_mem_nil _⟩
theorem impl_isSet.S : Sound Go.Proofs.Try.prog ⟨52, impl_isSet.sig, impl_isSet.F⟩ := sound_any (fn := Go.Proofs.Try.f52) (code := impl_isSet.code) (g := impl_isSet.cfg) (res := [.tmp 4]) Go.Proofs.Try.func52 (by kernel_rfl) (by kernel_rfl) impl_isSet.ok (by kernel_rfl) (by kernel_rfl) (Nat.le_of_ble_eq_true (by kernel_rfl)) (by kernel_rfl)
/-! ### slices_Index_Lint64_int64 -/
noncomputable def slices_Index_Lint64_int64.sig : Sig := ⟨[.val false (.sl (.int .i64)), .val false (.int .i64)], [(.val false, (.int .i64), .deep)]⟩
noncomputable def slices_Index_Lint64_int64.ctx : Ctx := ⟨tabOf tabl, [], [], []⟩
noncomputable def slices_Index_Lint64_int64.cfg : Cfg := ⟨slices_Index_Lint64_int64.ctx, [], [], fun id => match id with | 2 => ([0, 1, 7, 8], []) | _ => ([], [])⟩
noncomputable def slices_Index_Lint64_int64.code : Code := (Go.Proofs.Try.f150).body.getD .skip
noncomputable def slices_Index_Lint64_int64.fin := finK slices_Index_Lint64_int64.ctx slices_Index_Lint64_int64.sig [.tmp 4]
noncomputable def slices_Index_Lint64_int64.F (d : List Int × Int × Unit) : Option ((Int × Unit) × (Unit)) := anyK (runFn slices_Index_Lint64_int64.cfg slices_Index_Lint64_int64.fin slices_Index_Lint64_int64.code (initSt slices_Index_Lint64_int64.sig.ps d 19))
noncomputable def slices_Index_Lint64_int64.l2 (k : Nat) (x3 : List Int) (i4 : Int) (i5 : Int) (i6 : Int) : Option ((Int × Unit) × (Unit)) :=
  Go.Vm.runT slices_Index_Lint64_int64.cfg slices_Index_Lint64_int64.fin k [.inLoop (sub [1, 0, 1, 0, 0] slices_Index_Lint64_int64.code), .inBlock 0, .code (sub [1, 1] slices_Index_Lint64_int64.code)]
    ⟨[.val false [⟨(.sl (.int .i64)), .sh, x3⟩], .val false [⟨(.int .i64), .sh, i4⟩], .dead, .dead, .dead, .dead, .dead, .val false [⟨(.int .i64), .sh, i5⟩], .val false [⟨(.int .i64), .sh, i6⟩]] ++ deads 10, []⟩
theorem slices_Index_Lint64_int64.l2_eq (k : Nat) (x3 : List Int) (i4 : Int) (i5 : Int) (i6 : Int) : slices_Index_Lint64_int64.l2 (k + 1) x3 i4 i5 i6 =
  if (decide (i6 < i5)) = true then
    if 0 ≤ i6 ∧ i6 < (x3.length : Int) then
      if (i4 == (x3.getD i6.toNat 0 : Int)) = true then
        some ((i6, ()), ())
      else
        slices_Index_Lint64_int64.l2 k x3 i4 i5 (IntKind.i64.wrap (i6 + (1 : Int)))
    else
      none
  else
    some (((-1 : Int), ()), ()) := by kernel_rfl
noncomputable def slices_Index_Lint64_int64.T (k : Nat) (s_1 : List Int) (v_2 : Int) : Option ((Int × Unit) × (Unit)) :=
  slices_Index_Lint64_int64.l2 k s_1 v_2 (s_1.length : Int) (0 : Int)
theorem slices_Index_Lint64_int64.run (k : Nat) (s_1 : List Int) (v_2 : Int) : runFn slices_Index_Lint64_int64.cfg slices_Index_Lint64_int64.fin slices_Index_Lint64_int64.code (initSt slices_Index_Lint64_int64.sig.ps (s_1, v_2, ()) 19) k = slices_Index_Lint64_int64.T k s_1 v_2 := by kernel_rfl
theorem slices_Index_Lint64_int64.of (s_1 : List Int) (v_2 : Int) {r : (Int × Unit) × (Unit)} (h : Ev (fun k => slices_Index_Lint64_int64.T k s_1 v_2) r) : slices_Index_Lint64_int64.F (s_1, v_2, ()) = some r := Ev.run (fun k => slices_Index_Lint64_int64.run k s_1 v_2) h
theorem slices_Index_Lint64_int64.ok : CtxOK Go.Proofs.Try.prog slices_Index_Lint64_int64.ctx := ⟨List.forall_mem_nil _, mixed_ok, tab_ok tab_good, List.forall_mem_nil _, List.forall_mem_nil _⟩
theorem slices_Index_Lint64_int64.S : Sound Go.Proofs.Try.prog ⟨150, slices_Index_Lint64_int64.sig, slices_Index_Lint64_int64.F⟩ := sound_any (fn := Go.Proofs.Try.f150) (code := slices_Index_Lint64_int64.code) (g := slices_Index_Lint64_int64.cfg) (res := [.tmp 4]) Go.Proofs.Try.func150 (by kernel_rfl) (by kernel_rfl) slices_Index_Lint64_int64.ok (by kernel_rfl) (by kernel_rfl) (Nat.le_of_ble_eq_true (by kernel_rfl)) (by kernel_rfl)
/-! ### slices_Contains_Lint64_int64 -/
noncomputable def slices_Contains_Lint64_int64.sig : Sig := ⟨[.val false (.sl (.int .i64)), .val false (.int .i64)], [(.val false, .bool, .deep)]⟩
noncomputable def slices_Contains_Lint64_int64.ctx : Ctx := ⟨tabOf tabl, [⟨150, slices_Index_Lint64_int64.sig, slices_Index_Lint64_int64.F⟩], [], []⟩
noncomputable def slices_Contains_Lint64_int64.cfg : Cfg := ⟨slices_Contains_Lint64_int64.ctx, [], [], fun _ => ([], [])⟩
noncomputable def slices_Contains_Lint64_int64.code : Code := (Go.Proofs.Try.f98).body.getD .skip
noncomputable def slices_Contains_Lint64_int64.fin := finK slices_Contains_Lint64_int64.ctx slices_Contains_Lint64_int64.sig [.tmp 4]
noncomputable def slices_Contains_Lint64_int64.F (d : List Int × Int × Unit) : Option ((Bool × Unit) × (Unit)) := anyK (runFn slices_Contains_Lint64_int64.cfg slices_Contains_Lint64_int64.fin slices_Contains_Lint64_int64.code (initSt slices_Contains_Lint64_int64.sig.ps d 9))
noncomputable def slices_Contains_Lint64_int64.T (s_1 : List Int) (v_2 : Int) : Option ((Bool × Unit) × (Unit)) :=
  (slices_Index_Lint64_int64.F (s_1, v_2, ())).bind fun r3 =>
    some ((decide ((r3.1.1 : Int) ≥ (0 : Int)), ()), ())
theorem slices_Contains_Lint64_int64.run (k : Nat) (s_1 : List Int) (v_2 : Int) : runFn slices_Contains_Lint64_int64.cfg slices_Contains_Lint64_int64.fin slices_Contains_Lint64_int64.code (initSt slices_Contains_Lint64_int64.sig.ps (s_1, v_2, ()) 9) k = slices_Contains_Lint64_int64.T s_1 v_2 := by kernel_rfl
theorem slices_Contains_Lint64_int64.eq (s_1 : List Int) (v_2 : Int) : slices_Contains_Lint64_int64.F (s_1, v_2, ()) = slices_Contains_Lint64_int64.T s_1 v_2 := (congrArg anyK (funext fun k => slices_Contains_Lint64_int64.run k s_1 v_2)).trans (anyK_const _)
theorem slices_Contains_Lint64_int64.ok : CtxOK Go.Proofs.Try.prog slices_Contains_Lint64_int64.ctx := ⟨List.forall_mem_nil _, mixed_ok, tab_ok tab_good, List.forall_mem_cons.2 ⟨slices_Index_Lint64_int64.S, List.forall_mem_nil _⟩, List.forall_mem_nil _⟩
theorem slices_Contains_Lint64_int64.S : Sound Go.Proofs.Try.prog ⟨98, slices_Contains_Lint64_int64.sig, slices_Contains_Lint64_int64.F⟩ := sound_any (fn := Go.Proofs.Try.f98) (code := slices_Contains_Lint64_int64.code) (g := slices_Contains_Lint64_int64.cfg) (res := [.tmp 4]) Go.Proofs.Try.func98 (by kernel_rfl) (by kernel_rfl) slices_Contains_Lint64_int64.ok (by kernel_rfl) (by kernel_rfl) (Nat.le_of_ble_eq_true (by kernel_rfl)) (by kernel_rfl)
/-! ### impl_cutWeight -/
noncomputable def impl_cutWeight.sig : Sig := ⟨[.val true TGraph, .val false (.sl (.int .i64))], [(.val false, (.int .i64), .deep)]⟩
noncomputable def impl_cutWeight.ctx : Ctx := ⟨tabOf tabl, [⟨98, slices_Contains_Lint64_int64.sig, slices_Contains_Lint64_int64.F⟩], [], []⟩
noncomputable def impl_cutWeight.cfg : Cfg := ⟨impl_cutWeight.ctx, [], [], fun id => match id with | 3 => ([1, 5, 9, 10, 11], []) | _ => ([], [])⟩
noncomputable def impl_cutWeight.code : Code := (Go.Proofs.Try.f53).body.getD .skip
noncomputable def impl_cutWeight.fin := finK impl_cutWeight.ctx impl_cutWeight.sig [.tmp 4]
noncomputable def impl_cutWeight.F (d : (Int × List (Int × Int × Int)) × List Int × Unit) : Option ((Int × Unit) × (Unit)) := anyK (runFn impl_cutWeight.cfg impl_cutWeight.fin impl_cutWeight.code (initSt impl_cutWeight.sig.ps d 30))
noncomputable def impl_cutWeight.l3 (k : Nat) (x4 : List Int) (i5 : Int) (x6 : List (Int × Int × Int)) (i7 : Int) (i8 : Int) : Option ((Int × Unit) × (Unit)) :=
  Go.Vm.runT impl_cutWeight.cfg impl_cutWeight.fin k [.inLoop (sub [1, 1, 0, 1, 0, 0] impl_cutWeight.code), .inBlock 0, .code (sub [1, 1, 1] impl_cutWeight.code)]
    ⟨[.dead, .val false [⟨(.sl (.int .i64)), .sh, x4⟩], .dead, .dead, .dead, .val false [⟨(.int .i64), .sh, i5⟩], .dead, .dead, .dead, .val false [⟨(.sl TEdge), .sh, x6⟩], .val false [⟨(.int .i64), .sh, i7⟩], .val false [⟨(.int .i64), .sh, i8⟩]] ++ deads 18, []⟩
theorem impl_cutWeight.l3_eq (k : Nat) (x4 : List Int) (i5 : Int) (x6 : List (Int × Int × Int)) (i7 : Int) (i8 : Int) : impl_cutWeight.l3 (k + 1) x4 i5 x6 i7 i8 =
  if (decide (i8 < i7)) = true then
    if 0 ≤ i8 ∧ i8 < (x6.length : Int) then
      (slices_Contains_Lint64_int64.F (x4, ((x6.getD i8.toNat (0, 0, 0)).1 : Int), ())).bind fun r9 =>
        (slices_Contains_Lint64_int64.F (x4, (((x6.getD i8.toNat (0, 0, 0)).2).1 : Int), ())).bind fun r10 =>
          if (!((r9.1.1 : Bool) == (r10.1.1 : Bool))) = true then
            impl_cutWeight.l3 k x4 (IntKind.i64.wrap (i5 + (((x6.getD i8.toNat (0, 0, 0)).2).2 : Int))) x6 i7 (IntKind.i64.wrap (i8 + (1 : Int)))
          else
            impl_cutWeight.l3 k x4 i5 x6 i7 (IntKind.i64.wrap (i8 + (1 : Int)))
    else
      none
  else
    some ((i5, ()), ()) := by kernel_rfl
noncomputable def impl_cutWeight.T (k : Nat) (g_1 : Int) (g_2 : List (Int × Int × Int)) (set_3 : List Int) : Option ((Int × Unit) × (Unit)) :=
  impl_cutWeight.l3 k set_3 (0 : Int) g_2 (g_2.length : Int) (0 : Int)
theorem impl_cutWeight.run (k : Nat) (g_1 : Int) (g_2 : List (Int × Int × Int)) (set_3 : List Int) : runFn impl_cutWeight.cfg impl_cutWeight.fin impl_cutWeight.code (initSt impl_cutWeight.sig.ps ((g_1, g_2), set_3, ()) 30) k = impl_cutWeight.T k g_1 g_2 set_3 := by kernel_rfl
theorem impl_cutWeight.of (g_1 : Int) (g_2 : List (Int × Int × Int)) (set_3 : List Int) {r : (Int × Unit) × (Unit)} (h : Ev (fun k => impl_cutWeight.T k g_1 g_2 set_3) r) : impl_cutWeight.F ((g_1, g_2), set_3, ()) = some r := Ev.run (fun k => impl_cutWeight.run k g_1 g_2 set_3) h
theorem impl_cutWeight.ok : CtxOK Go.Proofs.Try.prog impl_cutWeight.ctx := ⟨List.forall_mem_nil _, mixed_ok, tab_ok tab_good, List.forall_mem_cons.2 ⟨slices_Contains_Lint64_int64.S, List.forall_mem_nil _⟩, List.forall_mem_nil _⟩
theorem impl_cutWeight.S : Sound Go.Proofs.Try.prog ⟨53, impl_cutWeight.sig, impl_cutWeight.F⟩ := sound_any (fn := Go.Proofs.Try.f53) (code := impl_cutWeight.code) (g := impl_cutWeight.cfg) (res := [.tmp 4]) Go.Proofs.Try.func53 (by kernel_rfl) (by kernel_rfl) impl_cutWeight.ok (by kernel_rfl) (by kernel_rfl) (Nat.le_of_ble_eq_true (by kernel_rfl)) (by kernel_rfl)
/-! ### impl_CutWeight -/
noncomputable def impl_CutWeight.sig : Sig := ⟨[.val true TGraph, .val false (.sl (.int .i64))], [(.val false, (.int .i64), .deep), (.val false, (.int .i64), .deep)]⟩
noncomputable def impl_CutWeight.ctx : Ctx := ⟨tabOf tabl, [⟨51, impl_ValidGraph.sig, impl_ValidGraph.F⟩, ⟨52, impl_isSet.sig, impl_isSet.F⟩, ⟨53, impl_cutWeight.sig, impl_cutWeight.F⟩], [], []⟩
noncomputable def impl_CutWeight.cfg : Cfg := ⟨impl_CutWeight.ctx, [], [], fun _ => ([], [])⟩
noncomputable def impl_CutWeight.code : Code := (Go.Proofs.Try.f16).body.getD .skip
noncomputable def impl_CutWeight.fin := finK impl_CutWeight.ctx impl_CutWeight.sig [.tmp 4, .tmp 5]
noncomputable def impl_CutWeight.F (d : (Int × List (Int × Int × Int)) × List Int × Unit) : Option ((Int × Int × Unit) × (Unit)) := anyK (runFn impl_CutWeight.cfg impl_CutWeight.fin impl_CutWeight.code (initSt impl_CutWeight.sig.ps d 16))
noncomputable def impl_CutWeight.T (g_1 : Int) (g_2 : List (Int × Int × Int)) (set_3 : List Int) : Option ((Int × Int × Unit) × (Unit)) :=
  (impl_ValidGraph.F ((g_1, g_2), ())).bind fun r4 =>
    if (!(r4.1.1 : Bool)) = true then
      some (((0 : Int), ((1 : Int), ())), ())
    else
      (impl_isSet.F ((g_1, g_2), set_3, ())).bind fun r5 =>
        if (!(r5.1.1 : Bool)) = true then
          some (((0 : Int), ((2 : Int), ())), ())
        else
          (impl_cutWeight.F ((g_1, g_2), set_3, ())).bind fun r6 =>
            some (((r6.1.1 : Int), ((0 : Int), ())), ())
theorem impl_CutWeight.run (k : Nat) (g_1 : Int) (g_2 : List (Int × Int × Int)) (set_3 : List Int) : runFn impl_CutWeight.cfg impl_CutWeight.fin impl_CutWeight.code (initSt impl_CutWeight.sig.ps ((g_1, g_2), set_3, ()) 16) k = impl_CutWeight.T g_1 g_2 set_3 := by kernel_rfl
theorem impl_CutWeight.eq (g_1 : Int) (g_2 : List (Int × Int × Int)) (set_3 : List Int) : impl_CutWeight.F ((g_1, g_2), set_3, ()) = impl_CutWeight.T g_1 g_2 set_3 := (congrArg anyK (funext fun k => impl_CutWeight.run k g_1 g_2 set_3)).trans (anyK_const _)
theorem impl_CutWeight.ok : CtxOK Go.Proofs.Try.prog impl_CutWeight.ctx := ⟨List.forall_mem_nil _, mixed_ok, tab_ok tab_good, List.forall_mem_cons.2 ⟨impl_ValidGraph.S, List.forall_mem_cons.2 ⟨impl_isSet.S, List.forall_mem_cons.2 ⟨impl_cutWeight.S, List.forall_mem_nil _⟩⟩⟩, List.forall_mem_nil _⟩
theorem impl_CutWeight.S : Sound Go.Proofs.Try.prog ⟨16, impl_CutWeight.sig, impl_CutWeight.F⟩ := sound_any (fn := Go.Proofs.Try.f16) (code := impl_CutWeight.code) (g := impl_CutWeight.cfg) (res := [.tmp 4, .tmp 5]) Go.Proofs.Try.func16 (by kernel_rfl) (by kernel_rfl) impl_CutWeight.ok (by kernel_rfl) (by kernel_rfl) (Nat.le_of_ble_eq_true (by kernel_rfl)) (by kernel_rfl)
/-! ### laws_eqEdge -/
noncomputable def laws_eqEdge.sig : Sig := ⟨[.val true TEdge, .val true TEdge], [(.val false, .bool, .deep)]⟩
noncomputable def laws_eqEdge.ctx : Ctx := ⟨tabOf tabl, [], [], []⟩
noncomputable def laws_eqEdge.cfg : Cfg := ⟨laws_eqEdge.ctx, [], [], fun _ => ([], [])⟩
noncomputable def laws_eqEdge.code : Code := (Go.Proofs.Try.f99).body.getD .skip
noncomputable def laws_eqEdge.fin := finK laws_eqEdge.ctx laws_eqEdge.sig [.tmp 4]
noncomputable def laws_eqEdge.F (d : (Int × Int × Int) × (Int × Int × Int) × Unit) : Option ((Bool × Unit) × (Unit)) := anyK (runFn laws_eqEdge.cfg laws_eqEdge.fin laws_eqEdge.code (initSt laws_eqEdge.sig.ps d 20))
noncomputable def laws_eqEdge.T (a_1 : Int) (a_2 : Int) (a_3 : Int) (b_4 : Int) (b_5 : Int) (b_6 : Int) : Option ((Bool × Unit) × (Unit)) :=
  if (a_1 != b_4) = true then
    some ((false, ()), ())
  else
    if (a_2 != b_5) = true then
      some ((false, ()), ())
    else
      if (a_3 != b_6) = true then
        some ((false, ()), ())
      else
        some ((true, ()), ())
theorem laws_eqEdge.run (k : Nat) (a_1 : Int) (a_2 : Int) (a_3 : Int) (b_4 : Int) (b_5 : Int) (b_6 : Int) : runFn laws_eqEdge.cfg laws_eqEdge.fin laws_eqEdge.code (initSt laws_eqEdge.sig.ps ((a_1, (a_2, a_3)), (b_4, (b_5, b_6)), ()) 20) k = laws_eqEdge.T a_1 a_2 a_3 b_4 b_5 b_6 := by kernel_rfl
theorem laws_eqEdge.eq (a_1 : Int) (a_2 : Int) (a_3 : Int) (b_4 : Int) (b_5 : Int) (b_6 : Int) : laws_eqEdge.F ((a_1, (a_2, a_3)), (b_4, (b_5, b_6)), ()) = laws_eqEdge.T a_1 a_2 a_3 b_4 b_5 b_6 := (congrArg anyK (funext fun k => laws_eqEdge.run k a_1 a_2 a_3 b_4 b_5 b_6)).trans (anyK_const _)
theorem laws_eqEdge.ok : CtxOK Go.Proofs.Try.prog laws_eqEdge.ctx := ⟨List.forall_mem_nil _, mixed_ok, tab_ok tab_good, List.forall_mem_nil _, List.forall_mem_nil _⟩
theorem laws_eqEdge.S : Sound Go.Proofs.Try.prog ⟨99, laws_eqEdge.sig, laws_eqEdge.F⟩ := sound_any (fn := Go.Proofs.Try.f99) (code := laws_eqEdge.code) (g := laws_eqEdge.cfg) (res := [.tmp 4]) Go.Proofs.Try.func99 (by kernel_rfl) (by kernel_rfl) laws_eqEdge.ok (by kernel_rfl) (by kernel_rfl) (Nat.le_of_ble_eq_true (by kernel_rfl)) (by kernel_rfl)
/-! ### laws_eqEdgeS -/
noncomputable def laws_eqEdgeS.sig : Sig := ⟨[.val false (.sl TEdge), .val false (.sl TEdge)], [(.val false, .bool, .deep)]⟩
noncomputable def laws_eqEdgeS.ctx : Ctx := ⟨tabOf tabl, [⟨99, laws_eqEdge.sig, laws_eqEdge.F⟩], [], []⟩
noncomputable def laws_eqEdgeS.cfg : Cfg := ⟨laws_eqEdgeS.ctx, [], [], fun id => match id with | 4 => ([0, 1, 5], []) | _ => ([], [])⟩
noncomputable def laws_eqEdgeS.code : Code := (Go.Proofs.Try.f54).body.getD .skip
noncomputable def laws_eqEdgeS.fin := finK laws_eqEdgeS.ctx laws_eqEdgeS.sig [.tmp 4]
noncomputable def laws_eqEdgeS.F (d : List (Int × Int × Int) × List (Int × Int × Int) × Unit) : Option ((Bool × Unit) × (Unit)) := anyK (runFn laws_eqEdgeS.cfg laws_eqEdgeS.fin laws_eqEdgeS.code (initSt laws_eqEdgeS.sig.ps d 27))
noncomputable def laws_eqEdgeS.l4 (k : Nat) (x3 : List (Int × Int × Int)) (x4 : List (Int × Int × Int)) (i5 : Int) : Option ((Bool × Unit) × (Unit)) :=
  Go.Vm.runT laws_eqEdgeS.cfg laws_eqEdgeS.fin k [.inLoop (sub [1, 1, 0, 1, 0, 0] laws_eqEdgeS.code), .inBlock 0, .code (sub [1, 1, 1] laws_eqEdgeS.code)]
    ⟨[.val false [⟨(.sl TEdge), .sh, x3⟩], .val false [⟨(.sl TEdge), .sh, x4⟩], .dead, .dead, .dead, .val false [⟨(.int .i64), .sh, i5⟩]] ++ deads 21, []⟩
theorem laws_eqEdgeS.l4_eq (k : Nat) (x3 : List (Int × Int × Int)) (x4 : List (Int × Int × Int)) (i5 : Int) : laws_eqEdgeS.l4 (k + 1) x3 x4 i5 =
  if (decide (i5 < (x3.length : Int))) = true then
    if 0 ≤ i5 ∧ i5 < (x3.length : Int) then
      if 0 ≤ i5 ∧ i5 < (x4.length : Int) then
        (laws_eqEdge.F (x3.getD i5.toNat (0, 0, 0), x4.getD i5.toNat (0, 0, 0), ())).bind fun r6 =>
          if (!(r6.1.1 : Bool)) = true then
            some ((false, ()), ())
          else
            laws_eqEdgeS.l4 k x3 x4 (IntKind.i64.wrap (i5 + (1 : Int)))
      else
        none
    else
      none
  else
    some ((true, ()), ()) := by kernel_rfl
noncomputable def laws_eqEdgeS.T (k : Nat) (a_1 : List (Int × Int × Int)) (b_2 : List (Int × Int × Int)) : Option ((Bool × Unit) × (Unit)) :=
  if ((a_1.length : Int) != (b_2.length : Int)) = true then
    some ((false, ()), ())
  else
    laws_eqEdgeS.l4 k a_1 b_2 (0 : Int)
theorem laws_eqEdgeS.run (k : Nat) (a_1 : List (Int × Int × Int)) (b_2 : List (Int × Int × Int)) : runFn laws_eqEdgeS.cfg laws_eqEdgeS.fin laws_eqEdgeS.code (initSt laws_eqEdgeS.sig.ps (a_1, b_2, ()) 27) k = laws_eqEdgeS.T k a_1 b_2 := by kernel_rfl
theorem laws_eqEdgeS.of (a_1 : List (Int × Int × Int)) (b_2 : List (Int × Int × Int)) {r : (Bool × Unit) × (Unit)} (h : Ev (fun k => laws_eqEdgeS.T k a_1 b_2) r) : laws_eqEdgeS.F (a_1, b_2, ()) = some r := Ev.run (fun k => laws_eqEdgeS.run k a_1 b_2) h
theorem laws_eqEdgeS.ok : CtxOK Go.Proofs.Try.prog laws_eqEdgeS.ctx := ⟨List.forall_mem_nil _, mixed_ok, tab_ok tab_good, List.forall_mem_cons.2 ⟨laws_eqEdge.S, List.forall_mem_nil _⟩, List.forall_mem_nil _⟩
theorem laws_eqEdgeS.S : Sound Go.Proofs.Try.prog ⟨54, laws_eqEdgeS.sig, laws_eqEdgeS.F⟩ := sound_any (fn := Go.Proofs.Try.f54) (code := laws_eqEdgeS.code) (g := laws_eqEdgeS.cfg) (res := [.tmp 4]) Go.Proofs.Try.func54 (by kernel_rfl) (by kernel_rfl) laws_eqEdgeS.ok (by kernel_rfl) (by kernel_rfl) (Nat.le_of_ble_eq_true (by kernel_rfl)) (by kernel_rfl)
/-! ### laws_eqGraph -/
noncomputable def laws_eqGraph.sig : Sig := ⟨[.val true TGraph, .val true TGraph], [(.val false, .bool, .deep)]⟩
noncomputable def laws_eqGraph.ctx : Ctx := ⟨tabOf tabl, [⟨54, laws_eqEdgeS.sig, laws_eqEdgeS.F⟩], [], []⟩
noncomputable def laws_eqGraph.cfg : Cfg := ⟨laws_eqGraph.ctx, [], [], fun _ => ([], [])⟩
noncomputable def laws_eqGraph.code : Code := (Go.Proofs.Try.f17).body.getD .skip
noncomputable def laws_eqGraph.fin := finK laws_eqGraph.ctx laws_eqGraph.sig [.tmp 4]
noncomputable def laws_eqGraph.F (d : (Int × List (Int × Int × Int)) × (Int × List (Int × Int × Int)) × Unit) : Option ((Bool × Unit) × (Unit)) := anyK (runFn laws_eqGraph.cfg laws_eqGraph.fin laws_eqGraph.code (initSt laws_eqGraph.sig.ps d 16))
noncomputable def laws_eqGraph.T (a_1 : Int) (a_2 : List (Int × Int × Int)) (b_3 : Int) (b_4 : List (Int × Int × Int)) : Option ((Bool × Unit) × (Unit)) :=
  if (a_1 != b_3) = true then
    some ((false, ()), ())
  else
    (laws_eqEdgeS.F (a_2, b_4, ())).bind fun r5 =>
      if (!(r5.1.1 : Bool)) = true then
        some ((false, ()), ())
      else
        some ((true, ()), ())
theorem laws_eqGraph.run (k : Nat) (a_1 : Int) (a_2 : List (Int × Int × Int)) (b_3 : Int) (b_4 : List (Int × Int × Int)) : runFn laws_eqGraph.cfg laws_eqGraph.fin laws_eqGraph.code (initSt laws_eqGraph.sig.ps ((a_1, a_2), (b_3, b_4), ()) 16) k = laws_eqGraph.T a_1 a_2 b_3 b_4 := by kernel_rfl
theorem laws_eqGraph.eq (a_1 : Int) (a_2 : List (Int × Int × Int)) (b_3 : Int) (b_4 : List (Int × Int × Int)) : laws_eqGraph.F ((a_1, a_2), (b_3, b_4), ()) = laws_eqGraph.T a_1 a_2 b_3 b_4 := (congrArg anyK (funext fun k => laws_eqGraph.run k a_1 a_2 b_3 b_4)).trans (anyK_const _)
theorem laws_eqGraph.ok : CtxOK Go.Proofs.Try.prog laws_eqGraph.ctx := ⟨List.forall_mem_nil _, mixed_ok, tab_ok tab_good, List.forall_mem_cons.2 ⟨laws_eqEdgeS.S, List.forall_mem_nil _⟩, List.forall_mem_nil _⟩
theorem laws_eqGraph.S : Sound Go.Proofs.Try.prog ⟨17, laws_eqGraph.sig, laws_eqGraph.F⟩ := sound_any (fn := Go.Proofs.Try.f17) (code := laws_eqGraph.code) (g := laws_eqGraph.cfg) (res := [.tmp 4]) Go.Proofs.Try.func17 (by kernel_rfl) (by kernel_rfl) laws_eqGraph.ok (by kernel_rfl) (by kernel_rfl) (Nat.le_of_ble_eq_true (by kernel_rfl)) (by kernel_rfl)
/-! ### laws_eqInt64S -/
noncomputable def laws_eqInt64S.sig : Sig := ⟨[.val false (.sl (.int .i64)), .val false (.sl (.int .i64))], [(.val false, .bool, .deep)]⟩
noncomputable def laws_eqInt64S.ctx : Ctx := ⟨tabOf tabl, [], [], []⟩
noncomputable def laws_eqInt64S.cfg : Cfg := ⟨laws_eqInt64S.ctx, [], [], fun id => match id with | 4 => ([0, 1, 5], []) | _ => ([], [])⟩
noncomputable def laws_eqInt64S.code : Code := (Go.Proofs.Try.f18).body.getD .skip
noncomputable def laws_eqInt64S.fin := finK laws_eqInt64S.ctx laws_eqInt64S.sig [.tmp 4]
noncomputable def laws_eqInt64S.F (d : List Int × List Int × Unit) : Option ((Bool × Unit) × (Unit)) := anyK (runFn laws_eqInt64S.cfg laws_eqInt64S.fin laws_eqInt64S.code (initSt laws_eqInt64S.sig.ps d 26))
noncomputable def laws_eqInt64S.l4 (k : Nat) (x3 : List Int) (x4 : List Int) (i5 : Int) : Option ((Bool × Unit) × (Unit)) :=
  Go.Vm.runT laws_eqInt64S.cfg laws_eqInt64S.fin k [.inLoop (sub [1, 1, 0, 1, 0, 0] laws_eqInt64S.code), .inBlock 0, .code (sub [1, 1, 1] laws_eqInt64S.code)]
    ⟨[.val false [⟨(.sl (.int .i64)), .sh, x3⟩], .val false [⟨(.sl (.int .i64)), .sh, x4⟩], .dead, .dead, .dead, .val false [⟨(.int .i64), .sh, i5⟩]] ++ deads 20, []⟩
theorem laws_eqInt64S.l4_eq (k : Nat) (x3 : List Int) (x4 : List Int) (i5 : Int) : laws_eqInt64S.l4 (k + 1) x3 x4 i5 =
  if (decide (i5 < (x3.length : Int))) = true then
    if 0 ≤ i5 ∧ i5 < (x3.length : Int) then
      if 0 ≤ i5 ∧ i5 < (x4.length : Int) then
        if ((x3.getD i5.toNat 0 : Int) != (x4.getD i5.toNat 0 : Int)) = true then
          some ((false, ()), ())
        else
          laws_eqInt64S.l4 k x3 x4 (IntKind.i64.wrap (i5 + (1 : Int)))
      else
        none
    else
      none
  else
    some ((true, ()), ()) := by kernel_rfl
noncomputable def laws_eqInt64S.T (k : Nat) (a_1 : List Int) (b_2 : List Int) : Option ((Bool × Unit) × (Unit)) :=
  if ((a_1.length : Int) != (b_2.length : Int)) = true then
    some ((false, ()), ())
  else
    laws_eqInt64S.l4 k a_1 b_2 (0 : Int)
theorem laws_eqInt64S.run (k : Nat) (a_1 : List Int) (b_2 : List Int) : runFn laws_eqInt64S.cfg laws_eqInt64S.fin laws_eqInt64S.code (initSt laws_eqInt64S.sig.ps (a_1, b_2, ()) 26) k = laws_eqInt64S.T k a_1 b_2 := by kernel_rfl
theorem laws_eqInt64S.of (a_1 : List Int) (b_2 : List Int) {r : (Bool × Unit) × (Unit)} (h : Ev (fun k => laws_eqInt64S.T k a_1 b_2) r) : laws_eqInt64S.F (a_1, b_2, ()) = some r := Ev.run (fun k => laws_eqInt64S.run k a_1 b_2) h
theorem laws_eqInt64S.ok : CtxOK Go.Proofs.Try.prog laws_eqInt64S.ctx := ⟨List.forall_mem_nil _, mixed_ok, tab_ok tab_good, List.forall_mem_nil _, List.forall_mem_nil _⟩
theorem laws_eqInt64S.S : Sound Go.Proofs.Try.prog ⟨18, laws_eqInt64S.sig, laws_eqInt64S.F⟩ := sound_any (fn := Go.Proofs.Try.f18) (code := laws_eqInt64S.code) (g := laws_eqInt64S.cfg) (res := [.tmp 4]) Go.Proofs.Try.func18 (by kernel_rfl) (by kernel_rfl) laws_eqInt64S.ok (by kernel_rfl) (by kernel_rfl) (Nat.le_of_ble_eq_true (by kernel_rfl)) (by kernel_rfl)
/-! ### laws_FnExactCutWeight -/
noncomputable def laws_FnExactCutWeight.sig : Sig := ⟨[.val true TGraph, .val false (.sl (.int .i64))], [(.val false, .bool, .deep)]⟩
noncomputable def laws_FnExactCutWeight.ctx : Ctx := ⟨tabOf tabl, [⟨12, laws_szGraph.sig, laws_szGraph.F⟩, ⟨13, spec_CutWeight.sig, spec_CutWeight.F⟩, ⟨14, laws_toGraph.sig, laws_toGraph.F⟩, ⟨15, laws_toInt64S.sig, laws_toInt64S.F⟩, ⟨16, impl_CutWeight.sig, impl_CutWeight.F⟩, ⟨17, laws_eqGraph.sig, laws_eqGraph.F⟩, ⟨18, laws_eqInt64S.sig, laws_eqInt64S.F⟩], [], []⟩
noncomputable def laws_FnExactCutWeight.cfg : Cfg := ⟨laws_FnExactCutWeight.ctx, [], [], fun _ => ([], [])⟩
noncomputable def laws_FnExactCutWeight.code : Code := (Go.Proofs.Try.f3).body.getD .skip
noncomputable def laws_FnExactCutWeight.fin := finK laws_FnExactCutWeight.ctx laws_FnExactCutWeight.sig [.tmp 4]
noncomputable def laws_FnExactCutWeight.F (d : (Int × List (Int × Int × Int)) × List Int × Unit) : Option ((Bool × Unit) × (Unit)) := anyK (runFn laws_FnExactCutWeight.cfg laws_FnExactCutWeight.fin laws_FnExactCutWeight.code (initSt laws_FnExactCutWeight.sig.ps d 56))
noncomputable def laws_FnExactCutWeight.T (aG_1 : Int) (aG_2 : List (Int × Int × Int)) (aSet_3 : List Int) : Option ((Bool × Unit) × (Unit)) :=
  if (decide ((aSet_3.length : Int) > (1048576 : Int))) = true then
    some ((true, ()), ())
  else
    (laws_szGraph.F ((aG_1, aG_2), (1048576 : Int), ())).bind fun r4 =>
      if (decide ((r4.1.1 : Int) < (0 : Int))) = true then
        some ((true, ()), ())
      else
        (laws_toGraph.F ((aG_1, aG_2), ())).bind fun r5 =>
          (laws_toInt64S.F (aSet_3, ())).bind fun r6 =>
            (spec_CutWeight.F (r5.1.1, r6.1.1, ())).bind fun r7 =>
              (laws_toGraph.F ((aG_1, aG_2), ())).bind fun r8 =>
                (laws_toInt64S.F (aSet_3, ())).bind fun r9 =>
                  (impl_CutWeight.F (r8.1.1, r9.1.1, ())).bind fun r10 =>
                    if ((r10.1.1 : Int) != (r7.1.1 : Int)) = true then
                      some ((false, ()), ())
                    else
                      if ((r10.1.2.1 : Int) != (r7.1.2.1 : Int)) = true then
                        some ((false, ()), ())
                      else
                        (laws_toGraph.F ((aG_1, aG_2), ())).bind fun r11 =>
                          (laws_eqGraph.F (r8.1.1, r11.1.1, ())).bind fun r12 =>
                            if (!(r12.1.1 : Bool)) = true then
                              some ((false, ()), ())
                            else
                              (laws_toInt64S.F (aSet_3, ())).bind fun r13 =>
                                (laws_eqInt64S.F (r9.1.1, r13.1.1, ())).bind fun r14 =>
                                  if (!(r14.1.1 : Bool)) = true then
                                    some ((false, ()), ())
                                  else
                                    some ((true, ()), ())
theorem laws_FnExactCutWeight.run (k : Nat) (aG_1 : Int) (aG_2 : List (Int × Int × Int)) (aSet_3 : List Int) : runFn laws_FnExactCutWeight.cfg laws_FnExactCutWeight.fin laws_FnExactCutWeight.code (initSt laws_FnExactCutWeight.sig.ps ((aG_1, aG_2), aSet_3, ()) 56) k = laws_FnExactCutWeight.T aG_1 aG_2 aSet_3 := by kernel_rfl
theorem laws_FnExactCutWeight.eq (aG_1 : Int) (aG_2 : List (Int × Int × Int)) (aSet_3 : List Int) : laws_FnExactCutWeight.F ((aG_1, aG_2), aSet_3, ()) = laws_FnExactCutWeight.T aG_1 aG_2 aSet_3 := (congrArg anyK (funext fun k => laws_FnExactCutWeight.run k aG_1 aG_2 aSet_3)).trans (anyK_const _)
theorem laws_FnExactCutWeight.ok : CtxOK Go.Proofs.Try.prog laws_FnExactCutWeight.ctx := ⟨List.forall_mem_nil _, mixed_ok, tab_ok tab_good, List.forall_mem_cons.2 ⟨laws_szGraph.S, List.forall_mem_cons.2 ⟨spec_CutWeight.S, List.forall_mem_cons.2 ⟨laws_toGraph.S, List.forall_mem_cons.2 ⟨laws_toInt64S.S, List.forall_mem_cons.2 ⟨impl_CutWeight.S, List.forall_mem_cons.2 ⟨laws_eqGraph.S, List.forall_mem_cons.2 ⟨laws_eqInt64S.S, List.forall_mem_nil _⟩⟩⟩⟩⟩⟩⟩, List.forall_mem_nil _⟩
theorem laws_FnExactCutWeight.S : Sound Go.Proofs.Try.prog ⟨3, laws_FnExactCutWeight.sig, laws_FnExactCutWeight.F⟩ := sound_any (fn := Go.Proofs.Try.f3) (code := laws_FnExactCutWeight.code) (g := laws_FnExactCutWeight.cfg) (res := [.tmp 4]) Go.Proofs.Try.func3 (by kernel_rfl) (by kernel_rfl) laws_FnExactCutWeight.ok (by kernel_rfl) (by kernel_rfl) (Nat.le_of_ble_eq_true (by kernel_rfl)) (by kernel_rfl)
end Go.Proofs.Ytpibalgbkhpcbaa
