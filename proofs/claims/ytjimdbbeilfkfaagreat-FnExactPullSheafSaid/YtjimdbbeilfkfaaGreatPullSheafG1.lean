/- The functions, as the machine runs them. -/
import Derived.Test.YtjimdbbeilfkfaaGreatVm3
import Derived.Test.YtjimdbbeilfkfaaGreatProg
import Derived.KernelRfl
import Derived.WalkKit
import Derived.Lib.Walk
import Derived.Lib.AppendZeros
import Derived.Sort.WalkA
import Derived.Sort.WalkB2
import Derived.Sort.WalkB12
import Derived.Deep.LoopGhost
import Derived.Shelf.RegionOpenPlain
import Derived.Lib.SliceRun
namespace Go.Proofs.YtjimdbbeilfkfaaGreat
open Go Go.Vm
set_option linter.unusedVariables false
set_option linter.unusedSimpArgs false
open Go.Proofs.Tryz
abbrev TMatrix_2 : Ty := .pair (.int .i64) (.sl (.int .i64))
abbrev TMatrix_1 : Ty := .pair (.int .i64) TMatrix_2
abbrev TMatrix : Ty := .pair (.int .i64) TMatrix_1
abbrev TEdge_1 : Ty := .pair (.int .i64) (.int .i64)
abbrev TEdge : Ty := .pair (.int .i64) TEdge_1
abbrev TSheaf_2 : Ty := .pair (.sl (.int .i64)) (.sl TMatrix)
abbrev TSheaf_1 : Ty := .pair (.int .i64) TSheaf_2
abbrev TSheaf : Ty := .pair (.sl (.sl (.int .i64))) TSheaf_1
def tabl : List (Nat × TInfo) := [
  (2, ⟨false, (.int .i64), 0, []⟩),
  (3, ⟨false, (.int .i64), 0, []⟩),
  (4, ⟨false, .bool, 0, []⟩),
  (22, ⟨false, (.sl (.sl (.int .i64))), 25, []⟩),
  (24, ⟨true, (.sl (.sl (.int .i64))), 0, [(0, 1, false)]⟩),
  (25, ⟨false, (.sl (.int .i64)), 2, []⟩),
  (26, ⟨false, (.sl TMatrix), 90, []⟩),
  (32, ⟨true, (.sl (.sl (.int .i64))), 0, [(0, 1, false)]⟩),
  (33, ⟨false, (.sl TMatrix), 87, []⟩),
  (42, ⟨true, TSheaf, 0, [(0, 1, true), (1, 1, false), (2, 1, false), (3, 1, false)]⟩),
  (46, ⟨true, TSheaf, 0, [(0, 1, true), (1, 1, false), (2, 1, false), (3, 1, false)]⟩),
  (87, ⟨true, TMatrix, 0, [(0, 1, false), (1, 1, false), (2, 1, false), (3, 1, false)]⟩),
  (90, ⟨true, TMatrix, 0, [(0, 1, false), (1, 1, false), (2, 1, false), (3, 1, false)]⟩),
  (138, ⟨true, TEdge, 0, [(0, 1, false), (1, 1, false), (2, 1, false)]⟩),
  (197, ⟨false, (.sl TEdge), 138, []⟩),
  (235, ⟨false, (.int .u64), 0, []⟩),
  (242, ⟨false, (.sl (.int .i64)), 3, []⟩)]
theorem tab_good : tabB Go.Proofs.Tryz.prog tabl = true := by kernel_rfl
theorem tab_open : openB Go.Proofs.Tryz.prog tabl = true := by kernel_rfl
theorem mixed_ok : Go.Proofs.Tryz.prog.follows .mixedOrders = true := by kernel_rfl
set_option maxHeartbeats 2000000 in
set_option maxRecDepth 100000 in
theorem slices_Grow_Lint64_int64.grow0 (w : World) : Calls Go.Proofs.Tryz.prog 293 #[.slice none 0 0, .int .i64 ((0 : Nat) : Int)] w fun e w' => e = .returned (.slice none 0 0) ∧ w' = w := by
  have h2 : Go.RowKit.wrap64 (((0 : Nat) : Int) - ((0 : Nat) : Int)) = 0 := by unfold Go.RowKit.wrap64; omega
  go_enter Go.Proofs.Tryz.func293, Go.Proofs.Tryz.ntmps293
  go_wp2
  go_ret
  exact ⟨rfl, rfl⟩
set_option maxHeartbeats 4000000 in
set_option maxRecDepth 100000 in
theorem slices_Grow_Lint64_int64.grow1 (w : World) (n : Nat) (h0 : 0 < n) (hn : n ≤ 1099511627776) (i : TypeInfo) (z : Value) (hi : Go.Proofs.Tryz.prog.info? 2 = some i) (hz : i.zero = some z) (hs : 0 < i.size) (hb : i.bytes ≤ 256) :
    Calls Go.Proofs.Tryz.prog 293 #[.slice none 0 0, .int .i64 (n : Int)] w fun e w' => ∃ G, n ≤ G ∧ G ≤ 9223372036854775807 ∧ e = .returned (.slice (some ⟨w.heap.size, 0, none⟩) 0 G) ∧ w' = w.drew.alloc (.cells (Builtin.zeroCells z.cells n ++ Builtin.zeroCells z.cells (G - n)) 2) := by
  have h1 : ¬ ((n : Int) < 0) := by omega
  have h2 : Go.RowKit.wrap64 (((0 : Nat) : Int) - ((0 : Nat) : Int)) = 0 := by unfold Go.RowKit.wrap64; omega
  have h3 : Go.RowKit.wrap64 ((n : Int) - 0) = (n : Int) := by unfold Go.RowKit.wrap64; omega
  have h4 : (n : Int) > 0 := by omega
  have hm : n * i.bytes ≤ 1099511627776 * 256 := Nat.mul_le_mul hn hb
  have hrz : ∀ ty, (Builtin.append_ #[25, 3] ty #[.slice none 0 0, .int .i64 (n : Int)]).run Go.Proofs.Tryz.prog w =
      .ok (.slice (some ⟨w.heap.size, 0, none⟩) n (grownCap w n 0 2)) (w.drew.alloc (.cells (Builtin.zeroCells z.cells n ++ Builtin.zeroCells z.cells (grownCap w n 0 2 - n)) 2)) := fun ty =>
    Lib.run_append_nil_zeros (P := Go.Proofs.Tryz.prog) w 25 3 ty 2 i z .i64 .i64 (by kernel_rfl) (by kernel_rfl) hi hz n h0 hs (by omega) (by omega)
  have hGn : n ≤ grownCap w n 0 2 := grownCap_ge w _ _ _
  obtain ⟨G, hG⟩ : ∃ G, G = grownCap w n 0 2 := ⟨_, rfl⟩
  have hG63 : G ≤ 9223372036854775807 := by
    have := grownCap_le_maxLen w n 0 2 (by unfold maxLen; omega)
    rw [← hG] at this
    unfold maxLen at this
    omega
  rw [← hG] at hrz hGn
  clear hG
  refine Calls.mono (R := fun e w' => e = .returned (.slice (some ⟨w.heap.size, 0, none⟩) 0 G) ∧ w' = w.drew.alloc (.cells (Builtin.zeroCells z.cells n ++ Builtin.zeroCells z.cells (G - n)) 2)) ?_ fun e w' h => ⟨G, hGn, hG63, h.1, h.2⟩
  clear hi hz hs hb hm
  go_enter Go.Proofs.Tryz.func293, Go.Proofs.Tryz.ntmps293
  go_wp2_with (at_builtin; refine Lib.wpList_append_run _ rfl _ _ _ _ rfl _ _ rfl rfl _ _ (hrz _) ?_)
  all_goals (go_ret; exact ⟨rfl, rfl⟩)
theorem slices_Grow_Lint64_int64.growOK : GrowOK Go.Proofs.Tryz.prog (293, (.int .i64)) := by
  have hT : tabOf tabl 2 = some ⟨false, (.int .i64), 0, []⟩ := by kernel_rfl
  obtain ⟨inf, h1, h2, h3, h4, h5⟩ := (tab_ok tab_good).info 2 _ hT
  exact growOK_of ⟨Go.Proofs.Tryz.f293, Go.Proofs.Tryz.func293, by kernel_rfl, by kernel_rfl⟩ (zero_size (tab_ok tab_good) hT) slices_Grow_Lint64_int64.grow0 fun w n a b => slices_Grow_Lint64_int64.grow1 w n a b inf _ h1 h5 (by rw [h2]; exact sz_pos _) h4
namespace laws_eqInt64S
noncomputable def sig : Sig := ⟨[.val false (.sl (.int .i64)), .val false (.sl (.int .i64))], [(.val false, .bool, .deep)]⟩
noncomputable def ctx : Ctx := ⟨tabOf tabl, [], [], [], [], []⟩
noncomputable def cfg : Cfg := ⟨ctx, [], [], fun id => match id with | 4 => ([0, 1, 5], []) | _ => ([], []), fun _ => []⟩
noncomputable def code : Code := (f19).body.getD .skip
noncomputable def fin := finK ctx sig [.tmp 4]
noncomputable def F (d : List Int × List Int × Unit) : Option ((Bool × Unit) × (Unit)) := anyK (runFn cfg fin code (initSt sig.ps d 26))
noncomputable def l4 (k : Nat) (x3 : List Int) (x4 : List Int) (i5 : Int) : Option ((Bool × Unit) × (Unit)) :=
  Go.Vm.runT cfg fin k [.inLoop (sub [1, 1, 0, 1, 0, 0] code), .inBlock 0, .code (sub [1, 1, 1] code)]
    ⟨[.val false [⟨(.sl (.int .i64)), .sh, x3⟩], .val false [⟨(.sl (.int .i64)), .sh, x4⟩], .dead, .dead, .dead, .val false [⟨(.int .i64), .sh, i5⟩]] ++ deads 20, []⟩
theorem l4_eq (k : Nat) (x3 : List Int) (x4 : List Int) (i5 : Int) : l4 (k + 1) x3 x4 i5 =
  if (decide (i5 < (x3.length : Int))) = true then
    if 0 ≤ i5 ∧ i5 < (x3.length : Int) then
      if 0 ≤ i5 ∧ i5 < (x4.length : Int) then
        if ((x3.getD i5.toNat 0 : Int) != (x4.getD i5.toNat 0 : Int)) = true then
          some ((false, ()), ())
        else
          l4 k x3 x4 (IntKind.i64.wrap (i5 + (1 : Int)))
      else
        none
    else
      none
  else
    some ((true, ()), ()) := by kernel_rfl
noncomputable def T (k : Nat) (a_1 : List Int) (b_2 : List Int) : Option ((Bool × Unit) × (Unit)) :=
  if ((a_1.length : Int) != (b_2.length : Int)) = true then
    some ((false, ()), ())
  else
    l4 k a_1 b_2 (0 : Int)
theorem of (a_1 : List Int) (b_2 : List Int) {r : (Bool × Unit) × (Unit)} (h : Ev (fun k => T k a_1 b_2) r) : F (a_1, b_2, ()) = some r := Ev.run (fun k => by kernel_rfl) h
theorem ok : CtxOK prog ctx := ⟨nilM, mixed_ok, tab_ok tab_good, nilM, nilM, nilM⟩
theorem S : Sound prog ⟨19, sig, F⟩ := sound_k (res := [.tmp 4]) func19 ok
end laws_eqInt64S
namespace laws_markInt64S
noncomputable def sig : Sig := ⟨[.wr false (.sl (.int .i64)) .deep, .val false (.int .i64)], [(.val false, (.int .i64), .deep)]⟩
noncomputable def ctx : Ctx := ⟨tabOf tabl, [], [], [], [], []⟩
noncomputable def cfg : Cfg := ⟨ctx, [0], [], fun id => match id with | 2 => ([0, 1, 5], [0]) | _ => ([], []), fun _ => []⟩
noncomputable def code : Code := (f22).body.getD .skip
noncomputable def fin := finK ctx sig [.tmp 4]
noncomputable def F (d : List Int × Int × Unit) : Option ((Int × Unit) × (List Int × Unit)) := anyK (runFn cfg fin code (initSt sig.ps d 19))
noncomputable def l2 (k : Nat) (i3 : Int) (i4 : Int) (x5 : List Int) : Option ((Int × Unit) × (List Int × Unit)) :=
  Go.Vm.runT cfg fin k [.inLoop (sub [1, 0, 1, 0, 0] code), .inBlock 0, .code (sub [1, 1] code)]
    ⟨[.view 0 (.root 0) 1 false, .val false [⟨(.int .i64), .sh, i3⟩], .dead, .dead, .dead, .val false [⟨(.int .i64), .sh, i4⟩]] ++ deads 13, [(0, ⟨false, [⟨(.sl (.int .i64)), .deep, x5⟩]⟩)]⟩
theorem l2_eq (k : Nat) (i3 : Int) (i4 : Int) (x5 : List Int) : l2 (k + 1) i3 i4 x5 =
  if (decide (i4 < (x5.length : Int))) = true then
    if 0 ≤ i4 ∧ i4 < (x5.length : Int) then
      l2 k (IntKind.i64.wrap (i3 + (1 : Int))) (IntKind.i64.wrap (i4 + (1 : Int))) (x5.set i4.toNat i3)
    else
      none
  else
    some ((i3, ()), (x5, ())) := by kernel_rfl
noncomputable def T (k : Nat) (a_1 : List Int) (k_2 : Int) : Option ((Int × Unit) × (List Int × Unit)) :=
  l2 k k_2 (0 : Int) a_1
theorem of (a_1 : List Int) (k_2 : Int) {r : (Int × Unit) × (List Int × Unit)} (h : Ev (fun k => T k a_1 k_2) r) : F (a_1, k_2, ()) = some r := Ev.run (fun k => by kernel_rfl) h
theorem ok : CtxOK prog ctx := ⟨nilM, mixed_ok, tab_ok tab_good, nilM, nilM, nilM⟩
theorem S : Sound prog ⟨22, sig, F⟩ := sound_k (res := [.tmp 4]) func22 ok
end laws_markInt64S
namespace laws_szInt64S
noncomputable def sig : Sig := ⟨[.val false (.sl (.int .i64)), .val false (.int .i64)], [(.val false, (.int .i64), .deep)]⟩
noncomputable def ctx : Ctx := ⟨tabOf tabl, [], [], [], [], []⟩
noncomputable def cfg : Cfg := ⟨ctx, [], [], fun _ => ([], []), fun _ => []⟩
noncomputable def code : Code := (f62).body.getD .skip
noncomputable def fin := finK ctx sig [.tmp 4]
noncomputable def F (d : List Int × Int × Unit) : Option ((Int × Unit) × (Unit)) := anyK (runFn cfg fin code (initSt sig.ps d 12))
noncomputable def T (a_1 : List Int) (left_2 : Int) : Option ((Int × Unit) × (Unit)) :=
  if (decide ((IntKind.i64.wrap (left_2 - (a_1.length : Int))) < (0 : Int))) = true then
    some (((-1 : Int), ()), ())
  else
    some ((IntKind.i64.wrap (left_2 - (a_1.length : Int)), ()), ())
theorem eq (a_1 : List Int) (left_2 : Int) : F (a_1, left_2, ()) = T a_1 left_2 := eq_any fun k => by kernel_rfl
theorem ok : CtxOK prog ctx := ⟨nilM, mixed_ok, tab_ok tab_good, nilM, nilM, nilM⟩
theorem S : Sound prog ⟨62, sig, F⟩ := sound_k (res := [.tmp 4]) func62 ok
end laws_szInt64S
namespace laws_szMatrix
noncomputable def sig : Sig := ⟨[.val true TMatrix, .val false (.int .i64)], [(.val false, (.int .i64), .deep)]⟩
noncomputable def ctx : Ctx := ⟨tabOf tabl, [⟨62, laws_szInt64S.sig, laws_szInt64S.F⟩], [], [], [], []⟩
noncomputable def cfg : Cfg := ⟨ctx, [], [], fun _ => ([], []), fun _ => []⟩
noncomputable def code : Code := (f71).body.getD .skip
noncomputable def fin := finK ctx sig [.tmp 4]
noncomputable def F (d : (Int × Int × Int × List Int) × Int × Unit) : Option ((Int × Unit) × (Unit)) := anyK (runFn cfg fin code (initSt sig.ps d 12))
noncomputable def T (a_1 : Int) (a_2 : Int) (a_3 : Int) (a_4 : List Int) (left_5 : Int) : Option ((Int × Unit) × (Unit)) :=
  (laws_szInt64S.F (a_4, left_5, ())).bind fun r6 =>
    if (decide ((r6.1.1 : Int) < (0 : Int))) = true then
      some (((-1 : Int), ()), ())
    else
      some (((r6.1.1 : Int), ()), ())
theorem eq (a_1 : Int) (a_2 : Int) (a_3 : Int) (a_4 : List Int) (left_5 : Int) : F ((a_1, (a_2, (a_3, a_4))), left_5, ()) = T a_1 a_2 a_3 a_4 left_5 := eq_any fun k => by kernel_rfl
theorem ok : CtxOK prog ctx := ⟨nilM, mixed_ok, tab_ok tab_good, consM ⟨laws_szInt64S.S, nilM⟩, nilM, nilM⟩
theorem S : Sound prog ⟨71, sig, F⟩ := sound_k (res := [.tmp 4]) func71 ok
end laws_szMatrix
namespace laws_szMatrixS
noncomputable def sig : Sig := ⟨[.val false (.sl TMatrix), .val false (.int .i64)], [(.val false, (.int .i64), .deep)]⟩
noncomputable def ctx : Ctx := ⟨tabOf tabl, [⟨71, laws_szMatrix.sig, laws_szMatrix.F⟩], [], [], [], []⟩
noncomputable def cfg : Cfg := ⟨ctx, [], [], fun id => match id with | 5 => ([0, 1, 5], []) | _ => ([], []), fun _ => []⟩
noncomputable def code : Code := (f25).body.getD .skip
noncomputable def fin := finK ctx sig [.tmp 4]
noncomputable def F (d : List (Int × Int × Int × List Int) × Int × Unit) : Option ((Int × Unit) × (Unit)) := anyK (runFn cfg fin code (initSt sig.ps d 27))
noncomputable def l5 (k : Nat) (x3 : List (Int × Int × Int × List Int)) (i4 : Int) (i5 : Int) : Option ((Int × Unit) × (Unit)) :=
  Go.Vm.runT cfg fin k [.inLoop (sub [1, 1, 1, 0, 1, 0, 0] code), .inBlock 0, .code (sub [1, 1, 1, 1] code)]
    ⟨[.val false [⟨(.sl TMatrix), .sh, x3⟩], .val false [⟨(.int .i64), .sh, i4⟩], .dead, .dead, .dead, .val false [⟨(.int .i64), .sh, i5⟩]] ++ deads 21, []⟩
theorem l5_eq (k : Nat) (x3 : List (Int × Int × Int × List Int)) (i4 : Int) (i5 : Int) : l5 (k + 1) x3 i4 i5 =
  if (decide (i5 < (x3.length : Int))) = true then
    if 0 ≤ i5 ∧ i5 < (x3.length : Int) then
      (laws_szMatrix.F (x3.getD i5.toNat (0, 0, 0, ([] : List Int)), i4, ())).bind fun r6 =>
        if (decide ((r6.1.1 : Int) < (0 : Int))) = true then
          some (((-1 : Int), ()), ())
        else
          l5 k x3 (r6.1.1 : Int) (IntKind.i64.wrap (i5 + (1 : Int)))
    else
      none
  else
    some ((i4, ()), ()) := by kernel_rfl
noncomputable def T (k : Nat) (a_1 : List (Int × Int × Int × List Int)) (left_2 : Int) : Option ((Int × Unit) × (Unit)) :=
  if (decide ((IntKind.i64.wrap (left_2 - (a_1.length : Int))) < (0 : Int))) = true then
    some (((-1 : Int), ()), ())
  else
    l5 k a_1 (IntKind.i64.wrap (left_2 - (a_1.length : Int))) (0 : Int)
theorem of (a_1 : List (Int × Int × Int × List Int)) (left_2 : Int) {r : (Int × Unit) × (Unit)} (h : Ev (fun k => T k a_1 left_2) r) : F (a_1, left_2, ()) = some r := Ev.run (fun k => by kernel_rfl) h
theorem ok : CtxOK prog ctx := ⟨nilM, mixed_ok, tab_ok tab_good, consM ⟨laws_szMatrix.S, nilM⟩, nilM, nilM⟩
theorem S : Sound prog ⟨25, sig, F⟩ := sound_k (res := [.tmp 4]) func25 ok
end laws_szMatrixS
namespace laws_szInt64SS
noncomputable def sig : Sig := ⟨[.val false (.sl (.sl (.int .i64))), .val false (.int .i64)], [(.val false, (.int .i64), .deep)]⟩
noncomputable def ctx : Ctx := ⟨tabOf tabl, [⟨62, laws_szInt64S.sig, laws_szInt64S.F⟩], [], [], [], []⟩
noncomputable def cfg : Cfg := ⟨ctx, [], [], fun id => match id with | 5 => ([0, 1, 5], []) | _ => ([], []), fun _ => []⟩
noncomputable def code : Code := (f83).body.getD .skip
noncomputable def fin := finK ctx sig [.tmp 4]
noncomputable def F (d : List (List Int) × Int × Unit) : Option ((Int × Unit) × (Unit)) := anyK (runFn cfg fin code (initSt sig.ps d 27))
noncomputable def l5 (k : Nat) (x3 : List (List Int)) (i4 : Int) (i5 : Int) : Option ((Int × Unit) × (Unit)) :=
  Go.Vm.runT cfg fin k [.inLoop (sub [1, 1, 1, 0, 1, 0, 0] code), .inBlock 0, .code (sub [1, 1, 1, 1] code)]
    ⟨[.val false [⟨(.sl (.sl (.int .i64))), .sh, x3⟩], .val false [⟨(.int .i64), .sh, i4⟩], .dead, .dead, .dead, .val false [⟨(.int .i64), .sh, i5⟩]] ++ deads 21, []⟩
theorem l5_eq (k : Nat) (x3 : List (List Int)) (i4 : Int) (i5 : Int) : l5 (k + 1) x3 i4 i5 =
  if (decide (i5 < (x3.length : Int))) = true then
    if 0 ≤ i5 ∧ i5 < (x3.length : Int) then
      (laws_szInt64S.F (x3.getD i5.toNat ([] : List Int), i4, ())).bind fun r6 =>
        if (decide ((r6.1.1 : Int) < (0 : Int))) = true then
          some (((-1 : Int), ()), ())
        else
          l5 k x3 (r6.1.1 : Int) (IntKind.i64.wrap (i5 + (1 : Int)))
    else
      none
  else
    some ((i4, ()), ()) := by kernel_rfl
noncomputable def T (k : Nat) (a_1 : List (List Int)) (left_2 : Int) : Option ((Int × Unit) × (Unit)) :=
  if (decide ((IntKind.i64.wrap (left_2 - (a_1.length : Int))) < (0 : Int))) = true then
    some (((-1 : Int), ()), ())
  else
    l5 k a_1 (IntKind.i64.wrap (left_2 - (a_1.length : Int))) (0 : Int)
theorem of (a_1 : List (List Int)) (left_2 : Int) {r : (Int × Unit) × (Unit)} (h : Ev (fun k => T k a_1 left_2) r) : F (a_1, left_2, ()) = some r := Ev.run (fun k => by kernel_rfl) h
theorem ok : CtxOK prog ctx := ⟨nilM, mixed_ok, tab_ok tab_good, consM ⟨laws_szInt64S.S, nilM⟩, nilM, nilM⟩
theorem S : Sound prog ⟨83, sig, F⟩ := sound_k (res := [.tmp 4]) func83 ok
end laws_szInt64SS
namespace laws_szComplex
noncomputable def sig : Sig := ⟨[.val true (.sl (.sl (.int .i64))), .val false (.int .i64)], [(.val false, (.int .i64), .deep)]⟩
noncomputable def ctx : Ctx := ⟨tabOf tabl, [⟨83, laws_szInt64SS.sig, laws_szInt64SS.F⟩], [], [], [], []⟩
noncomputable def cfg : Cfg := ⟨ctx, [], [], fun _ => ([], []), fun _ => []⟩
noncomputable def code : Code := (f35).body.getD .skip
noncomputable def fin := finK ctx sig [.tmp 4]
noncomputable def F (d : List (List Int) × Int × Unit) : Option ((Int × Unit) × (Unit)) := anyK (runFn cfg fin code (initSt sig.ps d 12))
noncomputable def T (a_1 : List (List Int)) (left_2 : Int) : Option ((Int × Unit) × (Unit)) :=
  (laws_szInt64SS.F (a_1, left_2, ())).bind fun r3 =>
    if (decide ((r3.1.1 : Int) < (0 : Int))) = true then
      some (((-1 : Int), ()), ())
    else
      some (((r3.1.1 : Int), ()), ())
theorem eq (a_1 : List (List Int)) (left_2 : Int) : F (a_1, left_2, ()) = T a_1 left_2 := eq_any fun k => by kernel_rfl
theorem ok : CtxOK prog ctx := ⟨nilM, mixed_ok, tab_ok tab_good, consM ⟨laws_szInt64SS.S, nilM⟩, nilM, nilM⟩
theorem S : Sound prog ⟨35, sig, F⟩ := sound_k (res := [.tmp 4]) func35 ok
end laws_szComplex
namespace laws_szSheaf
noncomputable def sig : Sig := ⟨[.val true TSheaf, .val false (.int .i64)], [(.val false, (.int .i64), .deep)]⟩
noncomputable def ctx : Ctx := ⟨tabOf tabl, [⟨25, laws_szMatrixS.sig, laws_szMatrixS.F⟩, ⟨35, laws_szComplex.sig, laws_szComplex.F⟩, ⟨62, laws_szInt64S.sig, laws_szInt64S.F⟩], [], [], [], []⟩
noncomputable def cfg : Cfg := ⟨ctx, [], [], fun _ => ([], []), fun _ => []⟩
noncomputable def code : Code := (f24).body.getD .skip
noncomputable def fin := finK ctx sig [.tmp 4]
noncomputable def F (d : (List (List Int) × Int × List Int × List (Int × Int × Int × List Int)) × Int × Unit) : Option ((Int × Unit) × (Unit)) := anyK (runFn cfg fin code (initSt sig.ps d 24))
noncomputable def T (a_1 : List (List Int)) (a_2 : Int) (a_3 : List Int) (a_4 : List (Int × Int × Int × List Int)) (left_5 : Int) : Option ((Int × Unit) × (Unit)) :=
  (laws_szComplex.F (a_1, left_5, ())).bind fun r6 =>
    if (decide ((r6.1.1 : Int) < (0 : Int))) = true then
      some (((-1 : Int), ()), ())
    else
      (laws_szInt64S.F (a_3, (r6.1.1 : Int), ())).bind fun r7 =>
        if (decide ((r7.1.1 : Int) < (0 : Int))) = true then
          some (((-1 : Int), ()), ())
        else
          (laws_szMatrixS.F (a_4, (r7.1.1 : Int), ())).bind fun r8 =>
            if (decide ((r8.1.1 : Int) < (0 : Int))) = true then
              some (((-1 : Int), ()), ())
            else
              some (((r8.1.1 : Int), ()), ())
theorem eq (a_1 : List (List Int)) (a_2 : Int) (a_3 : List Int) (a_4 : List (Int × Int × Int × List Int)) (left_5 : Int) : F ((a_1, (a_2, (a_3, a_4))), left_5, ()) = T a_1 a_2 a_3 a_4 left_5 := eq_any fun k => by kernel_rfl
theorem ok : CtxOK prog ctx := ⟨nilM, mixed_ok, tab_ok tab_good, consM ⟨laws_szMatrixS.S, consM ⟨laws_szComplex.S, consM ⟨laws_szInt64S.S, nilM⟩⟩⟩, nilM, nilM⟩
theorem S : Sound prog ⟨24, sig, F⟩ := sound_k (res := [.tmp 4]) func24 ok
end laws_szSheaf
namespace laws_toInt64S
noncomputable def sig : Sig := ⟨[.val false (.sl (.int .i64))], [(.val false, (.sl (.int .i64)), .deep)]⟩
noncomputable def ctx : Ctx := ⟨tabOf tabl, [], [], [], [], []⟩
noncomputable def cfg : Cfg := ⟨ctx, [], [], fun id => match id with | 3 => ([0, 3, 4], [12]) | _ => ([], []), fun _ => []⟩
noncomputable def code : Code := (f29).body.getD .skip
noncomputable def fin := finK ctx sig [.tmp 2]
noncomputable def F (d : List Int × Unit) : Option ((List Int × Unit) × (Unit)) := anyK (runFn cfg fin code (initSt sig.ps d 22))
noncomputable def l3 (k : Nat) (x2 : List Int) (i3 : Int) (x4 : List Int) : Option ((List Int × Unit) × (Unit)) :=
  Go.Vm.runT cfg fin k [.inLoop (sub [1, 1, 0, 1, 0, 0] code), .inBlock 0, .code (sub [1, 1, 1] code)]
    ⟨[.val false [⟨(.sl (.int .i64)), .sh, x2⟩], .dead, .dead, .view 12 (.root 0) 1 false, .val false [⟨(.int .i64), .sh, i3⟩]] ++ deads 17, [(12, ⟨false, [⟨(.sl (.int .i64)), .deep, x4⟩]⟩)]⟩
theorem l3_eq (k : Nat) (x2 : List Int) (i3 : Int) (x4 : List Int) : l3 (k + 1) x2 i3 x4 =
  if (decide (i3 < (x2.length : Int))) = true then
    if 0 ≤ i3 ∧ i3 < (x2.length : Int) then
      if 0 ≤ i3 ∧ i3 < (x4.length : Int) then
        l3 k x2 (IntKind.i64.wrap (i3 + (1 : Int))) (x4.set i3.toNat (x2.getD i3.toNat 0 : Int))
      else
        none
    else
      none
  else
    some ((x4, ()), ()) := by kernel_rfl
noncomputable def T (k : Nat) (a_1 : List Int) : Option ((List Int × Unit) × (Unit)) :=
  if 0 ≤ (a_1.length : Int) ∧ (a_1.length : Int) ≤ (bigN : Int) then
    l3 k a_1 (0 : Int) (List.replicate (a_1.length : Int).toNat 0)
  else
    none
theorem of (a_1 : List Int) {r : (List Int × Unit) × (Unit)} (h : Ev (fun k => T k a_1) r) : F (a_1, ()) = some r := Ev.run (fun k => by kernel_rfl) h
theorem ok : CtxOK prog ctx := ⟨nilM, mixed_ok, tab_ok tab_good, nilM, nilM, nilM⟩
theorem S : Sound prog ⟨29, sig, F⟩ := sound_k (res := [.tmp 2]) func29 ok
end laws_toInt64S
namespace laws_toMatrix
noncomputable def sig : Sig := ⟨[.val true TMatrix], [(.val true, TMatrix, .deep)]⟩
noncomputable def ctx : Ctx := ⟨tabOf tabl, [⟨29, laws_toInt64S.sig, laws_toInt64S.F⟩], [], [], [], []⟩
noncomputable def cfg : Cfg := ⟨ctx, [], [], fun _ => ([], []), fun _ => []⟩
noncomputable def code : Code := (f76).body.getD .skip
noncomputable def fin := finK ctx sig [.cell 2 87]
noncomputable def F (d : (Int × Int × Int × List Int) × Unit) : Option (((Int × Int × Int × List Int) × Unit) × (Unit)) := anyK (runFn cfg fin code (initSt sig.ps d 18))
noncomputable def T (a_1 : Int) (a_2 : Int) (a_3 : Int) (a_4 : List Int) : Option (((Int × Int × Int × List Int) × Unit) × (Unit)) :=
  (laws_toInt64S.F (a_4, ())).bind fun r5 =>
    some (((a_1, (a_2, (a_3, r5.1.1))), ()), ())
theorem eq (a_1 : Int) (a_2 : Int) (a_3 : Int) (a_4 : List Int) : F ((a_1, (a_2, (a_3, a_4))), ()) = T a_1 a_2 a_3 a_4 := eq_any fun k => by kernel_rfl
theorem ok : CtxOK prog ctx := ⟨nilM, mixed_ok, tab_ok tab_good, consM ⟨laws_toInt64S.S, nilM⟩, nilM, nilM⟩
theorem S : Sound prog ⟨76, sig, F⟩ := sound_k (res := [.cell 2 87]) func76 ok
end laws_toMatrix
namespace laws_toMatrixS
noncomputable def sig : Sig := ⟨[.val false (.sl TMatrix)], [(.val false, (.sl TMatrix), .deep)]⟩
noncomputable def ctx : Ctx := ⟨tabOf tabl, [⟨76, laws_toMatrix.sig, laws_toMatrix.F⟩], [], [], [], []⟩
noncomputable def cfg : Cfg := ⟨ctx, [], [], fun id => match id with | 3 => ([0, 3, 4], [12]) | _ => ([], []), fun _ => []⟩
noncomputable def code : Code := (f28).body.getD .skip
noncomputable def fin := finK ctx sig [.tmp 2]
noncomputable def F (d : List (Int × Int × Int × List Int) × Unit) : Option ((List (Int × Int × Int × List Int) × Unit) × (Unit)) := anyK (runFn cfg fin code (initSt sig.ps d 23))
noncomputable def l3 (k : Nat) (x2 : List (Int × Int × Int × List Int)) (i3 : Int) (x4 : List (Int × Int × Int × List Int)) : Option ((List (Int × Int × Int × List Int) × Unit) × (Unit)) :=
  Go.Vm.runT cfg fin k [.inLoop (sub [1, 1, 0, 1, 0, 0] code), .inBlock 0, .code (sub [1, 1, 1] code)]
    ⟨[.val false [⟨(.sl TMatrix), .sh, x2⟩], .dead, .dead, .view 12 (.root 0) 1 false, .val false [⟨(.int .i64), .sh, i3⟩]] ++ deads 18, [(12, ⟨false, [⟨(.sl TMatrix), .deep, x4⟩]⟩)]⟩
theorem l3_eq (k : Nat) (x2 : List (Int × Int × Int × List Int)) (i3 : Int) (x4 : List (Int × Int × Int × List Int)) : l3 (k + 1) x2 i3 x4 =
  if (decide (i3 < (x2.length : Int))) = true then
    if 0 ≤ i3 ∧ i3 < (x2.length : Int) then
      (laws_toMatrix.F (x2.getD i3.toNat (0, 0, 0, ([] : List Int)), ())).bind fun r5 =>
        if 0 ≤ i3 ∧ i3 < (x4.length : Int) then
          l3 k x2 (IntKind.i64.wrap (i3 + (1 : Int))) (x4.set i3.toNat r5.1.1)
        else
          none
    else
      none
  else
    some ((x4, ()), ()) := by kernel_rfl
noncomputable def T (k : Nat) (a_1 : List (Int × Int × Int × List Int)) : Option ((List (Int × Int × Int × List Int) × Unit) × (Unit)) :=
  if 0 ≤ (a_1.length : Int) ∧ (a_1.length : Int) ≤ (bigN : Int) then
    l3 k a_1 (0 : Int) (List.replicate (a_1.length : Int).toNat (0, 0, 0, ([] : List Int)))
  else
    none
theorem of (a_1 : List (Int × Int × Int × List Int)) {r : (List (Int × Int × Int × List Int) × Unit) × (Unit)} (h : Ev (fun k => T k a_1) r) : F (a_1, ()) = some r := Ev.run (fun k => by kernel_rfl) h
theorem ok : CtxOK prog ctx := ⟨nilM, mixed_ok, tab_ok tab_good, consM ⟨laws_toMatrix.S, nilM⟩, nilM, nilM⟩
theorem S : Sound prog ⟨28, sig, F⟩ := sound_k (res := [.tmp 2]) func28 ok
end laws_toMatrixS
namespace laws_toInt64SS
noncomputable def sig : Sig := ⟨[.val false (.sl (.sl (.int .i64)))], [(.val false, (.sl (.sl (.int .i64))), .deep)]⟩
noncomputable def ctx : Ctx := ⟨tabOf tabl, [⟨29, laws_toInt64S.sig, laws_toInt64S.F⟩], [], [], [], []⟩
noncomputable def cfg : Cfg := ⟨ctx, [], [], fun id => match id with | 3 => ([0, 3, 4], [12]) | _ => ([], []), fun _ => []⟩
noncomputable def code : Code := (f86).body.getD .skip
noncomputable def fin := finK ctx sig [.tmp 2]
noncomputable def F (d : List (List Int) × Unit) : Option ((List (List Int) × Unit) × (Unit)) := anyK (runFn cfg fin code (initSt sig.ps d 23))
noncomputable def l3 (k : Nat) (x2 : List (List Int)) (i3 : Int) (x4 : List (List Int)) : Option ((List (List Int) × Unit) × (Unit)) :=
  Go.Vm.runT cfg fin k [.inLoop (sub [1, 1, 0, 1, 0, 0] code), .inBlock 0, .code (sub [1, 1, 1] code)]
    ⟨[.val false [⟨(.sl (.sl (.int .i64))), .sh, x2⟩], .dead, .dead, .view 12 (.root 0) 1 false, .val false [⟨(.int .i64), .sh, i3⟩]] ++ deads 18, [(12, ⟨false, [⟨(.sl (.sl (.int .i64))), .deep, x4⟩]⟩)]⟩
theorem l3_eq (k : Nat) (x2 : List (List Int)) (i3 : Int) (x4 : List (List Int)) : l3 (k + 1) x2 i3 x4 =
  if (decide (i3 < (x2.length : Int))) = true then
    if 0 ≤ i3 ∧ i3 < (x2.length : Int) then
      (laws_toInt64S.F (x2.getD i3.toNat ([] : List Int), ())).bind fun r5 =>
        if 0 ≤ i3 ∧ i3 < (x4.length : Int) then
          l3 k x2 (IntKind.i64.wrap (i3 + (1 : Int))) (x4.set i3.toNat r5.1.1)
        else
          none
    else
      none
  else
    some ((x4, ()), ()) := by kernel_rfl
noncomputable def T (k : Nat) (a_1 : List (List Int)) : Option ((List (List Int) × Unit) × (Unit)) :=
  if 0 ≤ (a_1.length : Int) ∧ (a_1.length : Int) ≤ (bigN : Int) then
    l3 k a_1 (0 : Int) (List.replicate (a_1.length : Int).toNat ([] : List Int))
  else
    none
theorem of (a_1 : List (List Int)) {r : (List (List Int) × Unit) × (Unit)} (h : Ev (fun k => T k a_1) r) : F (a_1, ()) = some r := Ev.run (fun k => by kernel_rfl) h
theorem ok : CtxOK prog ctx := ⟨nilM, mixed_ok, tab_ok tab_good, consM ⟨laws_toInt64S.S, nilM⟩, nilM, nilM⟩
theorem S : Sound prog ⟨86, sig, F⟩ := sound_k (res := [.tmp 2]) func86 ok
end laws_toInt64SS
namespace laws_toComplex
noncomputable def sig : Sig := ⟨[.val true (.sl (.sl (.int .i64)))], [(.val true, (.sl (.sl (.int .i64))), .deep)]⟩
noncomputable def ctx : Ctx := ⟨tabOf tabl, [⟨86, laws_toInt64SS.sig, laws_toInt64SS.F⟩], [], [], [], []⟩
noncomputable def cfg : Cfg := ⟨ctx, [], [], fun _ => ([], []), fun _ => []⟩
noncomputable def code : Code := (f37).body.getD .skip
noncomputable def fin := finK ctx sig [.cell 2 32]
noncomputable def F (d : List (List Int) × Unit) : Option ((List (List Int) × Unit) × (Unit)) := anyK (runFn cfg fin code (initSt sig.ps d 9))
noncomputable def T (a_1 : List (List Int)) : Option ((List (List Int) × Unit) × (Unit)) :=
  (laws_toInt64SS.F (a_1, ())).bind fun r2 =>
    some ((r2.1.1, ()), ())
theorem eq (a_1 : List (List Int)) : F (a_1, ()) = T a_1 := eq_any fun k => by kernel_rfl
theorem ok : CtxOK prog ctx := ⟨nilM, mixed_ok, tab_ok tab_good, consM ⟨laws_toInt64SS.S, nilM⟩, nilM, nilM⟩
theorem S : Sound prog ⟨37, sig, F⟩ := sound_k (res := [.cell 2 32]) func37 ok
end laws_toComplex
namespace laws_toSheaf
noncomputable def sig : Sig := ⟨[.val true TSheaf], [(.val true, TSheaf, .deep)]⟩
noncomputable def ctx : Ctx := ⟨tabOf tabl, [⟨28, laws_toMatrixS.sig, laws_toMatrixS.F⟩, ⟨29, laws_toInt64S.sig, laws_toInt64S.F⟩, ⟨37, laws_toComplex.sig, laws_toComplex.F⟩], [], [], [], []⟩
noncomputable def cfg : Cfg := ⟨ctx, [], [], fun _ => ([], []), fun _ => []⟩
noncomputable def code : Code := (f27).body.getD .skip
noncomputable def fin := finK ctx sig [.cell 2 46]
noncomputable def F (d : (List (List Int) × Int × List Int × List (Int × Int × Int × List Int)) × Unit) : Option (((List (List Int) × Int × List Int × List (Int × Int × Int × List Int)) × Unit) × (Unit)) := anyK (runFn cfg fin code (initSt sig.ps d 20))
noncomputable def T (a_1 : List (List Int)) (a_2 : Int) (a_3 : List Int) (a_4 : List (Int × Int × Int × List Int)) : Option (((List (List Int) × Int × List Int × List (Int × Int × Int × List Int)) × Unit) × (Unit)) :=
  (laws_toComplex.F (a_1, ())).bind fun r5 =>
    (laws_toInt64S.F (a_3, ())).bind fun r6 =>
      (laws_toMatrixS.F (a_4, ())).bind fun r7 =>
        some (((r5.1.1, (a_2, (r6.1.1, r7.1.1))), ()), ())
theorem eq (a_1 : List (List Int)) (a_2 : Int) (a_3 : List Int) (a_4 : List (Int × Int × Int × List Int)) : F ((a_1, (a_2, (a_3, a_4))), ()) = T a_1 a_2 a_3 a_4 := eq_any fun k => by kernel_rfl
theorem ok : CtxOK prog ctx := ⟨nilM, mixed_ok, tab_ok tab_good, consM ⟨laws_toMatrixS.S, consM ⟨laws_toInt64S.S, consM ⟨laws_toComplex.S, nilM⟩⟩⟩, nilM, nilM⟩
theorem S : Sound prog ⟨27, sig, F⟩ := sound_k (res := [.cell 2 46]) func27 ok
end laws_toSheaf
namespace laws_eqMatrix
noncomputable def sig : Sig := ⟨[.val true TMatrix, .val true TMatrix], [(.val false, .bool, .deep)]⟩
noncomputable def ctx : Ctx := ⟨tabOf tabl, [⟨19, laws_eqInt64S.sig, laws_eqInt64S.F⟩], [], [], [], []⟩
noncomputable def cfg : Cfg := ⟨ctx, [], [], fun _ => ([], []), fun _ => []⟩
noncomputable def code : Code := (f82).body.getD .skip
noncomputable def fin := finK ctx sig [.tmp 4]
noncomputable def F (d : (Int × Int × Int × List Int) × (Int × Int × Int × List Int) × Unit) : Option ((Bool × Unit) × (Unit)) := anyK (runFn cfg fin code (initSt sig.ps d 26))
noncomputable def T (a_1 : Int) (a_2 : Int) (a_3 : Int) (a_4 : List Int) (b_5 : Int) (b_6 : Int) (b_7 : Int) (b_8 : List Int) : Option ((Bool × Unit) × (Unit)) :=
  if (a_1 != b_5) = true then
    some ((false, ()), ())
  else
    if (a_2 != b_6) = true then
      some ((false, ()), ())
    else
      if (a_3 != b_7) = true then
        some ((false, ()), ())
      else
        (laws_eqInt64S.F (a_4, b_8, ())).bind fun r9 =>
          if (!(r9.1.1 : Bool)) = true then
            some ((false, ()), ())
          else
            some ((true, ()), ())
theorem eq (a_1 : Int) (a_2 : Int) (a_3 : Int) (a_4 : List Int) (b_5 : Int) (b_6 : Int) (b_7 : Int) (b_8 : List Int) : F ((a_1, (a_2, (a_3, a_4))), (b_5, (b_6, (b_7, b_8))), ()) = T a_1 a_2 a_3 a_4 b_5 b_6 b_7 b_8 := eq_any fun k => by kernel_rfl
theorem ok : CtxOK prog ctx := ⟨nilM, mixed_ok, tab_ok tab_good, consM ⟨laws_eqInt64S.S, nilM⟩, nilM, nilM⟩
theorem S : Sound prog ⟨82, sig, F⟩ := sound_k (res := [.tmp 4]) func82 ok
end laws_eqMatrix
namespace laws_eqMatrixS
noncomputable def sig : Sig := ⟨[.val false (.sl TMatrix), .val false (.sl TMatrix)], [(.val false, .bool, .deep)]⟩
noncomputable def ctx : Ctx := ⟨tabOf tabl, [⟨82, laws_eqMatrix.sig, laws_eqMatrix.F⟩], [], [], [], []⟩
noncomputable def cfg : Cfg := ⟨ctx, [], [], fun id => match id with | 4 => ([0, 1, 5], []) | _ => ([], []), fun _ => []⟩
noncomputable def code : Code := (f32).body.getD .skip
noncomputable def fin := finK ctx sig [.tmp 4]
noncomputable def F (d : List (Int × Int × Int × List Int) × List (Int × Int × Int × List Int) × Unit) : Option ((Bool × Unit) × (Unit)) := anyK (runFn cfg fin code (initSt sig.ps d 27))
noncomputable def l4 (k : Nat) (x3 : List (Int × Int × Int × List Int)) (x4 : List (Int × Int × Int × List Int)) (i5 : Int) : Option ((Bool × Unit) × (Unit)) :=
  Go.Vm.runT cfg fin k [.inLoop (sub [1, 1, 0, 1, 0, 0] code), .inBlock 0, .code (sub [1, 1, 1] code)]
    ⟨[.val false [⟨(.sl TMatrix), .sh, x3⟩], .val false [⟨(.sl TMatrix), .sh, x4⟩], .dead, .dead, .dead, .val false [⟨(.int .i64), .sh, i5⟩]] ++ deads 21, []⟩
theorem l4_eq (k : Nat) (x3 : List (Int × Int × Int × List Int)) (x4 : List (Int × Int × Int × List Int)) (i5 : Int) : l4 (k + 1) x3 x4 i5 =
  if (decide (i5 < (x3.length : Int))) = true then
    if 0 ≤ i5 ∧ i5 < (x3.length : Int) then
      if 0 ≤ i5 ∧ i5 < (x4.length : Int) then
        (laws_eqMatrix.F (x3.getD i5.toNat (0, 0, 0, ([] : List Int)), x4.getD i5.toNat (0, 0, 0, ([] : List Int)), ())).bind fun r6 =>
          if (!(r6.1.1 : Bool)) = true then
            some ((false, ()), ())
          else
            l4 k x3 x4 (IntKind.i64.wrap (i5 + (1 : Int)))
      else
        none
    else
      none
  else
    some ((true, ()), ()) := by kernel_rfl
noncomputable def T (k : Nat) (a_1 : List (Int × Int × Int × List Int)) (b_2 : List (Int × Int × Int × List Int)) : Option ((Bool × Unit) × (Unit)) :=
  if ((a_1.length : Int) != (b_2.length : Int)) = true then
    some ((false, ()), ())
  else
    l4 k a_1 b_2 (0 : Int)
theorem of (a_1 : List (Int × Int × Int × List Int)) (b_2 : List (Int × Int × Int × List Int)) {r : (Bool × Unit) × (Unit)} (h : Ev (fun k => T k a_1 b_2) r) : F (a_1, b_2, ()) = some r := Ev.run (fun k => by kernel_rfl) h
theorem ok : CtxOK prog ctx := ⟨nilM, mixed_ok, tab_ok tab_good, consM ⟨laws_eqMatrix.S, nilM⟩, nilM, nilM⟩
theorem S : Sound prog ⟨32, sig, F⟩ := sound_k (res := [.tmp 4]) func32 ok
end laws_eqMatrixS
namespace laws_eqInt64SS
noncomputable def sig : Sig := ⟨[.val false (.sl (.sl (.int .i64))), .val false (.sl (.sl (.int .i64)))], [(.val false, .bool, .deep)]⟩
noncomputable def ctx : Ctx := ⟨tabOf tabl, [⟨19, laws_eqInt64S.sig, laws_eqInt64S.F⟩], [], [], [], []⟩
noncomputable def cfg : Cfg := ⟨ctx, [], [], fun id => match id with | 4 => ([0, 1, 5], []) | _ => ([], []), fun _ => []⟩
noncomputable def code : Code := (f89).body.getD .skip
noncomputable def fin := finK ctx sig [.tmp 4]
noncomputable def F (d : List (List Int) × List (List Int) × Unit) : Option ((Bool × Unit) × (Unit)) := anyK (runFn cfg fin code (initSt sig.ps d 27))
noncomputable def l4 (k : Nat) (x3 : List (List Int)) (x4 : List (List Int)) (i5 : Int) : Option ((Bool × Unit) × (Unit)) :=
  Go.Vm.runT cfg fin k [.inLoop (sub [1, 1, 0, 1, 0, 0] code), .inBlock 0, .code (sub [1, 1, 1] code)]
    ⟨[.val false [⟨(.sl (.sl (.int .i64))), .sh, x3⟩], .val false [⟨(.sl (.sl (.int .i64))), .sh, x4⟩], .dead, .dead, .dead, .val false [⟨(.int .i64), .sh, i5⟩]] ++ deads 21, []⟩
theorem l4_eq (k : Nat) (x3 : List (List Int)) (x4 : List (List Int)) (i5 : Int) : l4 (k + 1) x3 x4 i5 =
  if (decide (i5 < (x3.length : Int))) = true then
    if 0 ≤ i5 ∧ i5 < (x3.length : Int) then
      if 0 ≤ i5 ∧ i5 < (x4.length : Int) then
        (laws_eqInt64S.F (x3.getD i5.toNat ([] : List Int), x4.getD i5.toNat ([] : List Int), ())).bind fun r6 =>
          if (!(r6.1.1 : Bool)) = true then
            some ((false, ()), ())
          else
            l4 k x3 x4 (IntKind.i64.wrap (i5 + (1 : Int)))
      else
        none
    else
      none
  else
    some ((true, ()), ()) := by kernel_rfl
noncomputable def T (k : Nat) (a_1 : List (List Int)) (b_2 : List (List Int)) : Option ((Bool × Unit) × (Unit)) :=
  if ((a_1.length : Int) != (b_2.length : Int)) = true then
    some ((false, ()), ())
  else
    l4 k a_1 b_2 (0 : Int)
theorem of (a_1 : List (List Int)) (b_2 : List (List Int)) {r : (Bool × Unit) × (Unit)} (h : Ev (fun k => T k a_1 b_2) r) : F (a_1, b_2, ()) = some r := Ev.run (fun k => by kernel_rfl) h
theorem ok : CtxOK prog ctx := ⟨nilM, mixed_ok, tab_ok tab_good, consM ⟨laws_eqInt64S.S, nilM⟩, nilM, nilM⟩
theorem S : Sound prog ⟨89, sig, F⟩ := sound_k (res := [.tmp 4]) func89 ok
end laws_eqInt64SS
namespace laws_eqComplex
noncomputable def sig : Sig := ⟨[.val true (.sl (.sl (.int .i64))), .val true (.sl (.sl (.int .i64)))], [(.val false, .bool, .deep)]⟩
noncomputable def ctx : Ctx := ⟨tabOf tabl, [⟨89, laws_eqInt64SS.sig, laws_eqInt64SS.F⟩], [], [], [], []⟩
noncomputable def cfg : Cfg := ⟨ctx, [], [], fun _ => ([], []), fun _ => []⟩
noncomputable def code : Code := (f39).body.getD .skip
noncomputable def fin := finK ctx sig [.tmp 4]
noncomputable def F (d : List (List Int) × List (List Int) × Unit) : Option ((Bool × Unit) × (Unit)) := anyK (runFn cfg fin code (initSt sig.ps d 11))
noncomputable def T (a_1 : List (List Int)) (b_2 : List (List Int)) : Option ((Bool × Unit) × (Unit)) :=
  (laws_eqInt64SS.F (a_1, b_2, ())).bind fun r3 =>
    if (!(r3.1.1 : Bool)) = true then
      some ((false, ()), ())
    else
      some ((true, ()), ())
theorem eq (a_1 : List (List Int)) (b_2 : List (List Int)) : F (a_1, b_2, ()) = T a_1 b_2 := eq_any fun k => by kernel_rfl
theorem ok : CtxOK prog ctx := ⟨nilM, mixed_ok, tab_ok tab_good, consM ⟨laws_eqInt64SS.S, nilM⟩, nilM, nilM⟩
theorem S : Sound prog ⟨39, sig, F⟩ := sound_k (res := [.tmp 4]) func39 ok
end laws_eqComplex
namespace laws_eqSheaf
noncomputable def sig : Sig := ⟨[.val true TSheaf, .val true TSheaf], [(.val false, .bool, .deep)]⟩
noncomputable def ctx : Ctx := ⟨tabOf tabl, [⟨19, laws_eqInt64S.sig, laws_eqInt64S.F⟩, ⟨32, laws_eqMatrixS.sig, laws_eqMatrixS.F⟩, ⟨39, laws_eqComplex.sig, laws_eqComplex.F⟩], [], [], [], []⟩
noncomputable def cfg : Cfg := ⟨ctx, [], [], fun _ => ([], []), fun _ => []⟩
noncomputable def code : Code := (f31).body.getD .skip
noncomputable def fin := finK ctx sig [.tmp 4]
noncomputable def F (d : (List (List Int) × Int × List Int × List (Int × Int × Int × List Int)) × (List (List Int) × Int × List Int × List (Int × Int × Int × List Int)) × Unit) : Option ((Bool × Unit) × (Unit)) := anyK (runFn cfg fin code (initSt sig.ps d 28))
noncomputable def T (a_1 : List (List Int)) (a_2 : Int) (a_3 : List Int) (a_4 : List (Int × Int × Int × List Int)) (b_5 : List (List Int)) (b_6 : Int) (b_7 : List Int) (b_8 : List (Int × Int × Int × List Int)) : Option ((Bool × Unit) × (Unit)) :=
  (laws_eqComplex.F (a_1, b_5, ())).bind fun r9 =>
    if (!(r9.1.1 : Bool)) = true then
      some ((false, ()), ())
    else
      if (a_2 != b_6) = true then
        some ((false, ()), ())
      else
        (laws_eqInt64S.F (a_3, b_7, ())).bind fun r10 =>
          if (!(r10.1.1 : Bool)) = true then
            some ((false, ()), ())
          else
            (laws_eqMatrixS.F (a_4, b_8, ())).bind fun r11 =>
              if (!(r11.1.1 : Bool)) = true then
                some ((false, ()), ())
              else
                some ((true, ()), ())
theorem eq (a_1 : List (List Int)) (a_2 : Int) (a_3 : List Int) (a_4 : List (Int × Int × Int × List Int)) (b_5 : List (List Int)) (b_6 : Int) (b_7 : List Int) (b_8 : List (Int × Int × Int × List Int)) : F ((a_1, (a_2, (a_3, a_4))), (b_5, (b_6, (b_7, b_8))), ()) = T a_1 a_2 a_3 a_4 b_5 b_6 b_7 b_8 := eq_any fun k => by kernel_rfl
theorem ok : CtxOK prog ctx := ⟨nilM, mixed_ok, tab_ok tab_good, consM ⟨laws_eqInt64S.S, consM ⟨laws_eqMatrixS.S, consM ⟨laws_eqComplex.S, nilM⟩⟩⟩, nilM, nilM⟩
theorem S : Sound prog ⟨31, sig, F⟩ := sound_k (res := [.tmp 4]) func31 ok
end laws_eqSheaf
namespace laws_markMatrixS
noncomputable def sig : Sig := ⟨[.wr false (.sl TMatrix) .deep, .val false (.int .i64)], [(.val false, (.int .i64), .deep)]⟩
noncomputable def ctx : Ctx := ⟨tabOf tabl, [⟨22, laws_markInt64S.sig, laws_markInt64S.F⟩], [], [], [], []⟩
noncomputable def cfg : Cfg := ⟨ctx, [0], [], fun id => match id with | 2 => ([0, 1, 5], [0]) | _ => ([], []), fun _ => []⟩
noncomputable def code : Code := (f34).body.getD .skip
noncomputable def fin := finK ctx sig [.tmp 4]
noncomputable def F (d : List (Int × Int × Int × List Int) × Int × Unit) : Option ((Int × Unit) × (List (Int × Int × Int × List Int) × Unit)) := anyK (runFn cfg fin code (initSt sig.ps d 41))
noncomputable def l2 (k : Nat) (i3 : Int) (i4 : Int) (x5 : List (Int × Int × Int × List Int)) : Option ((Int × Unit) × (List (Int × Int × Int × List Int) × Unit)) :=
  Go.Vm.runT cfg fin k [.inLoop (sub [1, 0, 1, 0, 0] code), .inBlock 0, .code (sub [1, 1] code)]
    ⟨[.view 0 (.root 0) 1 false, .val false [⟨(.int .i64), .sh, i3⟩], .dead, .dead, .dead, .val false [⟨(.int .i64), .sh, i4⟩]] ++ deads 35, [(0, ⟨false, [⟨(.sl TMatrix), .deep, x5⟩]⟩)]⟩
theorem l2_eq (k : Nat) (i3 : Int) (i4 : Int) (x5 : List (Int × Int × Int × List Int)) : l2 (k + 1) i3 i4 x5 =
  if (decide (i4 < (x5.length : Int))) = true then
    if 0 ≤ i4 ∧ i4 < (x5.length : Int) then
      if 0 ≤ i4 ∧ i4 < ((x5.set i4.toNat (i3, (x5.getD i4.toNat (0, 0, 0, ([] : List Int))).2)).length : Int) then
        let y6 : List (Int × Int × Int × List Int) := (x5.set i4.toNat (i3, (x5.getD i4.toNat (0, 0, 0, ([] : List Int))).2)).set i4.toNat (((x5.set i4.toNat (i3, (x5.getD i4.toNat (0, 0, 0, ([] : List Int))).2)).getD i4.toNat (0, 0, 0, ([] : List Int))).1, (IntKind.i64.wrap (i3 + (1 : Int)), (((x5.set i4.toNat (i3, (x5.getD i4.toNat (0, 0, 0, ([] : List Int))).2)).getD i4.toNat (0, 0, 0, ([] : List Int))).2).2))
        if 0 ≤ i4 ∧ i4 < (y6.length : Int) then
          let y7 : List (Int × Int × Int × List Int) := y6.set i4.toNat ((y6.getD i4.toNat (0, 0, 0, ([] : List Int))).1, (((y6.getD i4.toNat (0, 0, 0, ([] : List Int))).2).1, (IntKind.i64.wrap ((IntKind.i64.wrap (i3 + (1 : Int))) + (1 : Int)), (((y6.getD i4.toNat (0, 0, 0, ([] : List Int))).2).2).2)))
          if 0 ≤ i4 ∧ i4 < (y7.length : Int) then
            (laws_markInt64S.F ((((y7.getD i4.toNat (0, 0, 0, ([] : List Int))).2).2).2, IntKind.i64.wrap ((IntKind.i64.wrap ((IntKind.i64.wrap (i3 + (1 : Int))) + (1 : Int))) + (1 : Int)), ())).bind fun r8 =>
              l2 k (r8.1.1 : Int) (IntKind.i64.wrap (i4 + (1 : Int))) (y7.set i4.toNat ((y7.getD i4.toNat (0, 0, 0, ([] : List Int))).1, (((y7.getD i4.toNat (0, 0, 0, ([] : List Int))).2).1, ((((y7.getD i4.toNat (0, 0, 0, ([] : List Int))).2).2).1, r8.2.1))))
          else
            none
        else
          none
      else
        none
    else
      none
  else
    some ((i3, ()), (x5, ())) := by kernel_rfl
noncomputable def T (k : Nat) (a_1 : List (Int × Int × Int × List Int)) (k_2 : Int) : Option ((Int × Unit) × (List (Int × Int × Int × List Int) × Unit)) :=
  l2 k k_2 (0 : Int) a_1
theorem of (a_1 : List (Int × Int × Int × List Int)) (k_2 : Int) {r : (Int × Unit) × (List (Int × Int × Int × List Int) × Unit)} (h : Ev (fun k => T k a_1 k_2) r) : F (a_1, k_2, ()) = some r := Ev.run (fun k => by kernel_rfl) h
theorem ok : CtxOK prog ctx := ⟨nilM, mixed_ok, tab_ok tab_good, consM ⟨laws_markInt64S.S, nilM⟩, nilM, nilM⟩
theorem S : Sound prog ⟨34, sig, F⟩ := sound_k (res := [.tmp 4]) func34 ok
end laws_markMatrixS
namespace laws_markInt64SS
noncomputable def sig : Sig := ⟨[.wr false (.sl (.sl (.int .i64))) .deep, .val false (.int .i64)], [(.val false, (.int .i64), .deep)]⟩
noncomputable def ctx : Ctx := ⟨tabOf tabl, [⟨22, laws_markInt64S.sig, laws_markInt64S.F⟩], [], [], [], []⟩
noncomputable def cfg : Cfg := ⟨ctx, [0], [], fun id => match id with | 2 => ([0, 1, 5], [0]) | _ => ([], []), fun _ => []⟩
noncomputable def code : Code := (f90).body.getD .skip
noncomputable def fin := finK ctx sig [.tmp 4]
noncomputable def F (d : List (List Int) × Int × Unit) : Option ((Int × Unit) × (List (List Int) × Unit)) := anyK (runFn cfg fin code (initSt sig.ps d 19))
noncomputable def l2 (k : Nat) (i3 : Int) (i4 : Int) (x5 : List (List Int)) : Option ((Int × Unit) × (List (List Int) × Unit)) :=
  Go.Vm.runT cfg fin k [.inLoop (sub [1, 0, 1, 0, 0] code), .inBlock 0, .code (sub [1, 1] code)]
    ⟨[.view 0 (.root 0) 1 false, .val false [⟨(.int .i64), .sh, i3⟩], .dead, .dead, .dead, .val false [⟨(.int .i64), .sh, i4⟩]] ++ deads 13, [(0, ⟨false, [⟨(.sl (.sl (.int .i64))), .deep, x5⟩]⟩)]⟩
theorem l2_eq (k : Nat) (i3 : Int) (i4 : Int) (x5 : List (List Int)) : l2 (k + 1) i3 i4 x5 =
  if (decide (i4 < (x5.length : Int))) = true then
    if 0 ≤ i4 ∧ i4 < (x5.length : Int) then
      (laws_markInt64S.F (x5.getD i4.toNat ([] : List Int), i3, ())).bind fun r6 =>
        l2 k (r6.1.1 : Int) (IntKind.i64.wrap (i4 + (1 : Int))) (x5.set i4.toNat r6.2.1)
    else
      none
  else
    some ((i3, ()), (x5, ())) := by kernel_rfl
noncomputable def T (k : Nat) (a_1 : List (List Int)) (k_2 : Int) : Option ((Int × Unit) × (List (List Int) × Unit)) :=
  l2 k k_2 (0 : Int) a_1
theorem of (a_1 : List (List Int)) (k_2 : Int) {r : (Int × Unit) × (List (List Int) × Unit)} (h : Ev (fun k => T k a_1 k_2) r) : F (a_1, k_2, ()) = some r := Ev.run (fun k => by kernel_rfl) h
theorem ok : CtxOK prog ctx := ⟨nilM, mixed_ok, tab_ok tab_good, consM ⟨laws_markInt64S.S, nilM⟩, nilM, nilM⟩
theorem S : Sound prog ⟨90, sig, F⟩ := sound_k (res := [.tmp 4]) func90 ok
end laws_markInt64SS
namespace laws_markComplex
noncomputable def sig : Sig := ⟨[.wr true (.sl (.sl (.int .i64))) .deep, .val false (.int .i64)], [(.val false, (.int .i64), .deep)]⟩
noncomputable def ctx : Ctx := ⟨tabOf tabl, [⟨90, laws_markInt64SS.sig, laws_markInt64SS.F⟩], [], [], [], []⟩
noncomputable def cfg : Cfg := ⟨ctx, [0], [], fun _ => ([], []), fun _ => []⟩
noncomputable def code : Code := (f40).body.getD .skip
noncomputable def fin := finK ctx sig [.tmp 4]
noncomputable def F (d : List (List Int) × Int × Unit) : Option ((Int × Unit) × (List (List Int) × Unit)) := anyK (runFn cfg fin code (initSt sig.ps d 10))
noncomputable def T (a_1 : List (List Int)) (k_2 : Int) : Option ((Int × Unit) × (List (List Int) × Unit)) :=
  (laws_markInt64SS.F (a_1, k_2, ())).bind fun r3 =>
    some (((r3.1.1 : Int), ()), (r3.2.1, ()))
theorem eq (a_1 : List (List Int)) (k_2 : Int) : F (a_1, k_2, ()) = T a_1 k_2 := eq_any fun k => by kernel_rfl
theorem ok : CtxOK prog ctx := ⟨nilM, mixed_ok, tab_ok tab_good, consM ⟨laws_markInt64SS.S, nilM⟩, nilM, nilM⟩
theorem S : Sound prog ⟨40, sig, F⟩ := sound_k (res := [.tmp 4]) func40 ok
end laws_markComplex
namespace laws_markSheaf
noncomputable def sig : Sig := ⟨[.wr true TSheaf .deep, .val false (.int .i64)], [(.val false, (.int .i64), .deep)]⟩
noncomputable def ctx : Ctx := ⟨tabOf tabl, [⟨22, laws_markInt64S.sig, laws_markInt64S.F⟩, ⟨34, laws_markMatrixS.sig, laws_markMatrixS.F⟩, ⟨40, laws_markComplex.sig, laws_markComplex.F⟩], [], [], [], []⟩
noncomputable def cfg : Cfg := ⟨ctx, [0], [], fun _ => ([], []), fun _ => []⟩
noncomputable def code : Code := (f33).body.getD .skip
noncomputable def fin := finK ctx sig [.tmp 4]
noncomputable def F (d : (List (List Int) × Int × List Int × List (Int × Int × Int × List Int)) × Int × Unit) : Option ((Int × Unit) × ((List (List Int) × Int × List Int × List (Int × Int × Int × List Int)) × Unit)) := anyK (runFn cfg fin code (initSt sig.ps d 18))
noncomputable def T (a_1 : List (List Int)) (a_2 : Int) (a_3 : List Int) (a_4 : List (Int × Int × Int × List Int)) (k_5 : Int) : Option ((Int × Unit) × ((List (List Int) × Int × List Int × List (Int × Int × Int × List Int)) × Unit)) :=
  (laws_markComplex.F (a_1, k_5, ())).bind fun r6 =>
    (laws_markInt64S.F (a_3, (r6.1.1 : Int), ())).bind fun r7 =>
      (laws_markMatrixS.F (a_4, (r7.1.1 : Int), ())).bind fun r8 =>
        some (((r8.1.1 : Int), ()), ((r6.2.1, (a_2, (r7.2.1, r8.2.1))), ()))
theorem eq (a_1 : List (List Int)) (a_2 : Int) (a_3 : List Int) (a_4 : List (Int × Int × Int × List Int)) (k_5 : Int) : F ((a_1, (a_2, (a_3, a_4))), k_5, ()) = T a_1 a_2 a_3 a_4 k_5 := eq_any fun k => by kernel_rfl
theorem ok : CtxOK prog ctx := ⟨nilM, mixed_ok, tab_ok tab_good, consM ⟨laws_markInt64S.S, consM ⟨laws_markMatrixS.S, consM ⟨laws_markComplex.S, nilM⟩⟩⟩, nilM, nilM⟩
theorem S : Sound prog ⟨33, sig, F⟩ := sound_k (res := [.tmp 4]) func33 ok
end laws_markSheaf
namespace laws_heldInt64S
noncomputable def sig : Sig := ⟨[.val false (.sl (.int .i64)), .val false (.int .i64)], [(.val false, (.int .i64), .deep)]⟩
noncomputable def ctx : Ctx := ⟨tabOf tabl, [], [], [], [], []⟩
noncomputable def cfg : Cfg := ⟨ctx, [], [], fun id => match id with | 2 => ([0, 1, 5], []) | _ => ([], []), fun _ => []⟩
noncomputable def code : Code := (f23).body.getD .skip
noncomputable def fin := finK ctx sig [.tmp 4]
noncomputable def F (d : List Int × Int × Unit) : Option ((Int × Unit) × (Unit)) := anyK (runFn cfg fin code (initSt sig.ps d 21))
noncomputable def l2 (k : Nat) (x3 : List Int) (i4 : Int) (i5 : Int) : Option ((Int × Unit) × (Unit)) :=
  Go.Vm.runT cfg fin k [.inLoop (sub [1, 0, 1, 0, 0] code), .inBlock 0, .code (sub [1, 1] code)]
    ⟨[.val false [⟨(.sl (.int .i64)), .sh, x3⟩], .val false [⟨(.int .i64), .sh, i4⟩], .dead, .dead, .dead, .val false [⟨(.int .i64), .sh, i5⟩]] ++ deads 15, []⟩
theorem l2_eq (k : Nat) (x3 : List Int) (i4 : Int) (i5 : Int) : l2 (k + 1) x3 i4 i5 =
  if (decide (i5 < (x3.length : Int))) = true then
    if 0 ≤ i5 ∧ i5 < (x3.length : Int) then
      if ((x3.getD i5.toNat 0 : Int) != i4) = true then
        some (((-1 : Int), ()), ())
      else
        l2 k x3 (IntKind.i64.wrap (i4 + (1 : Int))) (IntKind.i64.wrap (i5 + (1 : Int)))
    else
      none
  else
    some ((i4, ()), ()) := by kernel_rfl
noncomputable def T (k : Nat) (a_1 : List Int) (k_2 : Int) : Option ((Int × Unit) × (Unit)) :=
  l2 k a_1 k_2 (0 : Int)
theorem of (a_1 : List Int) (k_2 : Int) {r : (Int × Unit) × (Unit)} (h : Ev (fun k => T k a_1 k_2) r) : F (a_1, k_2, ()) = some r := Ev.run (fun k => by kernel_rfl) h
theorem ok : CtxOK prog ctx := ⟨nilM, mixed_ok, tab_ok tab_good, nilM, nilM, nilM⟩
theorem S : Sound prog ⟨23, sig, F⟩ := sound_k (res := [.tmp 4]) func23 ok
end laws_heldInt64S
namespace laws_heldInt64SS
noncomputable def sig : Sig := ⟨[.val false (.sl (.sl (.int .i64))), .val false (.int .i64)], [(.val false, (.int .i64), .deep)]⟩
noncomputable def ctx : Ctx := ⟨tabOf tabl, [⟨23, laws_heldInt64S.sig, laws_heldInt64S.F⟩], [], [], [], []⟩
noncomputable def cfg : Cfg := ⟨ctx, [], [], fun id => match id with | 2 => ([0, 1, 5], []) | _ => ([], []), fun _ => []⟩
noncomputable def code : Code := (f97).body.getD .skip
noncomputable def fin := finK ctx sig [.tmp 4]
noncomputable def F (d : List (List Int) × Int × Unit) : Option ((Int × Unit) × (Unit)) := anyK (runFn cfg fin code (initSt sig.ps d 21))
noncomputable def l2 (k : Nat) (x3 : List (List Int)) (i4 : Int) (i5 : Int) : Option ((Int × Unit) × (Unit)) :=
  Go.Vm.runT cfg fin k [.inLoop (sub [1, 0, 1, 0, 0] code), .inBlock 0, .code (sub [1, 1] code)]
    ⟨[.val false [⟨(.sl (.sl (.int .i64))), .sh, x3⟩], .val false [⟨(.int .i64), .sh, i4⟩], .dead, .dead, .dead, .val false [⟨(.int .i64), .sh, i5⟩]] ++ deads 15, []⟩
theorem l2_eq (k : Nat) (x3 : List (List Int)) (i4 : Int) (i5 : Int) : l2 (k + 1) x3 i4 i5 =
  if (decide (i5 < (x3.length : Int))) = true then
    if 0 ≤ i5 ∧ i5 < (x3.length : Int) then
      (laws_heldInt64S.F (x3.getD i5.toNat ([] : List Int), i4, ())).bind fun r6 =>
        if (decide ((r6.1.1 : Int) < (0 : Int))) = true then
          some (((-1 : Int), ()), ())
        else
          l2 k x3 (r6.1.1 : Int) (IntKind.i64.wrap (i5 + (1 : Int)))
    else
      none
  else
    some ((i4, ()), ()) := by kernel_rfl
noncomputable def T (k : Nat) (a_1 : List (List Int)) (k_2 : Int) : Option ((Int × Unit) × (Unit)) :=
  l2 k a_1 k_2 (0 : Int)
theorem of (a_1 : List (List Int)) (k_2 : Int) {r : (Int × Unit) × (Unit)} (h : Ev (fun k => T k a_1 k_2) r) : F (a_1, k_2, ()) = some r := Ev.run (fun k => by kernel_rfl) h
theorem ok : CtxOK prog ctx := ⟨nilM, mixed_ok, tab_ok tab_good, consM ⟨laws_heldInt64S.S, nilM⟩, nilM, nilM⟩
theorem S : Sound prog ⟨97, sig, F⟩ := sound_k (res := [.tmp 4]) func97 ok
end laws_heldInt64SS
namespace laws_heldComplex
noncomputable def sig : Sig := ⟨[.val true (.sl (.sl (.int .i64))), .val false (.int .i64)], [(.val false, (.int .i64), .deep)]⟩
noncomputable def ctx : Ctx := ⟨tabOf tabl, [⟨97, laws_heldInt64SS.sig, laws_heldInt64SS.F⟩], [], [], [], []⟩
noncomputable def cfg : Cfg := ⟨ctx, [], [], fun _ => ([], []), fun _ => []⟩
noncomputable def code : Code := (f44).body.getD .skip
noncomputable def fin := finK ctx sig [.tmp 4]
noncomputable def F (d : List (List Int) × Int × Unit) : Option ((Int × Unit) × (Unit)) := anyK (runFn cfg fin code (initSt sig.ps d 12))
noncomputable def T (a_1 : List (List Int)) (k_2 : Int) : Option ((Int × Unit) × (Unit)) :=
  (laws_heldInt64SS.F (a_1, k_2, ())).bind fun r3 =>
    if (decide ((r3.1.1 : Int) < (0 : Int))) = true then
      some (((-1 : Int), ()), ())
    else
      some (((r3.1.1 : Int), ()), ())
theorem eq (a_1 : List (List Int)) (k_2 : Int) : F (a_1, k_2, ()) = T a_1 k_2 := eq_any fun k => by kernel_rfl
theorem ok : CtxOK prog ctx := ⟨nilM, mixed_ok, tab_ok tab_good, consM ⟨laws_heldInt64SS.S, nilM⟩, nilM, nilM⟩
theorem S : Sound prog ⟨44, sig, F⟩ := sound_k (res := [.tmp 4]) func44 ok
end laws_heldComplex
namespace laws_heldMatrixS
noncomputable def sig : Sig := ⟨[.val false (.sl TMatrix), .val false (.int .i64)], [(.val false, (.int .i64), .deep)]⟩
noncomputable def ctx : Ctx := ⟨tabOf tabl, [⟨23, laws_heldInt64S.sig, laws_heldInt64S.F⟩], [], [], [], []⟩
noncomputable def cfg : Cfg := ⟨ctx, [], [], fun id => match id with | 2 => ([0, 1, 5], []) | _ => ([], []), fun _ => []⟩
noncomputable def code : Code := (f91).body.getD .skip
noncomputable def fin := finK ctx sig [.tmp 4]
noncomputable def F (d : List (Int × Int × Int × List Int) × Int × Unit) : Option ((Int × Unit) × (Unit)) := anyK (runFn cfg fin code (initSt sig.ps d 49))
noncomputable def l2 (k : Nat) (x3 : List (Int × Int × Int × List Int)) (i4 : Int) (i5 : Int) : Option ((Int × Unit) × (Unit)) :=
  Go.Vm.runT cfg fin k [.inLoop (sub [1, 0, 1, 0, 0] code), .inBlock 0, .code (sub [1, 1] code)]
    ⟨[.val false [⟨(.sl TMatrix), .sh, x3⟩], .val false [⟨(.int .i64), .sh, i4⟩], .dead, .dead, .dead, .val false [⟨(.int .i64), .sh, i5⟩]] ++ deads 43, []⟩
theorem l2_eq (k : Nat) (x3 : List (Int × Int × Int × List Int)) (i4 : Int) (i5 : Int) : l2 (k + 1) x3 i4 i5 =
  if (decide (i5 < (x3.length : Int))) = true then
    if 0 ≤ i5 ∧ i5 < (x3.length : Int) then
      if (((x3.getD i5.toNat (0, 0, 0, ([] : List Int))).1) != i4) = true then
        some (((-1 : Int), ()), ())
      else
        if 0 ≤ i5 ∧ i5 < (x3.length : Int) then
          if ((((x3.getD i5.toNat (0, 0, 0, ([] : List Int))).2).1) != (IntKind.i64.wrap (i4 + (1 : Int)))) = true then
            some (((-1 : Int), ()), ())
          else
            if 0 ≤ i5 ∧ i5 < (x3.length : Int) then
              if (((((x3.getD i5.toNat (0, 0, 0, ([] : List Int))).2).2).1) != (IntKind.i64.wrap ((IntKind.i64.wrap (i4 + (1 : Int))) + (1 : Int)))) = true then
                some (((-1 : Int), ()), ())
              else
                if 0 ≤ i5 ∧ i5 < (x3.length : Int) then
                  (laws_heldInt64S.F ((((x3.getD i5.toNat (0, 0, 0, ([] : List Int))).2).2).2, IntKind.i64.wrap ((IntKind.i64.wrap ((IntKind.i64.wrap (i4 + (1 : Int))) + (1 : Int))) + (1 : Int)), ())).bind fun r6 =>
                    if (decide ((r6.1.1 : Int) < (0 : Int))) = true then
                      some (((-1 : Int), ()), ())
                    else
                      l2 k x3 (r6.1.1 : Int) (IntKind.i64.wrap (i5 + (1 : Int)))
                else
                  none
            else
              none
        else
          none
    else
      none
  else
    some ((i4, ()), ()) := by kernel_rfl
noncomputable def T (k : Nat) (a_1 : List (Int × Int × Int × List Int)) (k_2 : Int) : Option ((Int × Unit) × (Unit)) :=
  l2 k a_1 k_2 (0 : Int)
theorem of (a_1 : List (Int × Int × Int × List Int)) (k_2 : Int) {r : (Int × Unit) × (Unit)} (h : Ev (fun k => T k a_1 k_2) r) : F (a_1, k_2, ()) = some r := Ev.run (fun k => by kernel_rfl) h
theorem ok : CtxOK prog ctx := ⟨nilM, mixed_ok, tab_ok tab_good, consM ⟨laws_heldInt64S.S, nilM⟩, nilM, nilM⟩
theorem S : Sound prog ⟨91, sig, F⟩ := sound_k (res := [.tmp 4]) func91 ok
end laws_heldMatrixS
namespace laws_heldSheaf
noncomputable def sig : Sig := ⟨[.val true TSheaf, .val false (.int .i64)], [(.val false, (.int .i64), .deep)]⟩
noncomputable def ctx : Ctx := ⟨tabOf tabl, [⟨23, laws_heldInt64S.sig, laws_heldInt64S.F⟩, ⟨44, laws_heldComplex.sig, laws_heldComplex.F⟩, ⟨91, laws_heldMatrixS.sig, laws_heldMatrixS.F⟩], [], [], [], []⟩
noncomputable def cfg : Cfg := ⟨ctx, [], [], fun _ => ([], []), fun _ => []⟩
noncomputable def code : Code := (f49).body.getD .skip
noncomputable def fin := finK ctx sig [.tmp 4]
noncomputable def F (d : (List (List Int) × Int × List Int × List (Int × Int × Int × List Int)) × Int × Unit) : Option ((Int × Unit) × (Unit)) := anyK (runFn cfg fin code (initSt sig.ps d 24))
noncomputable def T (a_1 : List (List Int)) (a_2 : Int) (a_3 : List Int) (a_4 : List (Int × Int × Int × List Int)) (k_5 : Int) : Option ((Int × Unit) × (Unit)) :=
  (laws_heldComplex.F (a_1, k_5, ())).bind fun r6 =>
    if (decide ((r6.1.1 : Int) < (0 : Int))) = true then
      some (((-1 : Int), ()), ())
    else
      (laws_heldInt64S.F (a_3, (r6.1.1 : Int), ())).bind fun r7 =>
        if (decide ((r7.1.1 : Int) < (0 : Int))) = true then
          some (((-1 : Int), ()), ())
        else
          (laws_heldMatrixS.F (a_4, (r7.1.1 : Int), ())).bind fun r8 =>
            if (decide ((r8.1.1 : Int) < (0 : Int))) = true then
              some (((-1 : Int), ()), ())
            else
              some (((r8.1.1 : Int), ()), ())
theorem eq (a_1 : List (List Int)) (a_2 : Int) (a_3 : List Int) (a_4 : List (Int × Int × Int × List Int)) (k_5 : Int) : F ((a_1, (a_2, (a_3, a_4))), k_5, ()) = T a_1 a_2 a_3 a_4 k_5 := eq_any fun k => by kernel_rfl
theorem ok : CtxOK prog ctx := ⟨nilM, mixed_ok, tab_ok tab_good, consM ⟨laws_heldInt64S.S, consM ⟨laws_heldComplex.S, consM ⟨laws_heldMatrixS.S, nilM⟩⟩⟩, nilM, nilM⟩
theorem S : Sound prog ⟨49, sig, F⟩ := sound_k (res := [.tmp 4]) func49 ok
end laws_heldSheaf
namespace spec_l00Same
noncomputable def sig : Sig := ⟨[.val false (.sl (.int .i64)), .val false (.sl (.int .i64))], [(.val false, .bool, .deep)]⟩
noncomputable def ctx : Ctx := ⟨tabOf tabl, [], [], [], [], []⟩
noncomputable def cfg : Cfg := ⟨ctx, [], [], fun id => match id with | 4 => ([0, 1, 5], []) | _ => ([], []), fun _ => []⟩
noncomputable def code : Code := (f191).body.getD .skip
noncomputable def fin := finK ctx sig [.tmp 4]
noncomputable def F (d : List Int × List Int × Unit) : Option ((Bool × Unit) × (Unit)) := anyK (runFn cfg fin code (initSt sig.ps d 26))
noncomputable def l4 (k : Nat) (x3 : List Int) (x4 : List Int) (i5 : Int) : Option ((Bool × Unit) × (Unit)) :=
  Go.Vm.runT cfg fin k [.inLoop (sub [1, 1, 0, 1, 0, 0] code), .inBlock 0, .code (sub [1, 1, 1] code)]
    ⟨[.val false [⟨(.sl (.int .i64)), .sh, x3⟩], .val false [⟨(.sl (.int .i64)), .sh, x4⟩], .dead, .dead, .dead, .val false [⟨(.int .i64), .sh, i5⟩]] ++ deads 20, []⟩
theorem l4_eq (k : Nat) (x3 : List Int) (x4 : List Int) (i5 : Int) : l4 (k + 1) x3 x4 i5 =
  if (decide (i5 < (x3.length : Int))) = true then
    if 0 ≤ i5 ∧ i5 < (x3.length : Int) then
      if 0 ≤ i5 ∧ i5 < (x4.length : Int) then
        if ((x3.getD i5.toNat 0 : Int) != (x4.getD i5.toNat 0 : Int)) = true then
          some ((false, ()), ())
        else
          l4 k x3 x4 (IntKind.i64.wrap (i5 + (1 : Int)))
      else
        none
    else
      none
  else
    some ((true, ()), ()) := by kernel_rfl
noncomputable def T (k : Nat) (a_1 : List Int) (b_2 : List Int) : Option ((Bool × Unit) × (Unit)) :=
  if ((a_1.length : Int) != (b_2.length : Int)) = true then
    some ((false, ()), ())
  else
    l4 k a_1 b_2 (0 : Int)
theorem of (a_1 : List Int) (b_2 : List Int) {r : (Bool × Unit) × (Unit)} (h : Ev (fun k => T k a_1 b_2) r) : F (a_1, b_2, ()) = some r := Ev.run (fun k => by kernel_rfl) h
theorem ok : CtxOK prog ctx := ⟨nilM, mixed_ok, tab_ok tab_good, nilM, nilM, nilM⟩
theorem S : Sound prog ⟨191, sig, F⟩ := sound_k (res := [.tmp 4]) func191 ok
end spec_l00Same
namespace spec_l05Find
noncomputable def sig : Sig := ⟨[.rptr (.sl (.sl (.int .i64))), .val false (.sl (.int .i64))], [(.val false, (.int .i64), .deep)]⟩
noncomputable def ctx : Ctx := ⟨tabOf tabl, [⟨191, spec_l00Same.sig, spec_l00Same.F⟩], [], [], [], []⟩
noncomputable def cfg : Cfg := ⟨ctx, [], [], fun id => match id with | 2 => ([0, 1, 5], []) | _ => ([], []), fun _ => []⟩
noncomputable def code : Code := (f101).body.getD .skip
noncomputable def fin := finK ctx sig [.tmp 4]
noncomputable def F (d : List (List Int) × List Int × Unit) : Option ((Int × Unit) × (Unit)) := anyK (runFn cfg fin code (initSt sig.ps d 25))
noncomputable def l2 (k : Nat) (x3 : List (List Int)) (x4 : List Int) (i5 : Int) : Option ((Int × Unit) × (Unit)) :=
  Go.Vm.runT cfg fin k [.inLoop (sub [1, 0, 1, 0, 0] code), .inBlock 0, .code (sub [1, 1] code)]
    ⟨[.rptr false [⟨(.sl (.sl (.int .i64))), .sh, x3⟩], .val false [⟨(.sl (.int .i64)), .sh, x4⟩], .dead, .dead, .dead, .val false [⟨(.int .i64), .sh, i5⟩]] ++ deads 19, []⟩
theorem l2_eq (k : Nat) (x3 : List (List Int)) (x4 : List Int) (i5 : Int) : l2 (k + 1) x3 x4 i5 =
  if (decide (i5 < (x3.length : Int))) = true then
    if 0 ≤ i5 ∧ i5 < (x3.length : Int) then
      (spec_l00Same.F (x3.getD i5.toNat ([] : List Int), x4, ())).bind fun r6 =>
        if (r6.1.1 : Bool) = true then
          some ((i5, ()), ())
        else
          l2 k x3 x4 (IntKind.i64.wrap (i5 + (1 : Int)))
    else
      none
  else
    some (((-1 : Int), ()), ()) := by kernel_rfl
noncomputable def T (k : Nat) (c_1 : List (List Int)) (s_2 : List Int) : Option ((Int × Unit) × (Unit)) :=
  l2 k c_1 s_2 (0 : Int)
theorem of (c_1 : List (List Int)) (s_2 : List Int) {r : (Int × Unit) × (Unit)} (h : Ev (fun k => T k c_1 s_2) r) : F (c_1, s_2, ()) = some r := Ev.run (fun k => by kernel_rfl) h
theorem ok : CtxOK prog ctx := ⟨nilM, mixed_ok, tab_ok tab_good, consM ⟨spec_l00Same.S, nilM⟩, nilM, nilM⟩
theorem S : Sound prog ⟨101, sig, F⟩ := sound_k (res := [.tmp 4]) func101 ok
end spec_l05Find
namespace spec_l00In
noncomputable def sig : Sig := ⟨[.val false (.int .i64), .val false (.int .i64), .val false (.int .i64)], [(.val false, .bool, .deep)]⟩
noncomputable def ctx : Ctx := ⟨tabOf tabl, [], [], [], [], []⟩
noncomputable def cfg : Cfg := ⟨ctx, [], [], fun _ => ([], []), fun _ => []⟩
noncomputable def code : Code := (f176).body.getD .skip
noncomputable def fin := finK ctx sig [.tmp 6]
noncomputable def F (d : Int × Int × Int × Unit) : Option ((Bool × Unit) × (Unit)) := anyK (runFn cfg fin code (initSt sig.ps d 15))
noncomputable def T (n_1 : Int) (low_2 : Int) (high_3 : Int) : Option ((Bool × Unit) × (Unit)) :=
  if (decide (n_1 ≥ low_2)) = true then
    some ((decide (n_1 ≤ high_3), ()), ())
  else
    some ((false, ()), ())
theorem eq (n_1 : Int) (low_2 : Int) (high_3 : Int) : F (n_1, low_2, high_3, ()) = T n_1 low_2 high_3 := eq_any fun k => by kernel_rfl
theorem ok : CtxOK prog ctx := ⟨nilM, mixed_ok, tab_ok tab_good, nilM, nilM, nilM⟩
theorem S : Sound prog ⟨176, sig, F⟩ := sound_k (res := [.tmp 6]) func176 ok
end spec_l00In
namespace spec_l00Rises
noncomputable def sig : Sig := ⟨[.val false (.sl (.int .i64)), .val false (.int .i64), .val false (.int .i64)], [(.val false, .bool, .deep)]⟩
noncomputable def ctx : Ctx := ⟨tabOf tabl, [⟨176, spec_l00In.sig, spec_l00In.F⟩], [], [], [], []⟩
noncomputable def cfg : Cfg := ⟨ctx, [], [], fun id => match id with | 2 => ([0, 1, 2, 7], []) | _ => ([], []), fun _ => []⟩
noncomputable def code : Code := (f253).body.getD .skip
noncomputable def fin := finK ctx sig [.tmp 6]
noncomputable def F (d : List Int × Int × Int × Unit) : Option ((Bool × Unit) × (Unit)) := anyK (runFn cfg fin code (initSt sig.ps d 38))
noncomputable def l2 (k : Nat) (x4 : List Int) (i5 : Int) (i6 : Int) (i7 : Int) : Option ((Bool × Unit) × (Unit)) :=
  Go.Vm.runT cfg fin k [.inLoop (sub [1, 0, 1, 0, 0] code), .inBlock 0, .code (sub [1, 1] code)]
    ⟨[.val false [⟨(.sl (.int .i64)), .sh, x4⟩], .val false [⟨(.int .i64), .sh, i5⟩], .val false [⟨(.int .i64), .sh, i6⟩], .dead, .dead, .dead, .dead, .val false [⟨(.int .i64), .sh, i7⟩]] ++ deads 30, []⟩
theorem l2_eq (k : Nat) (x4 : List Int) (i5 : Int) (i6 : Int) (i7 : Int) : l2 (k + 1) x4 i5 i6 i7 =
  if (decide (i7 < (x4.length : Int))) = true then
    if 0 ≤ i7 ∧ i7 < (x4.length : Int) then
      (spec_l00In.F ((x4.getD i7.toNat 0 : Int), i5, i6, ())).bind fun r8 =>
        if (!(r8.1.1 : Bool)) = true then
          some ((false, ()), ())
        else
          if (decide (i7 > (0 : Int))) = true then
            if 0 ≤ (IntKind.i64.wrap (i7 - (1 : Int))) ∧ (IntKind.i64.wrap (i7 - (1 : Int))) < (x4.length : Int) then
              if 0 ≤ i7 ∧ i7 < (x4.length : Int) then
                if (decide ((x4.getD (IntKind.i64.wrap (i7 - (1 : Int))).toNat 0) ≥ (x4.getD i7.toNat 0 : Int))) = true then
                  some ((false, ()), ())
                else
                  l2 k x4 i5 i6 (IntKind.i64.wrap (i7 + (1 : Int)))
              else
                none
            else
              none
          else
            l2 k x4 i5 i6 (IntKind.i64.wrap (i7 + (1 : Int)))
    else
      none
  else
    some ((true, ()), ()) := by kernel_rfl
noncomputable def T (k : Nat) (list_1 : List Int) (low_2 : Int) (high_3 : Int) : Option ((Bool × Unit) × (Unit)) :=
  l2 k list_1 low_2 high_3 (0 : Int)
theorem of (list_1 : List Int) (low_2 : Int) (high_3 : Int) {r : (Bool × Unit) × (Unit)} (h : Ev (fun k => T k list_1 low_2 high_3) r) : F (list_1, low_2, high_3, ()) = some r := Ev.run (fun k => by kernel_rfl) h
theorem ok : CtxOK prog ctx := ⟨nilM, mixed_ok, tab_ok tab_good, consM ⟨spec_l00In.S, nilM⟩, nilM, nilM⟩
theorem S : Sound prog ⟨253, sig, F⟩ := sound_k (res := [.tmp 6]) func253 ok
end spec_l00Rises
namespace spec_l05Simplex
noncomputable def sig : Sig := ⟨[.val false (.sl (.int .i64))], [(.val false, .bool, .deep)]⟩
noncomputable def ctx : Ctx := ⟨tabOf tabl, [⟨176, spec_l00In.sig, spec_l00In.F⟩, ⟨253, spec_l00Rises.sig, spec_l00Rises.F⟩], [], [], [], []⟩
noncomputable def cfg : Cfg := ⟨ctx, [], [], fun _ => ([], []), fun _ => []⟩
noncomputable def code : Code := (f182).body.getD .skip
noncomputable def fin := finK ctx sig [.tmp 2]
noncomputable def F (d : List Int × Unit) : Option ((Bool × Unit) × (Unit)) := anyK (runFn cfg fin code (initSt sig.ps d 10))
noncomputable def T (s_1 : List Int) : Option ((Bool × Unit) × (Unit)) :=
  (spec_l00In.F ((s_1.length : Int), (1 : Int), (4 : Int), ())).bind fun r2 =>
    if (r2.1.1 : Bool) = true then
      (spec_l00Rises.F (s_1, (0 : Int), (9 : Int), ())).bind fun r3 =>
        some (((r3.1.1 : Bool), ()), ())
    else
      some ((false, ()), ())
theorem eq (s_1 : List Int) : F (s_1, ()) = T s_1 := eq_any fun k => by kernel_rfl
theorem ok : CtxOK prog ctx := ⟨nilM, mixed_ok, tab_ok tab_good, consM ⟨spec_l00In.S, consM ⟨spec_l00Rises.S, nilM⟩⟩, nilM, nilM⟩
theorem S : Sound prog ⟨182, sig, F⟩ := sound_k (res := [.tmp 2]) func182 ok
end spec_l05Simplex
namespace spec_l05Before
noncomputable def sig : Sig := ⟨[.val false (.sl (.int .i64)), .val false (.sl (.int .i64))], [(.val false, .bool, .deep)]⟩
noncomputable def ctx : Ctx := ⟨tabOf tabl, [], [], [], [], []⟩
noncomputable def cfg : Cfg := ⟨ctx, [], [], fun id => match id with | 4 => ([0, 1, 5], []) | _ => ([], []), fun _ => []⟩
noncomputable def code : Code := (f183).body.getD .skip
noncomputable def fin := finK ctx sig [.tmp 4]
noncomputable def F (d : List Int × List Int × Unit) : Option ((Bool × Unit) × (Unit)) := anyK (runFn cfg fin code (initSt sig.ps d 40))
noncomputable def l4 (k : Nat) (x3 : List Int) (x4 : List Int) (i5 : Int) : Option ((Bool × Unit) × (Unit)) :=
  Go.Vm.runT cfg fin k [.inLoop (sub [1, 1, 0, 1, 0, 0] code), .inBlock 0, .code (sub [1, 1, 1] code)]
    ⟨[.val false [⟨(.sl (.int .i64)), .sh, x3⟩], .val false [⟨(.sl (.int .i64)), .sh, x4⟩], .dead, .dead, .dead, .val false [⟨(.int .i64), .sh, i5⟩]] ++ deads 34, []⟩
theorem l4_eq (k : Nat) (x3 : List Int) (x4 : List Int) (i5 : Int) : l4 (k + 1) x3 x4 i5 =
  if (decide (i5 < (x3.length : Int))) = true then
    if 0 ≤ i5 ∧ i5 < (x3.length : Int) then
      if 0 ≤ i5 ∧ i5 < (x4.length : Int) then
        if ((x3.getD i5.toNat 0 : Int) != (x4.getD i5.toNat 0 : Int)) = true then
          if 0 ≤ i5 ∧ i5 < (x3.length : Int) then
            if 0 ≤ i5 ∧ i5 < (x4.length : Int) then
              some ((decide ((x3.getD i5.toNat 0 : Int) < (x4.getD i5.toNat 0 : Int)), ()), ())
            else
              none
          else
            none
        else
          l4 k x3 x4 (IntKind.i64.wrap (i5 + (1 : Int)))
      else
        none
    else
      none
  else
    some ((false, ()), ()) := by kernel_rfl
noncomputable def T (k : Nat) (a_1 : List Int) (b_2 : List Int) : Option ((Bool × Unit) × (Unit)) :=
  if ((a_1.length : Int) != (b_2.length : Int)) = true then
    some ((decide ((a_1.length : Int) < (b_2.length : Int)), ()), ())
  else
    l4 k a_1 b_2 (0 : Int)
theorem of (a_1 : List Int) (b_2 : List Int) {r : (Bool × Unit) × (Unit)} (h : Ev (fun k => T k a_1 b_2) r) : F (a_1, b_2, ()) = some r := Ev.run (fun k => by kernel_rfl) h
theorem ok : CtxOK prog ctx := ⟨nilM, mixed_ok, tab_ok tab_good, nilM, nilM, nilM⟩
theorem S : Sound prog ⟨183, sig, F⟩ := sound_k (res := [.tmp 4]) func183 ok
end spec_l05Before
namespace spec_l00Own
noncomputable def sig : Sig := ⟨[.val false (.sl (.int .i64))], [(.val false, (.sl (.int .i64)), .deep)]⟩
noncomputable def ctx : Ctx := ⟨tabOf tabl, [], [], [], [], []⟩
noncomputable def cfg : Cfg := ⟨ctx, [], [], fun _ => ([], []), fun _ => []⟩
noncomputable def code : Code := (f152).body.getD .skip
noncomputable def fin := finK ctx sig [.tmp 2]
noncomputable def F (d : List Int × Unit) : Option ((List Int × Unit) × (Unit)) := anyK (runFn cfg fin code (initSt sig.ps d 6))
noncomputable def T (list_1 : List Int) : Option ((List Int × Unit) × (Unit)) :=
  if ([] : List Int).length + list_1.length ≤ bigA then
    some ((([] : List Int) ++ list_1, ()), ())
  else
    none
theorem eq (list_1 : List Int) : F (list_1, ()) = T list_1 := eq_any fun k => by kernel_rfl
theorem ok : CtxOK prog ctx := ⟨nilM, mixed_ok, tab_ok tab_good, nilM, nilM, nilM⟩
theorem S : Sound prog ⟨152, sig, F⟩ := sound_k (res := [.tmp 2]) func152 ok
end spec_l00Own
namespace spec_l05Drop
noncomputable def sig : Sig := ⟨[.val false (.sl (.int .i64)), .val false (.int .i64)], [(.val false, (.sl (.int .i64)), .deep)]⟩
noncomputable def ctx : Ctx := ⟨tabOf tabl, [⟨152, spec_l00Own.sig, spec_l00Own.F⟩], [], [], [], []⟩
noncomputable def cfg : Cfg := ⟨ctx, [], [], fun _ => ([], []), fun _ => []⟩
noncomputable def code : Code := (f184).body.getD .skip
noncomputable def fin := finK ctx sig [.tmp 4]
noncomputable def F (d : List Int × Int × Unit) : Option ((List Int × Unit) × (Unit)) := anyK (runFn cfg fin code (initSt sig.ps d 16))
noncomputable def T (s_1 : List Int) (k_2 : Int) : Option ((List Int × Unit) × (Unit)) :=
  if 0 ≤ (0 : Int) ∧ (0 : Int) ≤ k_2 ∧ k_2 ≤ (s_1.length : Int) then
    (spec_l00Own.F (cutL s_1 (0 : Int) k_2, ())).bind fun r3 =>
      if 0 ≤ (IntKind.i64.wrap (k_2 + (1 : Int))) ∧ (IntKind.i64.wrap (k_2 + (1 : Int))) ≤ (s_1.length : Int) ∧ (s_1.length : Int) ≤ (s_1.length : Int) then
        if r3.1.1.length + (cutL s_1 (IntKind.i64.wrap (k_2 + (1 : Int))) (s_1.length : Int)).length ≤ bigA then
          some ((r3.1.1 ++ (cutL s_1 (IntKind.i64.wrap (k_2 + (1 : Int))) (s_1.length : Int)), ()), ())
        else
          none
      else
        none
  else
    none
theorem eq (s_1 : List Int) (k_2 : Int) : F (s_1, k_2, ()) = T s_1 k_2 := eq_any fun k => by kernel_rfl
theorem ok : CtxOK prog ctx := ⟨nilM, mixed_ok, tab_ok tab_good, consM ⟨spec_l00Own.S, nilM⟩, nilM, nilM⟩
theorem S : Sound prog ⟨184, sig, F⟩ := sound_k (res := [.tmp 4]) func184 ok
end spec_l05Drop
namespace spec_l05Ok
noncomputable def sig : Sig := ⟨[.rptr (.sl (.sl (.int .i64)))], [(.val false, .bool, .deep)]⟩
noncomputable def ctx : Ctx := ⟨tabOf tabl, [⟨101, spec_l05Find.sig, spec_l05Find.F⟩, ⟨182, spec_l05Simplex.sig, spec_l05Simplex.F⟩, ⟨183, spec_l05Before.sig, spec_l05Before.F⟩, ⟨184, spec_l05Drop.sig, spec_l05Drop.F⟩], [], [], [], []⟩
noncomputable def cfg : Cfg := ⟨ctx, [], [], fun id => match id with | 4 => ([0, 3], []) | 10 => ([0, 3, 4, 5], []) | _ => ([], []), fun _ => []⟩
noncomputable def code : Code := (f92).body.getD .skip
noncomputable def fin := finK ctx sig [.tmp 2]
noncomputable def F (d : List (List Int) × Unit) : Option ((Bool × Unit) × (Unit)) := anyK (runFn cfg fin code (initSt sig.ps d 65))
noncomputable def l4 (k : Nat) (x2 : List (List Int)) (i3 : Int) : Option ((Bool × Unit) × (Unit)) :=
  Go.Vm.runT cfg fin k [.inLoop (sub [1, 1, 0, 1, 0, 0] code), .inBlock 0, .code (sub [1, 1, 1] code)]
    ⟨[.rptr false [⟨(.sl (.sl (.int .i64))), .sh, x2⟩], .dead, .dead, .val false [⟨(.int .i64), .sh, i3⟩]] ++ deads 61, []⟩
noncomputable def l10 (k : Nat) (x6 : List (List Int)) (i7 : Int) (x8 : List Int) (i9 : Int) : Option ((Bool × Unit) × (Unit)) :=
  Go.Vm.runT cfg fin k [.inLoop (sub [1, 1, 0, 1, 0, 0, 1, 0, 0, 1, 1, 1, 0, 0] code), .inBlock 2, .inBlock 1, .code (sub [1, 1, 0, 1, 0, 0, 1, 1] code), .inLoop (sub [1, 1, 0, 1, 0, 0] code), .inBlock 0, .code (sub [1, 1, 1] code)]
    ⟨[.rptr false [⟨(.sl (.sl (.int .i64))), .sh, x6⟩], .dead, .dead, .val false [⟨(.int .i64), .sh, i7⟩], .val false [⟨(.sl (.int .i64)), .sh, x8⟩], .val false [⟨(.int .i64), .sh, i9⟩]] ++ deads 59, []⟩
theorem l4_eq (k : Nat) (x2 : List (List Int)) (i3 : Int) : l4 (k + 1) x2 i3 =
  if (decide (i3 < (x2.length : Int))) = true then
    if 0 ≤ i3 ∧ i3 < (x2.length : Int) then
      (spec_l05Simplex.F (x2.getD i3.toNat ([] : List Int), ())).bind fun r4 =>
        if (!(r4.1.1 : Bool)) = true then
          some ((false, ()), ())
        else
          if (decide (i3 > (0 : Int))) = true then
            if 0 ≤ (IntKind.i64.wrap (i3 - (1 : Int))) ∧ (IntKind.i64.wrap (i3 - (1 : Int))) < (x2.length : Int) then
              (spec_l05Before.F (x2.getD (IntKind.i64.wrap (i3 - (1 : Int))).toNat ([] : List Int), x2.getD i3.toNat ([] : List Int), ())).bind fun r5 =>
                if (!(r5.1.1 : Bool)) = true then
                  some ((false, ()), ())
                else
                  l10 k x2 i3 (x2.getD i3.toNat ([] : List Int)) (0 : Int)
            else
              none
          else
            l10 k x2 i3 (x2.getD i3.toNat ([] : List Int)) (0 : Int)
    else
      none
  else
    some ((true, ()), ()) := by kernel_rfl
theorem l10_eq (k : Nat) (x6 : List (List Int)) (i7 : Int) (x8 : List Int) (i9 : Int) : l10 (k + 1) x6 i7 x8 i9 =
  if (decide (i9 < (x8.length : Int))) = true then
    if (decide ((x8.length : Int) > (1 : Int))) = true then
      (spec_l05Drop.F (x8, i9, ())).bind fun r10 =>
        (spec_l05Find.F (x6, r10.1.1, ())).bind fun r11 =>
          if (decide ((r11.1.1 : Int) < (0 : Int))) = true then
            some ((false, ()), ())
          else
            l10 k x6 i7 x8 (IntKind.i64.wrap (i9 + (1 : Int)))
    else
      l4 k x6 (IntKind.i64.wrap (i7 + (1 : Int)))
  else
    l4 k x6 (IntKind.i64.wrap (i7 + (1 : Int))) := by kernel_rfl
noncomputable def T (k : Nat) (toArray_1 : List (List Int)) : Option ((Bool × Unit) × (Unit)) :=
  if (decide ((toArray_1.length : Int) > (48 : Int))) = true then
    some ((false, ()), ())
  else
    l4 k toArray_1 (0 : Int)
theorem of (toArray_1 : List (List Int)) {r : (Bool × Unit) × (Unit)} (h : Ev (fun k => T k toArray_1) r) : F (toArray_1, ()) = some r := Ev.run (fun k => by kernel_rfl) h
theorem ok : CtxOK prog ctx := ⟨nilM, mixed_ok, tab_ok tab_good, consM ⟨spec_l05Find.S, consM ⟨spec_l05Simplex.S, consM ⟨spec_l05Before.S, consM ⟨spec_l05Drop.S, nilM⟩⟩⟩⟩, nilM, nilM⟩
theorem S : Sound prog ⟨92, sig, F⟩ := sound_k (res := [.tmp 2]) func92 ok
end spec_l05Ok
namespace spec_l05Of
noncomputable def sig : Sig := ⟨[.rptr (.sl (.sl (.int .i64))), .val false (.int .i64)], [(.val false, (.sl (.int .i64)), .deep)]⟩
noncomputable def ctx : Ctx := ⟨tabOf tabl, [], [], [], [], []⟩
noncomputable def cfg : Cfg := ⟨ctx, [], [], fun id => match id with | 3 => ([0, 1, 5, 6], [20]) | _ => ([], []), fun _ => []⟩
noncomputable def code : Code := (f74).body.getD .skip
noncomputable def fin := finK ctx sig [.tmp 4]
noncomputable def F (d : List (List Int) × Int × Unit) : Option ((List Int × Unit) × (Unit)) := anyK (runFn cfg fin code (initSt sig.ps d 33))
noncomputable def l3 (k : Nat) (x3 : List (List Int)) (i4 : Int) (i5 : Int) (x6 : List Int) : Option ((List Int × Unit) × (Unit)) :=
  Go.Vm.runT cfg fin k [.inLoop (sub [1, 1, 0, 1, 0, 0] code), .inBlock 0, .code (sub [1, 1, 1] code)]
    ⟨[.rptr false [⟨(.sl (.sl (.int .i64))), .sh, x3⟩], .val false [⟨(.int .i64), .sh, i4⟩], .dead, .dead, .dead, .view 20 (.root 0) 1 false, .val false [⟨(.int .i64), .sh, i5⟩]] ++ deads 26, [(20, ⟨false, [⟨(.sl (.int .i64)), .deep, x6⟩]⟩)]⟩
theorem l3_eq (k : Nat) (x3 : List (List Int)) (i4 : Int) (i5 : Int) (x6 : List Int) : l3 (k + 1) x3 i4 i5 x6 =
  if (decide (i5 < (x3.length : Int))) = true then
    if 0 ≤ i5 ∧ i5 < (x3.length : Int) then
      if (((x3.getD i5.toNat ([] : List Int)).length : Int) == (IntKind.i64.wrap (i4 + (1 : Int)))) = true then
        if x6.length + ([i5] : List Int).length ≤ bigA then
          l3 k x3 i4 (IntKind.i64.wrap (i5 + (1 : Int))) (x6 ++ ([i5]))
        else
          none
      else
        l3 k x3 i4 (IntKind.i64.wrap (i5 + (1 : Int))) x6
    else
      none
  else
    some ((x6, ()), ()) := by kernel_rfl
noncomputable def T (k : Nat) (c_1 : List (List Int)) (dimension_2 : Int) : Option ((List Int × Unit) × (Unit)) :=
  l3 k c_1 dimension_2 (0 : Int) ([] : List Int)
theorem of (c_1 : List (List Int)) (dimension_2 : Int) {r : (List Int × Unit) × (Unit)} (h : Ev (fun k => T k c_1 dimension_2) r) : F (c_1, dimension_2, ()) = some r := Ev.run (fun k => by kernel_rfl) h
theorem ok : CtxOK prog ctx := ⟨nilM, mixed_ok, tab_ok tab_good, nilM, nilM, nilM⟩
theorem S : Sound prog ⟨74, sig, F⟩ := sound_k (res := [.tmp 4]) func74 ok
end spec_l05Of
namespace spec_l00Put
noncomputable def sig : Sig := ⟨[.val false (.sl (.int .i64)), .val false (.int .i64)], [(.val false, (.sl (.int .i64)), .deep)]⟩
noncomputable def ctx : Ctx := ⟨tabOf tabl, [], [], [], [], []⟩
noncomputable def cfg : Cfg := ⟨ctx, [], [], fun id => match id with | 4 => ([0, 1, 5, 6, 7], [20]) | _ => ([], []), fun _ => []⟩
noncomputable def code : Code := (f185).body.getD .skip
noncomputable def fin := finK ctx sig [.tmp 4]
noncomputable def F (d : List Int × Int × Unit) : Option ((List Int × Unit) × (Unit)) := anyK (runFn cfg fin code (initSt sig.ps d 49))
noncomputable def l4 (k : Nat) (x3 : List Int) (i4 : Int) (b5 : Bool) (i6 : Int) (x7 : List Int) : Option ((List Int × Unit) × (Unit)) :=
  Go.Vm.runT cfg fin k [.inLoop (sub [1, 1, 1, 0, 1, 0, 0] code), .inBlock 0, .code (sub [1, 1, 1, 1] code)]
    ⟨[.val false [⟨(.sl (.int .i64)), .sh, x3⟩], .val false [⟨(.int .i64), .sh, i4⟩], .dead, .dead, .dead, .view 20 (.root 0) 1 false, .val false [⟨.bool, .sh, b5⟩], .val false [⟨(.int .i64), .sh, i6⟩]] ++ deads 41, [(20, ⟨false, [⟨(.sl (.int .i64)), .deep, x7⟩]⟩)]⟩
theorem l4_eq (k : Nat) (x3 : List Int) (i4 : Int) (b5 : Bool) (i6 : Int) (x7 : List Int) : l4 (k + 1) x3 i4 b5 i6 x7 =
  if (decide (i6 < (x3.length : Int))) = true then
    if (!b5) = true then
      if 0 ≤ i6 ∧ i6 < (x3.length : Int) then
        if (decide ((x3.getD i6.toNat 0 : Int) ≥ i4)) = true then
          if 0 ≤ i6 ∧ i6 < (x3.length : Int) then
            if (decide ((x3.getD i6.toNat 0 : Int) > i4)) = true then
              if x7.length + ([i4] : List Int).length ≤ bigA then
                if 0 ≤ i6 ∧ i6 < (x3.length : Int) then
                  if (x7 ++ ([i4])).length + ([(x3.getD i6.toNat 0 : Int)] : List Int).length ≤ bigA then
                    l4 k x3 i4 true (IntKind.i64.wrap (i6 + (1 : Int))) ((x7 ++ ([i4])) ++ ([(x3.getD i6.toNat 0 : Int)]))
                  else
                    none
                else
                  none
              else
                none
            else
              if 0 ≤ i6 ∧ i6 < (x3.length : Int) then
                if x7.length + ([(x3.getD i6.toNat 0 : Int)] : List Int).length ≤ bigA then
                  l4 k x3 i4 true (IntKind.i64.wrap (i6 + (1 : Int))) (x7 ++ ([(x3.getD i6.toNat 0 : Int)]))
                else
                  none
              else
                none
          else
            none
        else
          if 0 ≤ i6 ∧ i6 < (x3.length : Int) then
            if x7.length + ([(x3.getD i6.toNat 0 : Int)] : List Int).length ≤ bigA then
              l4 k x3 i4 b5 (IntKind.i64.wrap (i6 + (1 : Int))) (x7 ++ ([(x3.getD i6.toNat 0 : Int)]))
            else
              none
          else
            none
      else
        none
    else
      if 0 ≤ i6 ∧ i6 < (x3.length : Int) then
        if x7.length + ([(x3.getD i6.toNat 0 : Int)] : List Int).length ≤ bigA then
          l4 k x3 i4 b5 (IntKind.i64.wrap (i6 + (1 : Int))) (x7 ++ ([(x3.getD i6.toNat 0 : Int)]))
        else
          none
      else
        none
  else
    if (!b5) = true then
      if x7.length + ([i4] : List Int).length ≤ bigA then
        some ((x7 ++ ([i4]), ()), ())
      else
        none
    else
      some ((x7, ()), ()) := by kernel_rfl
noncomputable def T (k : Nat) (list_1 : List Int) (n_2 : Int) : Option ((List Int × Unit) × (Unit)) :=
  l4 k list_1 n_2 false (0 : Int) ([] : List Int)
theorem of (list_1 : List Int) (n_2 : Int) {r : (List Int × Unit) × (Unit)} (h : Ev (fun k => T k list_1 n_2) r) : F (list_1, n_2, ()) = some r := Ev.run (fun k => by kernel_rfl) h
theorem ok : CtxOK prog ctx := ⟨nilM, mixed_ok, tab_ok tab_good, nilM, nilM, nilM⟩
theorem S : Sound prog ⟨185, sig, F⟩ := sound_k (res := [.tmp 4]) func185 ok
end spec_l00Put
namespace spec_l13Image
noncomputable def sig : Sig := ⟨[.rptr (.sl (.sl (.int .i64))), .val false (.sl (.int .i64)), .val false (.sl (.int .i64))], [(.val false, (.sl (.int .i64)), .deep)]⟩
noncomputable def ctx : Ctx := ⟨tabOf tabl, [⟨101, spec_l05Find.sig, spec_l05Find.F⟩, ⟨185, spec_l00Put.sig, spec_l00Put.F⟩], [], [], [], []⟩
noncomputable def cfg : Cfg := ⟨ctx, [], [], fun id => match id with | 3 => ([0, 1, 2, 7, 8], [28]) | _ => ([], []), fun _ => []⟩
noncomputable def code : Code := (f95).body.getD .skip
noncomputable def fin := finK ctx sig [.tmp 6]
noncomputable def F (d : List (List Int) × List Int × List Int × Unit) : Option ((List Int × Unit) × (Unit)) := anyK (runFn cfg fin code (initSt sig.ps d 29))
noncomputable def l3 (k : Nat) (x4 : List (List Int)) (x5 : List Int) (x6 : List Int) (i7 : Int) (x8 : List Int) : Option ((List Int × Unit) × (Unit)) :=
  Go.Vm.runT cfg fin k [.inLoop (sub [1, 1, 0, 1, 0, 0] code), .inBlock 0, .code (sub [1, 1, 1] code)]
    ⟨[.rptr false [⟨(.sl (.sl (.int .i64))), .sh, x4⟩], .val false [⟨(.sl (.int .i64)), .sh, x5⟩], .val false [⟨(.sl (.int .i64)), .sh, x6⟩], .dead, .dead, .dead, .dead, .view 28 (.root 0) 1 false, .val false [⟨(.int .i64), .sh, i7⟩]] ++ deads 20, [(28, ⟨false, [⟨(.sl (.int .i64)), .deep, x8⟩]⟩)]⟩
theorem l3_eq (k : Nat) (x4 : List (List Int)) (x5 : List Int) (x6 : List Int) (i7 : Int) (x8 : List Int) : l3 (k + 1) x4 x5 x6 i7 x8 =
  if (decide (i7 < (x6.length : Int))) = true then
    if 0 ≤ i7 ∧ i7 ≤ (IntKind.i64.wrap (i7 + (1 : Int))) ∧ (IntKind.i64.wrap (i7 + (1 : Int))) ≤ (x6.length : Int) then
      (spec_l05Find.F (x4, cutL x6 i7 (IntKind.i64.wrap (i7 + (1 : Int))), ())).bind fun r9 =>
        if 0 ≤ (r9.1.1 : Int) ∧ (r9.1.1 : Int) < (x5.length : Int) then
          (spec_l00Put.F (x8, x5.getD (r9.1.1 : Int).toNat 0, ())).bind fun r10 =>
            l3 k x4 x5 x6 (IntKind.i64.wrap (i7 + (1 : Int))) r10.1.1
        else
          none
    else
      none
  else
    some ((x8, ()), ()) := by kernel_rfl
noncomputable def T (k : Nat) (c_1 : List (List Int)) (images_2 : List Int) (s_3 : List Int) : Option ((List Int × Unit) × (Unit)) :=
  l3 k c_1 images_2 s_3 (0 : Int) ([] : List Int)
theorem of (c_1 : List (List Int)) (images_2 : List Int) (s_3 : List Int) {r : (List Int × Unit) × (Unit)} (h : Ev (fun k => T k c_1 images_2 s_3) r) : F (c_1, images_2, s_3, ()) = some r := Ev.run (fun k => by kernel_rfl) h
theorem ok : CtxOK prog ctx := ⟨nilM, mixed_ok, tab_ok tab_good, consM ⟨spec_l05Find.S, consM ⟨spec_l00Put.S, nilM⟩⟩, nilM, nilM⟩
theorem S : Sound prog ⟨95, sig, F⟩ := sound_k (res := [.tmp 6]) func95 ok
end spec_l13Image
namespace spec_l13Map
noncomputable def sig : Sig := ⟨[.rptr (.sl (.sl (.int .i64))), .rptr (.sl (.sl (.int .i64))), .val false (.sl (.int .i64))], [(.val false, .bool, .deep)]⟩
noncomputable def ctx : Ctx := ⟨tabOf tabl, [⟨74, spec_l05Of.sig, spec_l05Of.F⟩, ⟨95, spec_l13Image.sig, spec_l13Image.F⟩, ⟨101, spec_l05Find.sig, spec_l05Find.F⟩], [], [], [], []⟩
noncomputable def cfg : Cfg := ⟨ctx, [], [], fun id => match id with | 4 => ([0, 1, 2, 7], []) | _ => ([], []), fun _ => []⟩
noncomputable def code : Code := (f93).body.getD .skip
noncomputable def fin := finK ctx sig [.tmp 6]
noncomputable def F (d : List (List Int) × List (List Int) × List Int × Unit) : Option ((Bool × Unit) × (Unit)) := anyK (runFn cfg fin code (initSt sig.ps d 36))
noncomputable def l4 (k : Nat) (x5 : List (List Int)) (x6 : List (List Int)) (x7 : List Int) (i8 : Int) : Option ((Bool × Unit) × (Unit)) :=
  Go.Vm.runT cfg fin k [.inLoop (sub [1, 1, 0, 1, 0, 0] code), .inBlock 0, .code (sub [1, 1, 1] code)]
    ⟨[.rptr false [⟨(.sl (.sl (.int .i64))), .sh, x5⟩], .rptr false [⟨(.sl (.sl (.int .i64))), .sh, x6⟩], .val false [⟨(.sl (.int .i64)), .sh, x7⟩], .dead, .dead, .dead, .dead, .val false [⟨(.int .i64), .sh, i8⟩]] ++ deads 28, []⟩
theorem l4_eq (k : Nat) (x5 : List (List Int)) (x6 : List (List Int)) (x7 : List Int) (i8 : Int) : l4 (k + 1) x5 x6 x7 i8 =
  if (decide (i8 < (x5.length : Int))) = true then
    if 0 ≤ i8 ∧ i8 < (x5.length : Int) then
      (spec_l13Image.F (x5, x7, x5.getD i8.toNat ([] : List Int), ())).bind fun r9 =>
        (spec_l05Find.F (x6, r9.1.1, ())).bind fun r10 =>
          if (decide ((r10.1.1 : Int) < (0 : Int))) = true then
            some ((false, ()), ())
          else
            l4 k x5 x6 x7 (IntKind.i64.wrap (i8 + (1 : Int)))
    else
      none
  else
    some ((true, ()), ()) := by kernel_rfl
noncomputable def T (k : Nat) (c_1 : List (List Int)) (base_2 : List (List Int)) (images_3 : List Int) : Option ((Bool × Unit) × (Unit)) :=
  (spec_l05Of.F (c_1, (0 : Int), ())).bind fun r4 =>
    if ((images_3.length : Int) != (r4.1.1.length : Int)) = true then
      some ((false, ()), ())
    else
      l4 k c_1 base_2 images_3 (0 : Int)
theorem of (c_1 : List (List Int)) (base_2 : List (List Int)) (images_3 : List Int) {r : (Bool × Unit) × (Unit)} (h : Ev (fun k => T k c_1 base_2 images_3) r) : F (c_1, base_2, images_3, ()) = some r := Ev.run (fun k => by kernel_rfl) h
theorem ok : CtxOK prog ctx := ⟨nilM, mixed_ok, tab_ok tab_good, consM ⟨spec_l05Of.S, consM ⟨spec_l13Image.S, consM ⟨spec_l05Find.S, nilM⟩⟩⟩, nilM, nilM⟩
theorem S : Sound prog ⟨93, sig, F⟩ := sound_k (res := [.tmp 6]) func93 ok
end spec_l13Map
namespace spec_l09Place
noncomputable def sig : Sig := ⟨[.rptr (.sl (.sl (.int .i64))), .val false (.int .i64), .val false (.int .i64)], [(.val false, (.int .i64), .deep)]⟩
noncomputable def ctx : Ctx := ⟨tabOf tabl, [], [], [], [], []⟩
noncomputable def cfg : Cfg := ⟨ctx, [], [], fun id => match id with | 3 => ([0, 1, 2, 7, 8], []) | _ => ([], []), fun _ => []⟩
noncomputable def code : Code := (f117).body.getD .skip
noncomputable def fin := finK ctx sig [.tmp 6]
noncomputable def F (d : List (List Int) × Int × Int × Unit) : Option ((Int × Unit) × (Unit)) := anyK (runFn cfg fin code (initSt sig.ps d 36))
noncomputable def l3 (k : Nat) (x4 : List (List Int)) (i5 : Int) (i6 : Int) (i7 : Int) (i8 : Int) : Option ((Int × Unit) × (Unit)) :=
  Go.Vm.runT cfg fin k [.inLoop (sub [1, 1, 0, 1, 0, 0] code), .inBlock 0, .code (sub [1, 1, 1] code)]
    ⟨[.rptr false [⟨(.sl (.sl (.int .i64))), .sh, x4⟩], .val false [⟨(.int .i64), .sh, i5⟩], .val false [⟨(.int .i64), .sh, i6⟩], .dead, .dead, .dead, .dead, .val false [⟨(.int .i64), .sh, i7⟩], .val false [⟨(.int .i64), .sh, i8⟩]] ++ deads 27, []⟩
theorem l3_eq (k : Nat) (x4 : List (List Int)) (i5 : Int) (i6 : Int) (i7 : Int) (i8 : Int) : l3 (k + 1) x4 i5 i6 i7 i8 =
  if (decide (i8 < i5)) = true then
    if 0 ≤ i8 ∧ i8 < (x4.length : Int) then
      if (decide (((x4.getD i8.toNat ([] : List Int)).length : Int) > (1 : Int))) = true then
        if 0 ≤ i8 ∧ i8 < (x4.length : Int) then
          l3 k x4 i5 i6 (IntKind.i64.wrap (i7 + ((x4.getD i8.toNat ([] : List Int)).length : Int))) (IntKind.i64.wrap (i8 + (1 : Int)))
        else
          none
      else
        l3 k x4 i5 i6 i7 (IntKind.i64.wrap (i8 + (1 : Int)))
    else
      none
  else
    some ((IntKind.i64.wrap (i7 + i6), ()), ()) := by kernel_rfl
noncomputable def T (k : Nat) (c_1 : List (List Int)) (simplex_2 : Int) (i_3 : Int) : Option ((Int × Unit) × (Unit)) :=
  l3 k c_1 simplex_2 i_3 (0 : Int) (0 : Int)
theorem of (c_1 : List (List Int)) (simplex_2 : Int) (i_3 : Int) {r : (Int × Unit) × (Unit)} (h : Ev (fun k => T k c_1 simplex_2 i_3) r) : F (c_1, simplex_2, i_3, ()) = some r := Ev.run (fun k => by kernel_rfl) h
theorem ok : CtxOK prog ctx := ⟨nilM, mixed_ok, tab_ok tab_good, nilM, nilM, nilM⟩
theorem S : Sound prog ⟨117, sig, F⟩ := sound_k (res := [.tmp 6]) func117 ok
end spec_l09Place
namespace spec_l03Column
noncomputable def sig : Sig := ⟨[.val false (.sl (.int .i64)), .val false (.int .i64), .val false (.int .i64)], [(.val false, .bool, .deep)]⟩
noncomputable def ctx : Ctx := ⟨tabOf tabl, [⟨176, spec_l00In.sig, spec_l00In.F⟩], [], [], [], []⟩
noncomputable def cfg : Cfg := ⟨ctx, [], [], fun id => match id with | 2 => ([0, 1, 2, 7], []) | _ => ([], []), fun _ => []⟩
noncomputable def code : Code := (f99).body.getD .skip
noncomputable def fin := finK ctx sig [.tmp 6]
noncomputable def F (d : List Int × Int × Int × Unit) : Option ((Bool × Unit) × (Unit)) := anyK (runFn cfg fin code (initSt sig.ps d 26))
noncomputable def l2 (k : Nat) (x4 : List Int) (i5 : Int) (i6 : Int) (i7 : Int) : Option ((Bool × Unit) × (Unit)) :=
  Go.Vm.runT cfg fin k [.inLoop (sub [1, 0, 1, 0, 0] code), .inBlock 0, .code (sub [1, 1] code)]
    ⟨[.val false [⟨(.sl (.int .i64)), .sh, x4⟩], .val false [⟨(.int .i64), .sh, i5⟩], .val false [⟨(.int .i64), .sh, i6⟩], .dead, .dead, .dead, .dead, .val false [⟨(.int .i64), .sh, i7⟩]] ++ deads 18, []⟩
theorem l2_eq (k : Nat) (x4 : List Int) (i5 : Int) (i6 : Int) (i7 : Int) : l2 (k + 1) x4 i5 i6 i7 =
  if (decide (i7 < (x4.length : Int))) = true then
    if 0 ≤ i7 ∧ i7 < (x4.length : Int) then
      (spec_l00In.F ((x4.getD i7.toNat 0 : Int), (0 : Int), IntKind.i64.wrap (i6 - (1 : Int)), ())).bind fun r8 =>
        if (!(r8.1.1 : Bool)) = true then
          some ((false, ()), ())
        else
          l2 k x4 i5 i6 (IntKind.i64.wrap (i7 + (1 : Int)))
    else
      none
  else
    some (((x4.length : Int) == i5, ()), ()) := by kernel_rfl
noncomputable def T (k : Nat) (v_1 : List Int) (n_2 : Int) (p_3 : Int) : Option ((Bool × Unit) × (Unit)) :=
  l2 k v_1 n_2 p_3 (0 : Int)
theorem of (v_1 : List Int) (n_2 : Int) (p_3 : Int) {r : (Bool × Unit) × (Unit)} (h : Ev (fun k => T k v_1 n_2 p_3) r) : F (v_1, n_2, p_3, ()) = some r := Ev.run (fun k => by kernel_rfl) h
theorem ok : CtxOK prog ctx := ⟨nilM, mixed_ok, tab_ok tab_good, consM ⟨spec_l00In.S, nilM⟩, nilM, nilM⟩
theorem S : Sound prog ⟨99, sig, F⟩ := sound_k (res := [.tmp 6]) func99 ok
end spec_l03Column
namespace spec_l09Sum
noncomputable def sig : Sig := ⟨[.rptr (.sl (.sl (.int .i64))), .val false (.sl (.int .i64)), .val false (.int .i64)], [(.val false, (.int .i64), .deep)]⟩
noncomputable def ctx : Ctx := ⟨tabOf tabl, [⟨74, spec_l05Of.sig, spec_l05Of.F⟩], [], [], [], []⟩
noncomputable def cfg : Cfg := ⟨ctx, [], [], fun id => match id with | 4 => ([1, 7, 8, 9], [28]) | _ => ([], []), fun _ => []⟩
noncomputable def code : Code := (f100).body.getD .skip
noncomputable def fin := finK ctx sig [.tmp 6]
noncomputable def F (d : List (List Int) × List Int × Int × Unit) : Option ((Int × Unit) × (Unit)) := anyK (runFn cfg fin code (initSt sig.ps d 29))
noncomputable def l4 (k : Nat) (x5 : List Int) (i6 : Int) (i7 : Int) (x8 : List Int) : Option ((Int × Unit) × (Unit)) :=
  Go.Vm.runT cfg fin k [.inLoop (sub [1, 1, 1, 0, 1, 0, 0] code), .inBlock 0, .code (sub [1, 1, 1, 1] code)]
    ⟨[.dead, .val false [⟨(.sl (.int .i64)), .sh, x5⟩], .dead, .dead, .dead, .dead, .dead, .view 28 (.root 0) 1 false, .val false [⟨(.int .i64), .sh, i6⟩], .val false [⟨(.int .i64), .sh, i7⟩]] ++ deads 19, [(28, ⟨false, [⟨(.sl (.int .i64)), .deep, x8⟩]⟩)]⟩
theorem l4_eq (k : Nat) (x5 : List Int) (i6 : Int) (i7 : Int) (x8 : List Int) : l4 (k + 1) x5 i6 i7 x8 =
  if (decide (i7 < (x8.length : Int))) = true then
    if 0 ≤ i7 ∧ i7 < (x8.length : Int) then
      if 0 ≤ (x8.getD i7.toNat 0 : Int) ∧ (x8.getD i7.toNat 0 : Int) < (x5.length : Int) then
        l4 k x5 (IntKind.i64.wrap (i6 + (x5.getD (x8.getD i7.toNat 0 : Int).toNat 0))) (IntKind.i64.wrap (i7 + (1 : Int))) x8
      else
        none
    else
      none
  else
    some ((i6, ()), ()) := by kernel_rfl
noncomputable def T (k : Nat) (c_1 : List (List Int)) (stalks_2 : List Int) (k_3 : Int) : Option ((Int × Unit) × (Unit)) :=
  (spec_l05Of.F (c_1, k_3, ())).bind fun r4 =>
    l4 k stalks_2 (0 : Int) (0 : Int) r4.1.1
theorem of (c_1 : List (List Int)) (stalks_2 : List Int) (k_3 : Int) {r : (Int × Unit) × (Unit)} (h : Ev (fun k => T k c_1 stalks_2 k_3) r) : F (c_1, stalks_2, k_3, ()) = some r := Ev.run (fun k => by kernel_rfl) h
theorem ok : CtxOK prog ctx := ⟨nilM, mixed_ok, tab_ok tab_good, consM ⟨spec_l05Of.S, nilM⟩, nilM, nilM⟩
theorem S : Sound prog ⟨100, sig, F⟩ := sound_k (res := [.tmp 6]) func100 ok
end spec_l09Sum
namespace spec_l09Stalks
noncomputable def sig : Sig := ⟨[.rptr (.sl (.sl (.int .i64))), .val false (.sl (.int .i64))], [(.val false, .bool, .deep)]⟩
noncomputable def ctx : Ctx := ⟨tabOf tabl, [⟨99, spec_l03Column.sig, spec_l03Column.F⟩, ⟨100, spec_l09Sum.sig, spec_l09Sum.F⟩], [], [], [], []⟩
noncomputable def cfg : Cfg := ⟨ctx, [], [], fun id => match id with | 4 => ([0, 1, 5], []) | _ => ([], []), fun _ => []⟩
noncomputable def code : Code := (f129).body.getD .skip
noncomputable def fin := finK ctx sig [.tmp 4]
noncomputable def F (d : List (List Int) × List Int × Unit) : Option ((Bool × Unit) × (Unit)) := anyK (runFn cfg fin code (initSt sig.ps d 23))
noncomputable def l4 (k : Nat) (x4 : List (List Int)) (x5 : List Int) (i6 : Int) : Option ((Bool × Unit) × (Unit)) :=
  Go.Vm.runT cfg fin k [.inLoop (sub [1, 1, 0, 1, 0, 0] code), .inBlock 0, .code (sub [1, 1, 1] code)]
    ⟨[.rptr false [⟨(.sl (.sl (.int .i64))), .sh, x4⟩], .val false [⟨(.sl (.int .i64)), .sh, x5⟩], .dead, .dead, .dead, .val false [⟨(.int .i64), .sh, i6⟩]] ++ deads 17, []⟩
theorem l4_eq (k : Nat) (x4 : List (List Int)) (x5 : List Int) (i6 : Int) : l4 (k + 1) x4 x5 i6 =
  if (decide (i6 ≤ (3 : Int))) = true then
    (spec_l09Sum.F (x4, x5, i6, ())).bind fun r7 =>
      if (decide ((r7.1.1 : Int) > (32 : Int))) = true then
        some ((false, ()), ())
      else
        l4 k x4 x5 (IntKind.i64.wrap (i6 + (1 : Int)))
  else
    some ((true, ()), ()) := by kernel_rfl
noncomputable def T (k : Nat) (c_1 : List (List Int)) (stalks_2 : List Int) : Option ((Bool × Unit) × (Unit)) :=
  (spec_l03Column.F (stalks_2, (c_1.length : Int), (4 : Int), ())).bind fun r3 =>
    if (!(r3.1.1 : Bool)) = true then
      some ((false, ()), ())
    else
      l4 k c_1 stalks_2 (0 : Int)
theorem of (c_1 : List (List Int)) (stalks_2 : List Int) {r : (Bool × Unit) × (Unit)} (h : Ev (fun k => T k c_1 stalks_2) r) : F (c_1, stalks_2, ()) = some r := Ev.run (fun k => by kernel_rfl) h
theorem ok : CtxOK prog ctx := ⟨nilM, mixed_ok, tab_ok tab_good, consM ⟨spec_l03Column.S, consM ⟨spec_l09Sum.S, nilM⟩⟩, nilM, nilM⟩
theorem S : Sound prog ⟨129, sig, F⟩ := sound_k (res := [.tmp 4]) func129 ok
end spec_l09Stalks
namespace spec_l02Prime
noncomputable def sig : Sig := ⟨[.val false (.int .i64)], [(.val false, .bool, .deep)]⟩
noncomputable def ctx : Ctx := ⟨tabOf tabl, [⟨176, spec_l00In.sig, spec_l00In.F⟩], [], [], [], []⟩
noncomputable def cfg : Cfg := ⟨ctx, [], [], fun id => match id with | 4 => ([0, 3], []) | _ => ([], []), fun _ => []⟩
noncomputable def code : Code := (f286).body.getD .skip
noncomputable def fin := finK ctx sig [.tmp 2]
noncomputable def F (d : Int × Unit) : Option ((Bool × Unit) × (Unit)) := anyK (runFn cfg fin code (initSt sig.ps d 18))
noncomputable def l4 (k : Nat) (i3 : Int) (i4 : Int) : Option ((Bool × Unit) × (Unit)) :=
  Go.Vm.runT cfg fin k [.inLoop (sub [1, 1, 0, 1, 0, 0] code), .inBlock 0, .code (sub [1, 1, 1] code)]
    ⟨[.val false [⟨(.int .i64), .sh, i3⟩], .dead, .dead, .val false [⟨(.int .i64), .sh, i4⟩]] ++ deads 14, []⟩
theorem l4_eq (k : Nat) (i3 : Int) (i4 : Int) : l4 (k + 1) i3 i4 =
  if (decide ((IntKind.i64.wrap (i4 * i4)) ≤ i3)) = true then
    if i4 = 0 then
      none
    else
      if ((i3.tmod i4) == (0 : Int)) = true then
        some ((false, ()), ())
      else
        l4 k i3 (IntKind.i64.wrap (i4 + (1 : Int)))
  else
    some ((true, ()), ()) := by kernel_rfl
noncomputable def T (k : Nat) (p_1 : Int) : Option ((Bool × Unit) × (Unit)) :=
  (spec_l00In.F (p_1, (2 : Int), (251 : Int), ())).bind fun r2 =>
    if (!(r2.1.1 : Bool)) = true then
      some ((false, ()), ())
    else
      l4 k p_1 (2 : Int)
theorem of (p_1 : Int) {r : (Bool × Unit) × (Unit)} (h : Ev (fun k => T k p_1) r) : F (p_1, ()) = some r := Ev.run (fun k => by kernel_rfl) h
theorem ok : CtxOK prog ctx := ⟨nilM, mixed_ok, tab_ok tab_good, consM ⟨spec_l00In.S, nilM⟩, nilM, nilM⟩
theorem S : Sound prog ⟨286, sig, F⟩ := sound_k (res := [.tmp 2]) func286 ok
end spec_l02Prime
namespace spec_ValidPrime
noncomputable def sig : Sig := ⟨[.val false (.int .i64)], [(.val false, .bool, .deep)]⟩
noncomputable def ctx : Ctx := ⟨tabOf tabl, [⟨286, spec_l02Prime.sig, spec_l02Prime.F⟩], [], [], [], []⟩
noncomputable def cfg : Cfg := ⟨ctx, [], [], fun _ => ([], []), fun _ => []⟩
noncomputable def code : Code := (f250).body.getD .skip
noncomputable def fin := finK ctx sig [.tmp 2]
noncomputable def F (d : Int × Unit) : Option ((Bool × Unit) × (Unit)) := anyK (runFn cfg fin code (initSt sig.ps d 5))
noncomputable def T (p_1 : Int) : Option ((Bool × Unit) × (Unit)) :=
  (spec_l02Prime.F (p_1, ())).bind fun r2 =>
    some (((r2.1.1 : Bool), ()), ())
theorem eq (p_1 : Int) : F (p_1, ()) = T p_1 := eq_any fun k => by kernel_rfl
theorem ok : CtxOK prog ctx := ⟨nilM, mixed_ok, tab_ok tab_good, consM ⟨spec_l02Prime.S, nilM⟩, nilM, nilM⟩
theorem S : Sound prog ⟨250, sig, F⟩ := sound_k (res := [.tmp 2]) func250 ok
end spec_ValidPrime
namespace spec_l09Count
noncomputable def sig : Sig := ⟨[.rptr (.sl (.sl (.int .i64)))], [(.val false, (.int .i64), .deep)]⟩
noncomputable def ctx : Ctx := ⟨tabOf tabl, [⟨117, spec_l09Place.sig, spec_l09Place.F⟩], [], [], [], []⟩
noncomputable def cfg : Cfg := ⟨ctx, [], [], fun _ => ([], []), fun _ => []⟩
noncomputable def code : Code := (f260).body.getD .skip
noncomputable def fin := finK ctx sig [.tmp 2]
noncomputable def F (d : List (List Int) × Unit) : Option ((Int × Unit) × (Unit)) := anyK (runFn cfg fin code (initSt sig.ps d 10))
noncomputable def T (c_1 : List (List Int)) : Option ((Int × Unit) × (Unit)) :=
  (spec_l09Place.F (c_1, (c_1.length : Int), (0 : Int), ())).bind fun r2 =>
    some (((r2.1.1 : Int), ()), ())
theorem eq (c_1 : List (List Int)) : F (c_1, ()) = T c_1 := eq_any fun k => by kernel_rfl
theorem ok : CtxOK prog ctx := ⟨nilM, mixed_ok, tab_ok tab_good, consM ⟨spec_l09Place.S, nilM⟩, nilM, nilM⟩
theorem S : Sound prog ⟨260, sig, F⟩ := sound_k (res := [.tmp 2]) func260 ok
end spec_l09Count
namespace spec_l05Faces
noncomputable def sig : Sig := ⟨[.rptr (.sl (.sl (.int .i64))), .val false (.int .i64)], [(.val false, (.sl (.int .i64)), .deep)]⟩
noncomputable def ctx : Ctx := ⟨tabOf tabl, [⟨101, spec_l05Find.sig, spec_l05Find.F⟩, ⟨184, spec_l05Drop.sig, spec_l05Drop.F⟩], [], [], [], []⟩
noncomputable def cfg : Cfg := ⟨ctx, [], [], fun id => match id with | 4 => ([0, 5, 6, 7], [24]) | _ => ([], []), fun _ => []⟩
noncomputable def code : Code := (f115).body.getD .skip
noncomputable def fin := finK ctx sig [.tmp 4]
noncomputable def F (d : List (List Int) × Int × Unit) : Option ((List Int × Unit) × (Unit)) := anyK (runFn cfg fin code (initSt sig.ps d 36))
noncomputable def l4 (k : Nat) (x3 : List (List Int)) (x4 : List Int) (i5 : Int) (x6 : List Int) : Option ((List Int × Unit) × (Unit)) :=
  Go.Vm.runT cfg fin k [.inLoop (sub [1, 1, 1, 0, 1, 0, 0] code), .inBlock 0, .code (sub [1, 1, 1, 1] code)]
    ⟨[.rptr false [⟨(.sl (.sl (.int .i64))), .sh, x3⟩], .dead, .dead, .dead, .dead, .val false [⟨(.sl (.int .i64)), .sh, x4⟩], .view 24 (.root 0) 1 false, .val false [⟨(.int .i64), .sh, i5⟩]] ++ deads 28, [(24, ⟨false, [⟨(.sl (.int .i64)), .deep, x6⟩]⟩)]⟩
theorem l4_eq (k : Nat) (x3 : List (List Int)) (x4 : List Int) (i5 : Int) (x6 : List Int) : l4 (k + 1) x3 x4 i5 x6 =
  if (decide (i5 < (x4.length : Int))) = true then
    if (decide ((x4.length : Int) > (1 : Int))) = true then
      (spec_l05Drop.F (x4, i5, ())).bind fun r7 =>
        (spec_l05Find.F (x3, r7.1.1, ())).bind fun r8 =>
          if x6.length + ([(r8.1.1 : Int)] : List Int).length ≤ bigA then
            l4 k x3 x4 (IntKind.i64.wrap (i5 + (1 : Int))) (x6 ++ ([(r8.1.1 : Int)]))
          else
            none
    else
      some ((x6, ()), ())
  else
    some ((x6, ()), ()) := by kernel_rfl
noncomputable def T (k : Nat) (c_1 : List (List Int)) (k_2 : Int) : Option ((List Int × Unit) × (Unit)) :=
  if 0 ≤ k_2 ∧ k_2 < (c_1.length : Int) then
    l4 k c_1 (c_1.getD k_2.toNat ([] : List Int)) (0 : Int) ([] : List Int)
  else
    none
theorem of (c_1 : List (List Int)) (k_2 : Int) {r : (List Int × Unit) × (Unit)} (h : Ev (fun k => T k c_1 k_2) r) : F (c_1, k_2, ()) = some r := Ev.run (fun k => by kernel_rfl) h
theorem ok : CtxOK prog ctx := ⟨nilM, mixed_ok, tab_ok tab_good, consM ⟨spec_l05Find.S, consM ⟨spec_l05Drop.S, nilM⟩⟩, nilM, nilM⟩
theorem S : Sound prog ⟨115, sig, F⟩ := sound_k (res := [.tmp 4]) func115 ok
end spec_l05Faces
namespace spec_l03Ok
noncomputable def sig : Sig := ⟨[.rptr TMatrix], [(.val false, .bool, .deep)]⟩
noncomputable def ctx : Ctx := ⟨tabOf tabl, [⟨99, spec_l03Column.sig, spec_l03Column.F⟩, ⟨176, spec_l00In.sig, spec_l00In.F⟩, ⟨250, spec_ValidPrime.sig, spec_ValidPrime.F⟩], [], [], [], []⟩
noncomputable def cfg : Cfg := ⟨ctx, [], [], fun _ => ([], []), fun _ => []⟩
noncomputable def code : Code := (f233).body.getD .skip
noncomputable def fin := finK ctx sig [.tmp 2]
noncomputable def F (d : (Int × Int × Int × List Int) × Unit) : Option ((Bool × Unit) × (Unit)) := anyK (runFn cfg fin code (initSt sig.ps d 42))
noncomputable def T (m_1 : Int) (m_2 : Int) (m_3 : Int) (m_4 : List Int) : Option ((Bool × Unit) × (Unit)) :=
  (spec_ValidPrime.F (m_1, ())).bind fun r5 =>
    if (r5.1.1 : Bool) = true then
      (spec_l00In.F (m_2, (0 : Int), (32 : Int), ())).bind fun r6 =>
        if (r6.1.1 : Bool) = true then
          (spec_l00In.F (m_3, (0 : Int), (32 : Int), ())).bind fun r7 =>
            if (r7.1.1 : Bool) = true then
              (spec_l03Column.F (m_4, IntKind.i64.wrap (m_2 * m_3), m_1, ())).bind fun r8 =>
                some (((r8.1.1 : Bool), ()), ())
            else
              some ((false, ()), ())
        else
          some ((false, ()), ())
    else
      some ((false, ()), ())
theorem eq (m_1 : Int) (m_2 : Int) (m_3 : Int) (m_4 : List Int) : F ((m_1, (m_2, (m_3, m_4))), ()) = T m_1 m_2 m_3 m_4 := eq_any fun k => by kernel_rfl
theorem ok : CtxOK prog ctx := ⟨nilM, mixed_ok, tab_ok tab_good, consM ⟨spec_l03Column.S, consM ⟨spec_l00In.S, consM ⟨spec_ValidPrime.S, nilM⟩⟩⟩, nilM, nilM⟩
theorem S : Sound prog ⟨233, sig, F⟩ := sound_k (res := [.tmp 2]) func233 ok
end spec_l03Ok
namespace spec_l09Map
noncomputable def sig : Sig := ⟨[.rptr TSheaf, .val false (.int .i64), .val false (.int .i64), .rptr TMatrix], [(.val false, .bool, .deep)]⟩
noncomputable def ctx : Ctx := ⟨tabOf tabl, [⟨115, spec_l05Faces.sig, spec_l05Faces.F⟩, ⟨233, spec_l03Ok.sig, spec_l03Ok.F⟩], [], [], [], []⟩
noncomputable def cfg : Cfg := ⟨ctx, [], [], fun _ => ([], []), fun _ => []⟩
noncomputable def code : Code := (f261).body.getD .skip
noncomputable def fin := finK ctx sig [.tmp 8]
noncomputable def F (d : (List (List Int) × Int × List Int × List (Int × Int × Int × List Int)) × Int × Int × (Int × Int × Int × List Int) × Unit) : Option ((Bool × Unit) × (Unit)) := anyK (runFn cfg fin code (initSt sig.ps d 59))
noncomputable def T (s_1 : List (List Int)) (s_2 : Int) (s_3 : List Int) (s_4 : List (Int × Int × Int × List Int)) (simplex_5 : Int) (i_6 : Int) (m_7 : Int) (m_8 : Int) (m_9 : Int) (m_10 : List Int) : Option ((Bool × Unit) × (Unit)) :=
  (spec_l05Faces.F (s_1, simplex_5, ())).bind fun r11 =>
    if 0 ≤ i_6 ∧ i_6 < (r11.1.1.length : Int) then
      (spec_l03Ok.F ((m_7, (m_8, (m_9, m_10))), ())).bind fun r12 =>
        if (r12.1.1 : Bool) = true then
          if (m_7 == s_2) = true then
            if 0 ≤ simplex_5 ∧ simplex_5 < (s_3.length : Int) then
              if (m_8 == (s_3.getD simplex_5.toNat 0 : Int)) = true then
                if 0 ≤ (r11.1.1.getD i_6.toNat 0 : Int) ∧ (r11.1.1.getD i_6.toNat 0 : Int) < (s_3.length : Int) then
                  some ((m_9 == (s_3.getD (r11.1.1.getD i_6.toNat 0 : Int).toNat 0), ()), ())
                else
                  none
              else
                some ((false, ()), ())
            else
              none
          else
            some ((false, ()), ())
        else
          some ((false, ()), ())
    else
      none
theorem eq (s_1 : List (List Int)) (s_2 : Int) (s_3 : List Int) (s_4 : List (Int × Int × Int × List Int)) (simplex_5 : Int) (i_6 : Int) (m_7 : Int) (m_8 : Int) (m_9 : Int) (m_10 : List Int) : F ((s_1, (s_2, (s_3, s_4))), simplex_5, i_6, (m_7, (m_8, (m_9, m_10))), ()) = T s_1 s_2 s_3 s_4 simplex_5 i_6 m_7 m_8 m_9 m_10 := eq_any fun k => by kernel_rfl
theorem ok : CtxOK prog ctx := ⟨nilM, mixed_ok, tab_ok tab_good, consM ⟨spec_l05Faces.S, consM ⟨spec_l03Ok.S, nilM⟩⟩, nilM, nilM⟩
theorem S : Sound prog ⟨261, sig, F⟩ := sound_k (res := [.tmp 8]) func261 ok
end spec_l09Map
namespace spec_l09Ok
noncomputable def sig : Sig := ⟨[.rptr TSheaf], [(.val false, .bool, .deep)]⟩
noncomputable def ctx : Ctx := ⟨tabOf tabl, [⟨92, spec_l05Ok.sig, spec_l05Ok.F⟩, ⟨117, spec_l09Place.sig, spec_l09Place.F⟩, ⟨129, spec_l09Stalks.sig, spec_l09Stalks.F⟩, ⟨250, spec_ValidPrime.sig, spec_ValidPrime.F⟩, ⟨260, spec_l09Count.sig, spec_l09Count.F⟩, ⟨261, spec_l09Map.sig, spec_l09Map.F⟩], [], [], [], []⟩
noncomputable def cfg : Cfg := ⟨ctx, [], [], fun id => match id with | 4 => ([0, 3], []) | 7 => ([0, 3, 4], []) | _ => ([], []), fun _ => []⟩
noncomputable def code : Code := (f189).body.getD .skip
noncomputable def fin := finK ctx sig [.tmp 2]
noncomputable def F (d : (List (List Int) × Int × List Int × List (Int × Int × Int × List Int)) × Unit) : Option ((Bool × Unit) × (Unit)) := anyK (runFn cfg fin code (initSt sig.ps d 92))
noncomputable def l4 (k : Nat) (x9 : List (List Int)) (i10 : Int) (x11 : List Int) (x12 : List (Int × Int × Int × List Int)) (i13 : Int) : Option ((Bool × Unit) × (Unit)) :=
  Go.Vm.runT cfg fin k [.inLoop (sub [1, 1, 0, 1, 0, 0] code), .inBlock 0, .code (sub [1, 1, 1] code)]
    ⟨[.rptr false [⟨(.sl (.sl (.int .i64))), .sh, x9⟩, ⟨(.int .i64), .sh, i10⟩, ⟨(.sl (.int .i64)), .sh, x11⟩, ⟨(.sl TMatrix), .sh, x12⟩], .dead, .dead, .val false [⟨(.int .i64), .sh, i13⟩]] ++ deads 88, []⟩
noncomputable def l7 (k : Nat) (x14 : List (List Int)) (i15 : Int) (x16 : List Int) (x17 : List (Int × Int × Int × List Int)) (i18 : Int) (i19 : Int) : Option ((Bool × Unit) × (Unit)) :=
  Go.Vm.runT cfg fin k [.inLoop (sub [1, 1, 0, 1, 0, 0, 1, 0, 0, 1, 0, 0] code), .inBlock 2, .inBlock 1, .code (sub [1, 1, 0, 1, 0, 0, 1, 1] code), .inLoop (sub [1, 1, 0, 1, 0, 0] code), .inBlock 0, .code (sub [1, 1, 1] code)]
    ⟨[.rptr false [⟨(.sl (.sl (.int .i64))), .sh, x14⟩, ⟨(.int .i64), .sh, i15⟩, ⟨(.sl (.int .i64)), .sh, x16⟩, ⟨(.sl TMatrix), .sh, x17⟩], .dead, .dead, .val false [⟨(.int .i64), .sh, i18⟩], .val false [⟨(.int .i64), .sh, i19⟩]] ++ deads 87, []⟩
theorem l4_eq (k : Nat) (x9 : List (List Int)) (i10 : Int) (x11 : List Int) (x12 : List (Int × Int × Int × List Int)) (i13 : Int) : l4 (k + 1) x9 i10 x11 x12 i13 =
  if (decide (i13 < (x9.length : Int))) = true then
    l7 k x9 i10 x11 x12 i13 (0 : Int)
  else
    some ((true, ()), ()) := by kernel_rfl
theorem l7_eq (k : Nat) (x14 : List (List Int)) (i15 : Int) (x16 : List Int) (x17 : List (Int × Int × Int × List Int)) (i18 : Int) (i19 : Int) : l7 (k + 1) x14 i15 x16 x17 i18 i19 =
  if 0 ≤ i18 ∧ i18 < (x14.length : Int) then
    if (decide (i19 < ((x14.getD i18.toNat ([] : List Int)).length : Int))) = true then
      if 0 ≤ i18 ∧ i18 < (x14.length : Int) then
        if (decide (((x14.getD i18.toNat ([] : List Int)).length : Int) > (1 : Int))) = true then
          (spec_l09Place.F (x14, i18, i19, ())).bind fun r20 =>
            if 0 ≤ (r20.1.1 : Int) ∧ (r20.1.1 : Int) < (x17.length : Int) then
              (spec_l09Map.F ((x14, (i15, (x16, x17))), i18, i19, x17.getD (r20.1.1 : Int).toNat (0, 0, 0, ([] : List Int)), ())).bind fun r21 =>
                if (!(r21.1.1 : Bool)) = true then
                  some ((false, ()), ())
                else
                  l7 k x14 i15 x16 x17 i18 (IntKind.i64.wrap (i19 + (1 : Int)))
            else
              none
        else
          l4 k x14 i15 x16 x17 (IntKind.i64.wrap (i18 + (1 : Int)))
      else
        none
    else
      l4 k x14 i15 x16 x17 (IntKind.i64.wrap (i18 + (1 : Int)))
  else
    none := by kernel_rfl
noncomputable def T (k : Nat) (toArray_1 : List (List Int)) (toArray_2 : Int) (toArray_3 : List Int) (toArray_4 : List (Int × Int × Int × List Int)) : Option ((Bool × Unit) × (Unit)) :=
  (spec_l05Ok.F (toArray_1, ())).bind fun r5 =>
    if (!(r5.1.1 : Bool)) = true then
      some ((false, ()), ())
    else
      (spec_ValidPrime.F (toArray_2, ())).bind fun r6 =>
        if (!(r6.1.1 : Bool)) = true then
          some ((false, ()), ())
        else
          (spec_l09Stalks.F (toArray_1, toArray_3, ())).bind fun r7 =>
            if (!(r7.1.1 : Bool)) = true then
              some ((false, ()), ())
            else
              (spec_l09Count.F (toArray_1, ())).bind fun r8 =>
                if ((toArray_4.length : Int) != (r8.1.1 : Int)) = true then
                  some ((false, ()), ())
                else
                  l4 k toArray_1 toArray_2 toArray_3 toArray_4 (0 : Int)
theorem of (toArray_1 : List (List Int)) (toArray_2 : Int) (toArray_3 : List Int) (toArray_4 : List (Int × Int × Int × List Int)) {r : (Bool × Unit) × (Unit)} (h : Ev (fun k => T k toArray_1 toArray_2 toArray_3 toArray_4) r) : F ((toArray_1, (toArray_2, (toArray_3, toArray_4))), ()) = some r := Ev.run (fun k => by kernel_rfl) h
theorem ok : CtxOK prog ctx := ⟨nilM, mixed_ok, tab_ok tab_good, consM ⟨spec_l05Ok.S, consM ⟨spec_l09Place.S, consM ⟨spec_l09Stalks.S, consM ⟨spec_ValidPrime.S, consM ⟨spec_l09Count.S, consM ⟨spec_l09Map.S, nilM⟩⟩⟩⟩⟩⟩, nilM, nilM⟩
theorem S : Sound prog ⟨189, sig, F⟩ := sound_k (res := [.tmp 2]) func189 ok
end spec_l09Ok
namespace spec_l09Get
noncomputable def sig : Sig := ⟨[.rptr TSheaf, .val false (.int .i64), .val false (.int .i64)], [(.ptr, TMatrix, .sh)]⟩
noncomputable def ctx : Ctx := ⟨tabOf tabl, [⟨117, spec_l09Place.sig, spec_l09Place.F⟩], [], [], [], []⟩
noncomputable def cfg : Cfg := ⟨ctx, [], [], fun _ => ([], []), fun _ => []⟩
noncomputable def code : Code := (f222).body.getD .skip
noncomputable def fin := finK ctx sig [.tmp 6]
noncomputable def F (d : (List (List Int) × Int × List Int × List (Int × Int × Int × List Int)) × Int × Int × Unit) : Option (((Int × Int × Int × List Int) × Unit) × (Unit)) := anyK (runFn cfg fin code (initSt sig.ps d 18))
noncomputable def T (s_1 : List (List Int)) (s_2 : Int) (s_3 : List Int) (s_4 : List (Int × Int × Int × List Int)) (simplex_5 : Int) (i_6 : Int) : Option (((Int × Int × Int × List Int) × Unit) × (Unit)) :=
  (spec_l09Place.F (s_1, simplex_5, i_6, ())).bind fun r7 =>
    if 0 ≤ (r7.1.1 : Int) ∧ (r7.1.1 : Int) < (s_4.length : Int) then
      some ((s_4.getD (r7.1.1 : Int).toNat (0, 0, 0, ([] : List Int)), ()), ())
    else
      none
theorem eq (s_1 : List (List Int)) (s_2 : Int) (s_3 : List Int) (s_4 : List (Int × Int × Int × List Int)) (simplex_5 : Int) (i_6 : Int) : F ((s_1, (s_2, (s_3, s_4))), simplex_5, i_6, ()) = T s_1 s_2 s_3 s_4 simplex_5 i_6 := eq_any fun k => by kernel_rfl
theorem ok : CtxOK prog ctx := ⟨nilM, mixed_ok, tab_ok tab_good, consM ⟨spec_l09Place.S, nilM⟩, nilM, nilM⟩
theorem S : Sound prog ⟨222, sig, F⟩ := sound_k (res := [.tmp 6]) func222 ok
end spec_l09Get
namespace spec_l03Zero
noncomputable def sig : Sig := ⟨[.val false (.int .i64), .val false (.int .i64), .val false (.int .i64)], [(.val true, TMatrix, .deep)]⟩
noncomputable def ctx : Ctx := ⟨tabOf tabl, [], [], [], [], []⟩
noncomputable def cfg : Cfg := ⟨ctx, [], [], fun _ => ([], []), fun _ => []⟩
noncomputable def code : Code := (f207).body.getD .skip
noncomputable def fin := finK ctx sig [.cell 6 87]
noncomputable def F (d : Int × Int × Int × Unit) : Option (((Int × Int × Int × List Int) × Unit) × (Unit)) := anyK (runFn cfg fin code (initSt sig.ps d 15))
noncomputable def T (p_1 : Int) (rows_2 : Int) (columns_3 : Int) : Option (((Int × Int × Int × List Int) × Unit) × (Unit)) :=
  if 0 ≤ (IntKind.i64.wrap (rows_2 * columns_3)) ∧ (IntKind.i64.wrap (rows_2 * columns_3)) ≤ (bigN : Int) then
    some (((p_1, (rows_2, (columns_3, List.replicate (IntKind.i64.wrap (rows_2 * columns_3)).toNat 0))), ()), ())
  else
    none
theorem eq (p_1 : Int) (rows_2 : Int) (columns_3 : Int) : F (p_1, rows_2, columns_3, ()) = T p_1 rows_2 columns_3 := eq_any fun k => by kernel_rfl
theorem ok : CtxOK prog ctx := ⟨nilM, mixed_ok, tab_ok tab_good, nilM, nilM, nilM⟩
theorem S : Sound prog ⟨207, sig, F⟩ := sound_k (res := [.cell 6 87]) func207 ok
end spec_l03Zero
namespace spec_l03Times
noncomputable def sig : Sig := ⟨[.rptr TMatrix, .rptr TMatrix], [(.val true, TMatrix, .deep)]⟩
noncomputable def ctx : Ctx := ⟨tabOf tabl, [⟨207, spec_l03Zero.sig, spec_l03Zero.F⟩], [], [], [], []⟩
noncomputable def cfg : Cfg := ⟨ctx, [], [], fun id => match id with | 3 => ([0, 1, 4, 5, 6], [16, 20]) | 6 => ([0, 1, 4, 5, 6, 7], [16, 20]) | 10 => ([0, 1, 4, 5, 6, 7, 8, 9], [16, 20]) | _ => ([], []), fun _ => []⟩
noncomputable def code : Code := (f280).body.getD .skip
noncomputable def fin := finK ctx sig [.cell 4 87]
noncomputable def F (d : (Int × Int × Int × List Int) × (Int × Int × Int × List Int) × Unit) : Option (((Int × Int × Int × List Int) × Unit) × (Unit)) := anyK (runFn cfg fin code (initSt sig.ps d 96))
noncomputable def l3 (k : Nat) (i10 : Int) (i11 : Int) (i12 : Int) (x13 : List Int) (i14 : Int) (i15 : Int) (i16 : Int) (x17 : List Int) (i18 : Int) (i19 : Int) (i20 : Int) (i21 : Int) (x22 : List Int) (i23 : Int) (i24 : Int) (i25 : Int) (x26 : List Int) : Option (((Int × Int × Int × List Int) × Unit) × (Unit)) :=
  Go.Vm.runT cfg fin k [.inLoop (sub [1, 1, 0, 1, 0, 0] code), .inBlock 0, .code (sub [1, 1, 1] code)]
    ⟨[.rptr false [⟨(.int .i64), .sh, i10⟩, ⟨(.int .i64), .sh, i11⟩, ⟨(.int .i64), .sh, i12⟩, ⟨(.sl (.int .i64)), .sh, x13⟩], .rptr false [⟨(.int .i64), .sh, i14⟩, ⟨(.int .i64), .sh, i15⟩, ⟨(.int .i64), .sh, i16⟩, ⟨(.sl (.int .i64)), .sh, x17⟩], .dead, .dead, .ref 16 (.root 0), .ref 20 (.root 0), .val false [⟨(.int .i64), .sh, i18⟩]] ++ deads 89, [(16, ⟨true, [⟨(.int .i64), .sh, i19⟩, ⟨(.int .i64), .sh, i20⟩, ⟨(.int .i64), .sh, i21⟩, ⟨(.sl (.int .i64)), .deep, x22⟩]⟩), (20, ⟨true, [⟨(.int .i64), .sh, i23⟩, ⟨(.int .i64), .sh, i24⟩, ⟨(.int .i64), .sh, i25⟩, ⟨(.sl (.int .i64)), .deep, x26⟩]⟩)]⟩
noncomputable def l6 (k : Nat) (i27 : Int) (i28 : Int) (i29 : Int) (x30 : List Int) (i31 : Int) (i32 : Int) (i33 : Int) (x34 : List Int) (i35 : Int) (i36 : Int) (i37 : Int) (i38 : Int) (i39 : Int) (x40 : List Int) (i41 : Int) (i42 : Int) (i43 : Int) (x44 : List Int) : Option (((Int × Int × Int × List Int) × Unit) × (Unit)) :=
  Go.Vm.runT cfg fin k [.inLoop (sub [1, 1, 0, 1, 0, 0, 1, 0, 0, 1, 0, 0] code), .inBlock 2, .inBlock 1, .code (sub [1, 1, 0, 1, 0, 0, 1, 1] code), .inLoop (sub [1, 1, 0, 1, 0, 0] code), .inBlock 0, .code (sub [1, 1, 1] code)]
    ⟨[.rptr false [⟨(.int .i64), .sh, i27⟩, ⟨(.int .i64), .sh, i28⟩, ⟨(.int .i64), .sh, i29⟩, ⟨(.sl (.int .i64)), .sh, x30⟩], .rptr false [⟨(.int .i64), .sh, i31⟩, ⟨(.int .i64), .sh, i32⟩, ⟨(.int .i64), .sh, i33⟩, ⟨(.sl (.int .i64)), .sh, x34⟩], .dead, .dead, .ref 16 (.root 0), .ref 20 (.root 0), .val false [⟨(.int .i64), .sh, i35⟩], .val false [⟨(.int .i64), .sh, i36⟩]] ++ deads 88, [(16, ⟨true, [⟨(.int .i64), .sh, i37⟩, ⟨(.int .i64), .sh, i38⟩, ⟨(.int .i64), .sh, i39⟩, ⟨(.sl (.int .i64)), .deep, x40⟩]⟩), (20, ⟨true, [⟨(.int .i64), .sh, i41⟩, ⟨(.int .i64), .sh, i42⟩, ⟨(.int .i64), .sh, i43⟩, ⟨(.sl (.int .i64)), .deep, x44⟩]⟩)]⟩
noncomputable def l10 (k : Nat) (i45 : Int) (i46 : Int) (i47 : Int) (x48 : List Int) (i49 : Int) (i50 : Int) (i51 : Int) (x52 : List Int) (i53 : Int) (i54 : Int) (i55 : Int) (i56 : Int) (i57 : Int) (i58 : Int) (i59 : Int) (x60 : List Int) (i61 : Int) (i62 : Int) (i63 : Int) (x64 : List Int) : Option (((Int × Int × Int × List Int) × Unit) × (Unit)) :=
  Go.Vm.runT cfg fin k [.inLoop (sub [1, 1, 0, 1, 0, 0, 1, 0, 0, 1, 0, 0, 1, 0, 0, 1, 0, 1, 0, 0] code), .inBlock 4, .code (sub [1, 1, 0, 1, 0, 0, 1, 0, 0, 1, 0, 0, 1, 0, 0, 1, 1] code), .inBlock 3, .code (sub [1, 1, 0, 1, 0, 0, 1, 0, 0, 1, 0, 0, 1, 1] code), .inLoop (sub [1, 1, 0, 1, 0, 0, 1, 0, 0, 1, 0, 0] code), .inBlock 2, .inBlock 1, .code (sub [1, 1, 0, 1, 0, 0, 1, 1] code), .inLoop (sub [1, 1, 0, 1, 0, 0] code), .inBlock 0, .code (sub [1, 1, 1] code)]
    ⟨[.rptr false [⟨(.int .i64), .sh, i45⟩, ⟨(.int .i64), .sh, i46⟩, ⟨(.int .i64), .sh, i47⟩, ⟨(.sl (.int .i64)), .sh, x48⟩], .rptr false [⟨(.int .i64), .sh, i49⟩, ⟨(.int .i64), .sh, i50⟩, ⟨(.int .i64), .sh, i51⟩, ⟨(.sl (.int .i64)), .sh, x52⟩], .dead, .dead, .ref 16 (.root 0), .ref 20 (.root 0), .val false [⟨(.int .i64), .sh, i53⟩], .val false [⟨(.int .i64), .sh, i54⟩], .val false [⟨(.int .i64), .sh, i55⟩], .val false [⟨(.int .i64), .sh, i56⟩]] ++ deads 86, [(16, ⟨true, [⟨(.int .i64), .sh, i57⟩, ⟨(.int .i64), .sh, i58⟩, ⟨(.int .i64), .sh, i59⟩, ⟨(.sl (.int .i64)), .deep, x60⟩]⟩), (20, ⟨true, [⟨(.int .i64), .sh, i61⟩, ⟨(.int .i64), .sh, i62⟩, ⟨(.int .i64), .sh, i63⟩, ⟨(.sl (.int .i64)), .deep, x64⟩]⟩)]⟩
theorem l3_eq (k : Nat) (i10 : Int) (i11 : Int) (i12 : Int) (x13 : List Int) (i14 : Int) (i15 : Int) (i16 : Int) (x17 : List Int) (i18 : Int) (i19 : Int) (i20 : Int) (i21 : Int) (x22 : List Int) (i23 : Int) (i24 : Int) (i25 : Int) (x26 : List Int) : l3 (k + 1) i10 i11 i12 x13 i14 i15 i16 x17 i18 i19 i20 i21 x22 i23 i24 i25 x26 =
  if (decide (i18 < i11)) = true then
    l6 k i10 i11 i12 x13 i14 i15 i16 x17 i18 (0 : Int) i19 i20 i21 x22 i23 i24 i25 x26
  else
    some (((i23, (i24, (i25, x26))), ()), ()) := by kernel_rfl
theorem l6_eq (k : Nat) (i27 : Int) (i28 : Int) (i29 : Int) (x30 : List Int) (i31 : Int) (i32 : Int) (i33 : Int) (x34 : List Int) (i35 : Int) (i36 : Int) (i37 : Int) (i38 : Int) (i39 : Int) (x40 : List Int) (i41 : Int) (i42 : Int) (i43 : Int) (x44 : List Int) : l6 (k + 1) i27 i28 i29 x30 i31 i32 i33 x34 i35 i36 i37 i38 i39 x40 i41 i42 i43 x44 =
  if (decide (i36 < i33)) = true then
    l10 k i27 i28 i29 x30 i31 i32 i33 x34 i35 i36 (0 : Int) (0 : Int) i37 i38 i39 x40 i41 i42 i43 x44
  else
    l3 k i27 i28 i29 x30 i31 i32 i33 x34 (IntKind.i64.wrap (i35 + (1 : Int))) i37 i38 i39 x40 i41 i42 i43 x44 := by kernel_rfl
theorem l10_eq (k : Nat) (i45 : Int) (i46 : Int) (i47 : Int) (x48 : List Int) (i49 : Int) (i50 : Int) (i51 : Int) (x52 : List Int) (i53 : Int) (i54 : Int) (i55 : Int) (i56 : Int) (i57 : Int) (i58 : Int) (i59 : Int) (x60 : List Int) (i61 : Int) (i62 : Int) (i63 : Int) (x64 : List Int) : l10 (k + 1) i45 i46 i47 x48 i49 i50 i51 x52 i53 i54 i55 i56 i57 i58 i59 x60 i61 i62 i63 x64 =
  if (decide (i56 < i47)) = true then
    if 0 ≤ (IntKind.i64.wrap ((IntKind.i64.wrap (i53 * i47)) + i56)) ∧ (IntKind.i64.wrap ((IntKind.i64.wrap (i53 * i47)) + i56)) < (x48.length : Int) then
      if 0 ≤ (IntKind.i64.wrap ((IntKind.i64.wrap (i56 * i51)) + i54)) ∧ (IntKind.i64.wrap ((IntKind.i64.wrap (i56 * i51)) + i54)) < (x52.length : Int) then
        l10 k i45 i46 i47 x48 i49 i50 i51 x52 i53 i54 (IntKind.i64.wrap (i55 + (IntKind.i64.wrap ((x48.getD (IntKind.i64.wrap ((IntKind.i64.wrap (i53 * i47)) + i56)).toNat 0 : Int) * (x52.getD (IntKind.i64.wrap ((IntKind.i64.wrap (i56 * i51)) + i54)).toNat 0 : Int))))) (IntKind.i64.wrap (i56 + (1 : Int))) i57 i58 i59 x60 i61 i62 i63 x64
      else
        none
    else
      none
  else
    if i45 = 0 then
      none
    else
      if 0 ≤ (IntKind.i64.wrap ((IntKind.i64.wrap (i53 * i51)) + i54)) ∧ (IntKind.i64.wrap ((IntKind.i64.wrap (i53 * i51)) + i54)) < (x64.length : Int) then
        l6 k i45 i46 i47 x48 i49 i50 i51 x52 i53 (IntKind.i64.wrap (i54 + (1 : Int))) i57 i58 i59 x60 i61 i62 i63 (x64.set (IntKind.i64.wrap ((IntKind.i64.wrap (i53 * i51)) + i54)).toNat (i55.tmod i45))
      else
        none := by kernel_rfl
noncomputable def T (k : Nat) (toArray_1 : Int) (toArray_2 : Int) (toArray_3 : Int) (toArray_4 : List Int) (a_5 : Int) (a_6 : Int) (a_7 : Int) (a_8 : List Int) : Option (((Int × Int × Int × List Int) × Unit) × (Unit)) :=
  (spec_l03Zero.F (toArray_1, toArray_2, a_7, ())).bind fun r9 =>
    l3 k toArray_1 toArray_2 toArray_3 toArray_4 a_5 a_6 a_7 a_8 (0 : Int) 0 0 0 ([]) (r9.1.1.1 : Int) (r9.1.1.2.1 : Int) (r9.1.1.2.2.1 : Int) r9.1.1.2.2.2
theorem of (toArray_1 : Int) (toArray_2 : Int) (toArray_3 : Int) (toArray_4 : List Int) (a_5 : Int) (a_6 : Int) (a_7 : Int) (a_8 : List Int) {r : ((Int × Int × Int × List Int) × Unit) × (Unit)} (h : Ev (fun k => T k toArray_1 toArray_2 toArray_3 toArray_4 a_5 a_6 a_7 a_8) r) : F ((toArray_1, (toArray_2, (toArray_3, toArray_4))), (a_5, (a_6, (a_7, a_8))), ()) = some r := Ev.run (fun k => by kernel_rfl) h
theorem ok : CtxOK prog ctx := ⟨nilM, mixed_ok, tab_ok tab_good, consM ⟨spec_l03Zero.S, nilM⟩, nilM, nilM⟩
theorem S : Sound prog ⟨280, sig, F⟩ := sound_k (res := [.cell 4 87]) func280 ok
end spec_l03Times
namespace spec_l09Two
noncomputable def sig : Sig := ⟨[.rptr TSheaf, .val false (.int .i64), .val false (.int .i64), .val false (.int .i64)], [(.val true, TMatrix, .deep)]⟩
noncomputable def ctx : Ctx := ⟨tabOf tabl, [⟨115, spec_l05Faces.sig, spec_l05Faces.F⟩, ⟨222, spec_l09Get.sig, spec_l09Get.F⟩, ⟨280, spec_l03Times.sig, spec_l03Times.F⟩], [], [], [], []⟩
noncomputable def cfg : Cfg := ⟨ctx, [], [], fun _ => ([], []), fun _ => []⟩
noncomputable def code : Code := (f262).body.getD .skip
noncomputable def fin := finK ctx sig [.cell 8 87]
noncomputable def F (d : (List (List Int) × Int × List Int × List (Int × Int × Int × List Int)) × Int × Int × Int × Unit) : Option (((Int × Int × Int × List Int) × Unit) × (Unit)) := anyK (runFn cfg fin code (initSt sig.ps d 32))
noncomputable def T (s_1 : List (List Int)) (s_2 : Int) (s_3 : List Int) (s_4 : List (Int × Int × Int × List Int)) (simplex_5 : Int) (i_6 : Int) (j_7 : Int) : Option (((Int × Int × Int × List Int) × Unit) × (Unit)) :=
  (spec_l05Faces.F (s_1, simplex_5, ())).bind fun r8 =>
    if 0 ≤ i_6 ∧ i_6 < (r8.1.1.length : Int) then
      if (decide (j_7 > i_6)) = true then
        (spec_l09Get.F ((s_1, (s_2, (s_3, s_4))), simplex_5, i_6, ())).bind fun r9 =>
          (spec_l09Get.F ((s_1, (s_2, (s_3, s_4))), (r8.1.1.getD i_6.toNat 0 : Int), IntKind.i64.wrap (j_7 - (1 : Int)), ())).bind fun r10 =>
            (spec_l03Times.F (r9.1.1, r10.1.1, ())).bind fun r11 =>
              some ((r11.1.1, ()), ())
      else
        (spec_l09Get.F ((s_1, (s_2, (s_3, s_4))), simplex_5, i_6, ())).bind fun r12 =>
          (spec_l09Get.F ((s_1, (s_2, (s_3, s_4))), (r8.1.1.getD i_6.toNat 0 : Int), j_7, ())).bind fun r13 =>
            (spec_l03Times.F (r12.1.1, r13.1.1, ())).bind fun r14 =>
              some ((r14.1.1, ()), ())
    else
      none
theorem eq (s_1 : List (List Int)) (s_2 : Int) (s_3 : List Int) (s_4 : List (Int × Int × Int × List Int)) (simplex_5 : Int) (i_6 : Int) (j_7 : Int) : F ((s_1, (s_2, (s_3, s_4))), simplex_5, i_6, j_7, ()) = T s_1 s_2 s_3 s_4 simplex_5 i_6 j_7 := eq_any fun k => by kernel_rfl
theorem ok : CtxOK prog ctx := ⟨nilM, mixed_ok, tab_ok tab_good, consM ⟨spec_l05Faces.S, consM ⟨spec_l09Get.S, consM ⟨spec_l03Times.S, nilM⟩⟩⟩, nilM, nilM⟩
theorem S : Sound prog ⟨262, sig, F⟩ := sound_k (res := [.cell 8 87]) func262 ok
end spec_l09Two
namespace spec_l03Same
noncomputable def sig : Sig := ⟨[.rptr TMatrix, .rptr TMatrix], [(.val false, .bool, .deep)]⟩
noncomputable def ctx : Ctx := ⟨tabOf tabl, [], [], [], [], []⟩
noncomputable def cfg : Cfg := ⟨ctx, [], [], fun id => match id with | 4 => ([0, 1, 5], []) | _ => ([], []), fun _ => []⟩
noncomputable def code : Code := (f263).body.getD .skip
noncomputable def fin := finK ctx sig [.tmp 4]
noncomputable def F (d : (Int × Int × Int × List Int) × (Int × Int × Int × List Int) × Unit) : Option ((Bool × Unit) × (Unit)) := anyK (runFn cfg fin code (initSt sig.ps d 74))
noncomputable def l4 (k : Nat) (i9 : Int) (i10 : Int) (i11 : Int) (x12 : List Int) (i13 : Int) (i14 : Int) (i15 : Int) (x16 : List Int) (i17 : Int) : Option ((Bool × Unit) × (Unit)) :=
  Go.Vm.runT cfg fin k [.inLoop (sub [1, 1, 0, 1, 0, 0] code), .inBlock 0, .code (sub [1, 1, 1] code)]
    ⟨[.rptr false [⟨(.int .i64), .sh, i9⟩, ⟨(.int .i64), .sh, i10⟩, ⟨(.int .i64), .sh, i11⟩, ⟨(.sl (.int .i64)), .sh, x12⟩], .rptr false [⟨(.int .i64), .sh, i13⟩, ⟨(.int .i64), .sh, i14⟩, ⟨(.int .i64), .sh, i15⟩, ⟨(.sl (.int .i64)), .sh, x16⟩], .dead, .dead, .dead, .val false [⟨(.int .i64), .sh, i17⟩]] ++ deads 68, []⟩
theorem l4_eq (k : Nat) (i9 : Int) (i10 : Int) (i11 : Int) (x12 : List Int) (i13 : Int) (i14 : Int) (i15 : Int) (x16 : List Int) (i17 : Int) : l4 (k + 1) i9 i10 i11 x12 i13 i14 i15 x16 i17 =
  if (decide (i17 < (x12.length : Int))) = true then
    if 0 ≤ i17 ∧ i17 < (x12.length : Int) then
      if 0 ≤ i17 ∧ i17 < (x16.length : Int) then
        if ((x12.getD i17.toNat 0 : Int) != (x16.getD i17.toNat 0 : Int)) = true then
          some ((false, ()), ())
        else
          l4 k i9 i10 i11 x12 i13 i14 i15 x16 (IntKind.i64.wrap (i17 + (1 : Int)))
      else
        none
    else
      none
  else
    some ((true, ()), ()) := by kernel_rfl
noncomputable def T (k : Nat) (toArray_1 : Int) (toArray_2 : Int) (toArray_3 : Int) (toArray_4 : List Int) (a_5 : Int) (a_6 : Int) (a_7 : Int) (a_8 : List Int) : Option ((Bool × Unit) × (Unit)) :=
  if (toArray_1 != a_5) = true then
    some ((false, ()), ())
  else
    if (toArray_2 != a_6) = true then
      some ((false, ()), ())
    else
      if (toArray_3 != a_7) = true then
        some ((false, ()), ())
      else
        if ((toArray_4.length : Int) != (a_8.length : Int)) = true then
          some ((false, ()), ())
        else
          l4 k toArray_1 toArray_2 toArray_3 toArray_4 a_5 a_6 a_7 a_8 (0 : Int)
theorem of (toArray_1 : Int) (toArray_2 : Int) (toArray_3 : Int) (toArray_4 : List Int) (a_5 : Int) (a_6 : Int) (a_7 : Int) (a_8 : List Int) {r : (Bool × Unit) × (Unit)} (h : Ev (fun k => T k toArray_1 toArray_2 toArray_3 toArray_4 a_5 a_6 a_7 a_8) r) : F ((toArray_1, (toArray_2, (toArray_3, toArray_4))), (a_5, (a_6, (a_7, a_8))), ()) = some r := Ev.run (fun k => by kernel_rfl) h
theorem ok : CtxOK prog ctx := ⟨nilM, mixed_ok, tab_ok tab_good, nilM, nilM, nilM⟩
theorem S : Sound prog ⟨263, sig, F⟩ := sound_k (res := [.tmp 4]) func263 ok
end spec_l03Same
namespace spec_l09Wrong
noncomputable def sig : Sig := ⟨[.rptr TSheaf], [(.val false, (.int .i64), .deep), (.val false, (.int .i64), .deep), (.val false, (.int .i64), .deep)]⟩
noncomputable def ctx : Ctx := ⟨tabOf tabl, [⟨262, spec_l09Two.sig, spec_l09Two.F⟩, ⟨263, spec_l03Same.sig, spec_l03Same.F⟩], [], [], [], []⟩
noncomputable def cfg : Cfg := ⟨ctx, [], [], fun id => match id with | 2 => ([0, 5], []) | 6 => ([0, 5, 6, 7], []) | 9 => ([0, 5, 6, 7, 8], []) | _ => ([], []), fun _ => []⟩
noncomputable def code : Code := (f190).body.getD .skip
noncomputable def fin := finK ctx sig [.tmp 2, .tmp 3, .tmp 4]
noncomputable def F (d : (List (List Int) × Int × List Int × List (Int × Int × Int × List Int)) × Unit) : Option ((Int × Int × Int × Unit) × (Unit)) := anyK (runFn cfg fin code (initSt sig.ps d 61))
noncomputable def l2 (k : Nat) (x5 : List (List Int)) (i6 : Int) (x7 : List Int) (x8 : List (Int × Int × Int × List Int)) (i9 : Int) : Option ((Int × Int × Int × Unit) × (Unit)) :=
  Go.Vm.runT cfg fin k [.inLoop (sub [1, 0, 1, 0, 0] code), .inBlock 0, .code (sub [1, 1] code)]
    ⟨[.rptr false [⟨(.sl (.sl (.int .i64))), .sh, x5⟩, ⟨(.int .i64), .sh, i6⟩, ⟨(.sl (.int .i64)), .sh, x7⟩, ⟨(.sl TMatrix), .sh, x8⟩], .dead, .dead, .dead, .dead, .val false [⟨(.int .i64), .sh, i9⟩]] ++ deads 55, []⟩
noncomputable def l6 (k : Nat) (x10 : List (List Int)) (i11 : Int) (x12 : List Int) (x13 : List (Int × Int × Int × List Int)) (i14 : Int) (i15 : Int) (i16 : Int) : Option ((Int × Int × Int × Unit) × (Unit)) :=
  Go.Vm.runT cfg fin k [.inLoop (sub [1, 0, 1, 0, 0, 1, 0, 0, 1, 1, 0, 0] code), .inBlock 2, .inBlock 1, .code (sub [1, 0, 1, 0, 0, 1, 1] code), .inLoop (sub [1, 0, 1, 0, 0] code), .inBlock 0, .code (sub [1, 1] code)]
    ⟨[.rptr false [⟨(.sl (.sl (.int .i64))), .sh, x10⟩, ⟨(.int .i64), .sh, i11⟩, ⟨(.sl (.int .i64)), .sh, x12⟩, ⟨(.sl TMatrix), .sh, x13⟩], .dead, .dead, .dead, .dead, .val false [⟨(.int .i64), .sh, i14⟩], .val false [⟨(.int .i64), .sh, i15⟩], .val false [⟨(.int .i64), .sh, i16⟩]] ++ deads 53, []⟩
noncomputable def l9 (k : Nat) (x17 : List (List Int)) (i18 : Int) (x19 : List Int) (x20 : List (Int × Int × Int × List Int)) (i21 : Int) (i22 : Int) (i23 : Int) (i24 : Int) : Option ((Int × Int × Int × Unit) × (Unit)) :=
  Go.Vm.runT cfg fin k [.inLoop (sub [1, 0, 1, 0, 0, 1, 0, 0, 1, 1, 0, 0, 1, 0, 0, 1, 0, 0] code), .inBlock 4, .inBlock 3, .code (sub [1, 0, 1, 0, 0, 1, 0, 0, 1, 1, 0, 0, 1, 1] code), .inLoop (sub [1, 0, 1, 0, 0, 1, 0, 0, 1, 1, 0, 0] code), .inBlock 2, .inBlock 1, .code (sub [1, 0, 1, 0, 0, 1, 1] code), .inLoop (sub [1, 0, 1, 0, 0] code), .inBlock 0, .code (sub [1, 1] code)]
    ⟨[.rptr false [⟨(.sl (.sl (.int .i64))), .sh, x17⟩, ⟨(.int .i64), .sh, i18⟩, ⟨(.sl (.int .i64)), .sh, x19⟩, ⟨(.sl TMatrix), .sh, x20⟩], .dead, .dead, .dead, .dead, .val false [⟨(.int .i64), .sh, i21⟩], .val false [⟨(.int .i64), .sh, i22⟩], .val false [⟨(.int .i64), .sh, i23⟩], .val false [⟨(.int .i64), .sh, i24⟩]] ++ deads 52, []⟩
theorem l2_eq (k : Nat) (x5 : List (List Int)) (i6 : Int) (x7 : List Int) (x8 : List (Int × Int × Int × List Int)) (i9 : Int) : l2 (k + 1) x5 i6 x7 x8 i9 =
  if (decide (i9 < (x5.length : Int))) = true then
    if 0 ≤ i9 ∧ i9 < (x5.length : Int) then
      l6 k x5 i6 x7 x8 i9 ((x5.getD i9.toNat ([] : List Int)).length : Int) (0 : Int)
    else
      none
  else
    some (((-1 : Int), ((0 : Int), ((0 : Int), ()))), ()) := by kernel_rfl
theorem l6_eq (k : Nat) (x10 : List (List Int)) (i11 : Int) (x12 : List Int) (x13 : List (Int × Int × Int × List Int)) (i14 : Int) (i15 : Int) (i16 : Int) : l6 (k + 1) x10 i11 x12 x13 i14 i15 i16 =
  if (decide (i16 < i15)) = true then
    if (decide (i15 > (2 : Int))) = true then
      l9 k x10 i11 x12 x13 i14 i15 i16 (IntKind.i64.wrap (i16 + (1 : Int)))
    else
      l2 k x10 i11 x12 x13 (IntKind.i64.wrap (i14 + (1 : Int)))
  else
    l2 k x10 i11 x12 x13 (IntKind.i64.wrap (i14 + (1 : Int))) := by kernel_rfl
theorem l9_eq (k : Nat) (x17 : List (List Int)) (i18 : Int) (x19 : List Int) (x20 : List (Int × Int × Int × List Int)) (i21 : Int) (i22 : Int) (i23 : Int) (i24 : Int) : l9 (k + 1) x17 i18 x19 x20 i21 i22 i23 i24 =
  if (decide (i24 < i22)) = true then
    (spec_l09Two.F ((x17, (i18, (x19, x20))), i21, i23, i24, ())).bind fun r25 =>
      (spec_l09Two.F ((x17, (i18, (x19, x20))), i21, i24, i23, ())).bind fun r26 =>
        (spec_l03Same.F (r25.1.1, r26.1.1, ())).bind fun r27 =>
          if (!(r27.1.1 : Bool)) = true then
            some ((i21, (i23, (i24, ()))), ())
          else
            l9 k x17 i18 x19 x20 i21 i22 i23 (IntKind.i64.wrap (i24 + (1 : Int)))
  else
    l6 k x17 i18 x19 x20 i21 i22 (IntKind.i64.wrap (i23 + (1 : Int))) := by kernel_rfl
noncomputable def T (k : Nat) (s_1 : List (List Int)) (s_2 : Int) (s_3 : List Int) (s_4 : List (Int × Int × Int × List Int)) : Option ((Int × Int × Int × Unit) × (Unit)) :=
  l2 k s_1 s_2 s_3 s_4 (0 : Int)
theorem of (s_1 : List (List Int)) (s_2 : Int) (s_3 : List Int) (s_4 : List (Int × Int × Int × List Int)) {r : (Int × Int × Int × Unit) × (Unit)} (h : Ev (fun k => T k s_1 s_2 s_3 s_4) r) : F ((s_1, (s_2, (s_3, s_4))), ()) = some r := Ev.run (fun k => by kernel_rfl) h
theorem ok : CtxOK prog ctx := ⟨nilM, mixed_ok, tab_ok tab_good, consM ⟨spec_l09Two.S, consM ⟨spec_l03Same.S, nilM⟩⟩, nilM, nilM⟩
theorem S : Sound prog ⟨190, sig, F⟩ := sound_k (res := [.tmp 2, .tmp 3, .tmp 4]) func190 ok
end spec_l09Wrong
namespace spec_l09Is
noncomputable def sig : Sig := ⟨[.rptr TSheaf], [(.val false, .bool, .deep)]⟩
noncomputable def ctx : Ctx := ⟨tabOf tabl, [⟨189, spec_l09Ok.sig, spec_l09Ok.F⟩, ⟨190, spec_l09Wrong.sig, spec_l09Wrong.F⟩], [], [], [], []⟩
noncomputable def cfg : Cfg := ⟨ctx, [], [], fun _ => ([], []), fun _ => []⟩
noncomputable def code : Code := (f98).body.getD .skip
noncomputable def fin := finK ctx sig [.tmp 2]
noncomputable def F (d : (List (List Int) × Int × List Int × List (Int × Int × Int × List Int)) × Unit) : Option ((Bool × Unit) × (Unit)) := anyK (runFn cfg fin code (initSt sig.ps d 17))
noncomputable def T (s_1 : List (List Int)) (s_2 : Int) (s_3 : List Int) (s_4 : List (Int × Int × Int × List Int)) : Option ((Bool × Unit) × (Unit)) :=
  (spec_l09Ok.F ((s_1, (s_2, (s_3, s_4))), ())).bind fun r5 =>
    if (!(r5.1.1 : Bool)) = true then
      some ((false, ()), ())
    else
      (spec_l09Wrong.F ((s_1, (s_2, (s_3, s_4))), ())).bind fun r6 =>
        some ((decide ((r6.1.1 : Int) < (0 : Int)), ()), ())
theorem eq (s_1 : List (List Int)) (s_2 : Int) (s_3 : List Int) (s_4 : List (Int × Int × Int × List Int)) : F ((s_1, (s_2, (s_3, s_4))), ()) = T s_1 s_2 s_3 s_4 := eq_any fun k => by kernel_rfl
theorem ok : CtxOK prog ctx := ⟨nilM, mixed_ok, tab_ok tab_good, consM ⟨spec_l09Ok.S, consM ⟨spec_l09Wrong.S, nilM⟩⟩, nilM, nilM⟩
theorem S : Sound prog ⟨98, sig, F⟩ := sound_k (res := [.tmp 2]) func98 ok
end spec_l09Is
namespace spec_l05Skeleton
noncomputable def sig : Sig := ⟨[.rptr (.sl (.sl (.int .i64))), .val false (.int .i64)], [(.val true, (.sl (.sl (.int .i64))), .deep)]⟩
noncomputable def ctx : Ctx := ⟨tabOf tabl, [⟨152, spec_l00Own.sig, spec_l00Own.F⟩], [], [], [], []⟩
noncomputable def cfg : Cfg := ⟨ctx, [], [], fun id => match id with | 3 => ([0, 1, 4, 5, 6], [16, 20]) | _ => ([], []), fun _ => []⟩
noncomputable def code : Code := (f151).body.getD .skip
noncomputable def fin := finK ctx sig [.cell 4 32]
noncomputable def F (d : List (List Int) × Int × Unit) : Option ((List (List Int) × Unit) × (Unit)) := anyK (runFn cfg fin code (initSt sig.ps d 43))
noncomputable def l3 (k : Nat) (x3 : List (List Int)) (i4 : Int) (i5 : Int) (x6 : List (List Int)) (x7 : List (List Int)) : Option ((List (List Int) × Unit) × (Unit)) :=
  Go.Vm.runT cfg fin k [.inLoop (sub [1, 1, 0, 1, 0, 0] code), .inBlock 0, .code (sub [1, 1, 1] code)]
    ⟨[.rptr false [⟨(.sl (.sl (.int .i64))), .sh, x3⟩], .val false [⟨(.int .i64), .sh, i4⟩], .dead, .dead, .ref 16 (.root 0), .ref 20 (.root 0), .val false [⟨(.int .i64), .sh, i5⟩]] ++ deads 36, [(16, ⟨true, [⟨(.sl (.sl (.int .i64))), .deep, x6⟩]⟩), (20, ⟨true, [⟨(.sl (.sl (.int .i64))), .deep, x7⟩]⟩)]⟩
theorem l3_eq (k : Nat) (x3 : List (List Int)) (i4 : Int) (i5 : Int) (x6 : List (List Int)) (x7 : List (List Int)) : l3 (k + 1) x3 i4 i5 x6 x7 =
  if (decide (i5 < (x3.length : Int))) = true then
    if 0 ≤ i5 ∧ i5 < (x3.length : Int) then
      if (decide (((x3.getD i5.toNat ([] : List Int)).length : Int) ≤ (IntKind.i64.wrap (i4 + (1 : Int))))) = true then
        if 0 ≤ i5 ∧ i5 < (x3.length : Int) then
          (spec_l00Own.F (x3.getD i5.toNat ([] : List Int), ())).bind fun r8 =>
            if x7.length + ([r8.1.1] : List (List Int)).length ≤ bigA then
              l3 k x3 i4 (IntKind.i64.wrap (i5 + (1 : Int))) x6 (x7 ++ ([r8.1.1]))
            else
              none
        else
          none
      else
        l3 k x3 i4 (IntKind.i64.wrap (i5 + (1 : Int))) x6 x7
    else
      none
  else
    some ((x7, ()), ()) := by kernel_rfl
noncomputable def T (k : Nat) (c_1 : List (List Int)) (dimension_2 : Int) : Option ((List (List Int) × Unit) × (Unit)) :=
  l3 k c_1 dimension_2 (0 : Int) ([] : List (List Int)) ([] : List (List Int))
theorem of (c_1 : List (List Int)) (dimension_2 : Int) {r : (List (List Int) × Unit) × (Unit)} (h : Ev (fun k => T k c_1 dimension_2) r) : F (c_1, dimension_2, ()) = some r := Ev.run (fun k => by kernel_rfl) h
theorem ok : CtxOK prog ctx := ⟨nilM, mixed_ok, tab_ok tab_good, consM ⟨spec_l00Own.S, nilM⟩, nilM, nilM⟩
theorem S : Sound prog ⟨151, sig, F⟩ := sound_k (res := [.cell 4 32]) func151 ok
end spec_l05Skeleton
namespace spec_l09New
noncomputable def sig : Sig := ⟨[.rptr (.sl (.sl (.int .i64))), .val false (.int .i64), .val false (.sl (.int .i64))], [(.val true, TSheaf, .deep)]⟩
noncomputable def ctx : Ctx := ⟨tabOf tabl, [⟨115, spec_l05Faces.sig, spec_l05Faces.F⟩, ⟨151, spec_l05Skeleton.sig, spec_l05Skeleton.F⟩, ⟨152, spec_l00Own.sig, spec_l00Own.F⟩, ⟨207, spec_l03Zero.sig, spec_l03Zero.F⟩], [], [], [], []⟩
noncomputable def cfg : Cfg := ⟨ctx, [], [], fun id => match id with | 3 => ([0, 1, 2, 6, 7, 8], [24, 28]) | 7 => ([0, 1, 2, 6, 7, 8, 9, 10], [24, 28, 36]) | _ => ([], []), fun _ => []⟩
noncomputable def code : Code := (f130).body.getD .skip
noncomputable def fin := finK ctx sig [.cell 6 46]
noncomputable def F (d : List (List Int) × Int × List Int × Unit) : Option (((List (List Int) × Int × List Int × List (Int × Int × Int × List Int)) × Unit) × (Unit)) := anyK (runFn cfg fin code (initSt sig.ps d 55))
noncomputable def l3 (k : Nat) (x6 : List (List Int)) (i7 : Int) (x8 : List Int) (i9 : Int) (x10 : List (List Int)) (i11 : Int) (x12 : List Int) (x13 : List (Int × Int × Int × List Int)) (x14 : List (List Int)) (i15 : Int) (x16 : List Int) (x17 : List (Int × Int × Int × List Int)) : Option (((List (List Int) × Int × List Int × List (Int × Int × Int × List Int)) × Unit) × (Unit)) :=
  Go.Vm.runT cfg fin k [.inLoop (sub [1, 1, 0, 1, 0, 0] code), .inBlock 0, .code (sub [1, 1, 1] code)]
    ⟨[.rptr false [⟨(.sl (.sl (.int .i64))), .sh, x6⟩], .val false [⟨(.int .i64), .sh, i7⟩], .val false [⟨(.sl (.int .i64)), .sh, x8⟩], .dead, .dead, .dead, .ref 24 (.root 0), .ref 28 (.root 0), .val false [⟨(.int .i64), .sh, i9⟩]] ++ deads 46, [(24, ⟨true, [⟨(.sl (.sl (.int .i64))), .deep, x10⟩, ⟨(.int .i64), .sh, i11⟩, ⟨(.sl (.int .i64)), .deep, x12⟩, ⟨(.sl TMatrix), .deep, x13⟩]⟩), (28, ⟨true, [⟨(.sl (.sl (.int .i64))), .deep, x14⟩, ⟨(.int .i64), .sh, i15⟩, ⟨(.sl (.int .i64)), .deep, x16⟩, ⟨(.sl TMatrix), .deep, x17⟩]⟩)]⟩
noncomputable def l7 (k : Nat) (x19 : List (List Int)) (i20 : Int) (x21 : List Int) (i22 : Int) (i23 : Int) (x24 : List (List Int)) (i25 : Int) (x26 : List Int) (x27 : List (Int × Int × Int × List Int)) (x28 : List (List Int)) (i29 : Int) (x30 : List Int) (x31 : List (Int × Int × Int × List Int)) (x32 : List Int) : Option (((List (List Int) × Int × List Int × List (Int × Int × Int × List Int)) × Unit) × (Unit)) :=
  Go.Vm.runT cfg fin k [.inLoop (sub [1, 1, 0, 1, 0, 0, 1, 0, 0, 1, 1, 0, 0] code), .inBlock 2, .inBlock 1, .code (sub [1, 1, 0, 1, 0, 0, 1, 1] code), .inLoop (sub [1, 1, 0, 1, 0, 0] code), .inBlock 0, .code (sub [1, 1, 1] code)]
    ⟨[.rptr false [⟨(.sl (.sl (.int .i64))), .sh, x19⟩], .val false [⟨(.int .i64), .sh, i20⟩], .val false [⟨(.sl (.int .i64)), .sh, x21⟩], .dead, .dead, .dead, .ref 24 (.root 0), .ref 28 (.root 0), .val false [⟨(.int .i64), .sh, i22⟩], .view 36 (.root 0) 1 false, .val false [⟨(.int .i64), .sh, i23⟩]] ++ deads 44, [(24, ⟨true, [⟨(.sl (.sl (.int .i64))), .deep, x24⟩, ⟨(.int .i64), .sh, i25⟩, ⟨(.sl (.int .i64)), .deep, x26⟩, ⟨(.sl TMatrix), .deep, x27⟩]⟩), (28, ⟨true, [⟨(.sl (.sl (.int .i64))), .deep, x28⟩, ⟨(.int .i64), .sh, i29⟩, ⟨(.sl (.int .i64)), .deep, x30⟩, ⟨(.sl TMatrix), .deep, x31⟩]⟩), (36, ⟨false, [⟨(.sl (.int .i64)), .deep, x32⟩]⟩)]⟩
theorem l3_eq (k : Nat) (x6 : List (List Int)) (i7 : Int) (x8 : List Int) (i9 : Int) (x10 : List (List Int)) (i11 : Int) (x12 : List Int) (x13 : List (Int × Int × Int × List Int)) (x14 : List (List Int)) (i15 : Int) (x16 : List Int) (x17 : List (Int × Int × Int × List Int)) : l3 (k + 1) x6 i7 x8 i9 x10 i11 x12 x13 x14 i15 x16 x17 =
  if (decide (i9 < (x6.length : Int))) = true then
    (spec_l05Faces.F (x6, i9, ())).bind fun r18 =>
      l7 k x6 i7 x8 i9 (0 : Int) x10 i11 x12 x13 x14 i15 x16 x17 r18.1.1
  else
    some (((x14, (i15, (x16, x17))), ()), ()) := by kernel_rfl
theorem l7_eq (k : Nat) (x19 : List (List Int)) (i20 : Int) (x21 : List Int) (i22 : Int) (i23 : Int) (x24 : List (List Int)) (i25 : Int) (x26 : List Int) (x27 : List (Int × Int × Int × List Int)) (x28 : List (List Int)) (i29 : Int) (x30 : List Int) (x31 : List (Int × Int × Int × List Int)) (x32 : List Int) : l7 (k + 1) x19 i20 x21 i22 i23 x24 i25 x26 x27 x28 i29 x30 x31 x32 =
  if (decide (i23 < (x32.length : Int))) = true then
    if 0 ≤ i22 ∧ i22 < (x21.length : Int) then
      if 0 ≤ i23 ∧ i23 < (x32.length : Int) then
        if 0 ≤ (x32.getD i23.toNat 0 : Int) ∧ (x32.getD i23.toNat 0 : Int) < (x21.length : Int) then
          (spec_l03Zero.F (i20, (x21.getD i22.toNat 0 : Int), x21.getD (x32.getD i23.toNat 0 : Int).toNat 0, ())).bind fun r33 =>
            if x31.length + ([r33.1.1] : List (Int × Int × Int × List Int)).length ≤ bigA then
              l7 k x19 i20 x21 i22 (IntKind.i64.wrap (i23 + (1 : Int))) x24 i25 x26 x27 x28 i29 x30 (x31 ++ ([r33.1.1])) x32
            else
              none
        else
          none
      else
        none
    else
      none
  else
    l3 k x19 i20 x21 (IntKind.i64.wrap (i22 + (1 : Int))) x24 i25 x26 x27 x28 i29 x30 x31 := by kernel_rfl
noncomputable def T (k : Nat) (c_1 : List (List Int)) (p_2 : Int) (stalks_3 : List Int) : Option (((List (List Int) × Int × List Int × List (Int × Int × Int × List Int)) × Unit) × (Unit)) :=
  (spec_l05Skeleton.F (c_1, (3 : Int), ())).bind fun r4 =>
    (spec_l00Own.F (stalks_3, ())).bind fun r5 =>
      l3 k c_1 p_2 stalks_3 (0 : Int) ([]) 0 ([]) ([]) r4.1.1 p_2 r5.1.1 ([] : List (Int × Int × Int × List Int))
theorem of (c_1 : List (List Int)) (p_2 : Int) (stalks_3 : List Int) {r : ((List (List Int) × Int × List Int × List (Int × Int × Int × List Int)) × Unit) × (Unit)} (h : Ev (fun k => T k c_1 p_2 stalks_3) r) : F (c_1, p_2, stalks_3, ()) = some r := Ev.run (fun k => by kernel_rfl) h
theorem ok : CtxOK prog ctx := ⟨nilM, mixed_ok, tab_ok tab_good, consM ⟨spec_l05Faces.S, consM ⟨spec_l05Skeleton.S, consM ⟨spec_l00Own.S, consM ⟨spec_l03Zero.S, nilM⟩⟩⟩⟩, nilM, nilM⟩
theorem S : Sound prog ⟨130, sig, F⟩ := sound_k (res := [.cell 6 46]) func130 ok
end spec_l09New
namespace spec_l00Has
noncomputable def sig : Sig := ⟨[.val false (.sl (.int .i64)), .val false (.int .i64)], [(.val false, .bool, .deep)]⟩
noncomputable def ctx : Ctx := ⟨tabOf tabl, [], [], [], [], []⟩
noncomputable def cfg : Cfg := ⟨ctx, [], [], fun id => match id with | 2 => ([0, 1, 5], []) | _ => ([], []), fun _ => []⟩
noncomputable def code : Code := (f113).body.getD .skip
noncomputable def fin := finK ctx sig [.tmp 4]
noncomputable def F (d : List Int × Int × Unit) : Option ((Bool × Unit) × (Unit)) := anyK (runFn cfg fin code (initSt sig.ps d 18))
noncomputable def l2 (k : Nat) (x3 : List Int) (i4 : Int) (i5 : Int) : Option ((Bool × Unit) × (Unit)) :=
  Go.Vm.runT cfg fin k [.inLoop (sub [1, 0, 1, 0, 0] code), .inBlock 0, .code (sub [1, 1] code)]
    ⟨[.val false [⟨(.sl (.int .i64)), .sh, x3⟩], .val false [⟨(.int .i64), .sh, i4⟩], .dead, .dead, .dead, .val false [⟨(.int .i64), .sh, i5⟩]] ++ deads 12, []⟩
theorem l2_eq (k : Nat) (x3 : List Int) (i4 : Int) (i5 : Int) : l2 (k + 1) x3 i4 i5 =
  if (decide (i5 < (x3.length : Int))) = true then
    if 0 ≤ i5 ∧ i5 < (x3.length : Int) then
      if ((x3.getD i5.toNat 0 : Int) == i4) = true then
        some ((true, ()), ())
      else
        l2 k x3 i4 (IntKind.i64.wrap (i5 + (1 : Int)))
    else
      none
  else
    some ((false, ()), ()) := by kernel_rfl
noncomputable def T (k : Nat) (list_1 : List Int) (n_2 : Int) : Option ((Bool × Unit) × (Unit)) :=
  l2 k list_1 n_2 (0 : Int)
theorem of (list_1 : List Int) (n_2 : Int) {r : (Bool × Unit) × (Unit)} (h : Ev (fun k => T k list_1 n_2) r) : F (list_1, n_2, ()) = some r := Ev.run (fun k => by kernel_rfl) h
theorem ok : CtxOK prog ctx := ⟨nilM, mixed_ok, tab_ok tab_good, nilM, nilM, nilM⟩
theorem S : Sound prog ⟨113, sig, F⟩ := sound_k (res := [.tmp 4]) func113 ok
end spec_l00Has
namespace spec_l03Unit
noncomputable def sig : Sig := ⟨[.val false (.int .i64), .val false (.int .i64)], [(.val true, TMatrix, .deep)]⟩
noncomputable def ctx : Ctx := ⟨tabOf tabl, [⟨207, spec_l03Zero.sig, spec_l03Zero.F⟩], [], [], [], []⟩
noncomputable def cfg : Cfg := ⟨ctx, [], [], fun id => match id with | 3 => ([1, 4, 5, 6], [16, 20]) | _ => ([], []), fun _ => []⟩
noncomputable def code : Code := (f251).body.getD .skip
noncomputable def fin := finK ctx sig [.cell 4 87]
noncomputable def F (d : Int × Int × Unit) : Option (((Int × Int × Int × List Int) × Unit) × (Unit)) := anyK (runFn cfg fin code (initSt sig.ps d 25))
noncomputable def l3 (k : Nat) (i4 : Int) (i5 : Int) (i6 : Int) (i7 : Int) (i8 : Int) (x9 : List Int) (i10 : Int) (i11 : Int) (i12 : Int) (x13 : List Int) : Option (((Int × Int × Int × List Int) × Unit) × (Unit)) :=
  Go.Vm.runT cfg fin k [.inLoop (sub [1, 1, 0, 1, 0, 0] code), .inBlock 0, .code (sub [1, 1, 1] code)]
    ⟨[.dead, .val false [⟨(.int .i64), .sh, i4⟩], .dead, .dead, .ref 16 (.root 0), .ref 20 (.root 0), .val false [⟨(.int .i64), .sh, i5⟩]] ++ deads 18, [(16, ⟨true, [⟨(.int .i64), .sh, i6⟩, ⟨(.int .i64), .sh, i7⟩, ⟨(.int .i64), .sh, i8⟩, ⟨(.sl (.int .i64)), .deep, x9⟩]⟩), (20, ⟨true, [⟨(.int .i64), .sh, i10⟩, ⟨(.int .i64), .sh, i11⟩, ⟨(.int .i64), .sh, i12⟩, ⟨(.sl (.int .i64)), .deep, x13⟩]⟩)]⟩
theorem l3_eq (k : Nat) (i4 : Int) (i5 : Int) (i6 : Int) (i7 : Int) (i8 : Int) (x9 : List Int) (i10 : Int) (i11 : Int) (i12 : Int) (x13 : List Int) : l3 (k + 1) i4 i5 i6 i7 i8 x9 i10 i11 i12 x13 =
  if (decide (i5 < i4)) = true then
    if 0 ≤ (IntKind.i64.wrap ((IntKind.i64.wrap (i5 * i4)) + i5)) ∧ (IntKind.i64.wrap ((IntKind.i64.wrap (i5 * i4)) + i5)) < (x13.length : Int) then
      l3 k i4 (IntKind.i64.wrap (i5 + (1 : Int))) i6 i7 i8 x9 i10 i11 i12 (x13.set (IntKind.i64.wrap ((IntKind.i64.wrap (i5 * i4)) + i5)).toNat (1 : Int))
    else
      none
  else
    some (((i10, (i11, (i12, x13))), ()), ()) := by kernel_rfl
noncomputable def T (k : Nat) (p_1 : Int) (n_2 : Int) : Option (((Int × Int × Int × List Int) × Unit) × (Unit)) :=
  (spec_l03Zero.F (p_1, n_2, n_2, ())).bind fun r3 =>
    l3 k n_2 (0 : Int) 0 0 0 ([]) (r3.1.1.1 : Int) (r3.1.1.2.1 : Int) (r3.1.1.2.2.1 : Int) r3.1.1.2.2.2
theorem of (p_1 : Int) (n_2 : Int) {r : ((Int × Int × Int × List Int) × Unit) × (Unit)} (h : Ev (fun k => T k p_1 n_2) r) : F (p_1, n_2, ()) = some r := Ev.run (fun k => by kernel_rfl) h
theorem ok : CtxOK prog ctx := ⟨nilM, mixed_ok, tab_ok tab_good, consM ⟨spec_l03Zero.S, nilM⟩, nilM, nilM⟩
theorem S : Sound prog ⟨251, sig, F⟩ := sound_k (res := [.cell 4 87]) func251 ok
end spec_l03Unit
namespace spec_l09Restrict
noncomputable def sig : Sig := ⟨[.rptr TSheaf, .val false (.int .i64), .val false (.int .i64)], [(.val true, TMatrix, .deep)]⟩
noncomputable def ctx (self : ((List (List Int) × Int × List Int × List (Int × Int × Int × List Int)) × Int × Int × Unit) → Option (((Int × Int × Int × List Int) × Unit) × (Unit))) : Ctx := ⟨tabOf tabl, [⟨113, spec_l00Has.sig, spec_l00Has.F⟩, ⟨115, spec_l05Faces.sig, spec_l05Faces.F⟩, ⟨222, spec_l09Get.sig, spec_l09Get.F⟩, ⟨251, spec_l03Unit.sig, spec_l03Unit.F⟩, ⟨280, spec_l03Times.sig, spec_l03Times.F⟩, ⟨230, sig, self⟩], [], [], [], []⟩
noncomputable def cfg (self : ((List (List Int) × Int × List Int × List (Int × Int × Int × List Int)) × Int × Int × Unit) → Option (((Int × Int × Int × List Int) × Unit) × (Unit))) : Cfg := ⟨(ctx self), [], [], fun id => match id with | 5 => ([0, 1, 2, 6, 7, 8], [24]) | _ => ([], []), fun _ => []⟩
noncomputable def code : Code := (f230).body.getD .skip
noncomputable def fin (self : ((List (List Int) × Int × List Int × List (Int × Int × Int × List Int)) × Int × Int × Unit) → Option (((Int × Int × Int × List Int) × Unit) × (Unit))) := finK (ctx self) sig [.cell 6 87]
noncomputable def step (self : ((List (List Int) × Int × List Int × List (Int × Int × Int × List Int)) × Int × Int × Unit) → Option (((Int × Int × Int × List Int) × Unit) × (Unit))) (d : (List (List Int) × Int × List Int × List (Int × Int × Int × List Int)) × Int × Int × Unit) : Option (((Int × Int × Int × List Int) × Unit) × (Unit)) := anyK (runFn (cfg self) (fin self) code (initSt sig.ps d 64))
noncomputable def l5 (self : ((List (List Int) × Int × List Int × List (Int × Int × Int × List Int)) × Int × Int × Unit) → Option (((Int × Int × Int × List Int) × Unit) × (Unit))) (k : Nat) (x8 : List (List Int)) (i9 : Int) (x10 : List Int) (x11 : List (Int × Int × Int × List Int)) (i12 : Int) (i13 : Int) (x14 : List Int) (i15 : Int) (i16 : Int) (i17 : Int) (i18 : Int) (x19 : List Int) : Option (((Int × Int × Int × List Int) × Unit) × (Unit)) :=
  Go.Vm.runT (cfg self) (fin self) k [.inLoop (sub [1, 1, 1, 1, 0, 0, 0] code), .inBlock 0, .code (sub [1, 1, 1, 1, 1] code)]
    ⟨[.rptr false [⟨(.sl (.sl (.int .i64))), .sh, x8⟩, ⟨(.int .i64), .sh, i9⟩, ⟨(.sl (.int .i64)), .sh, x10⟩, ⟨(.sl TMatrix), .sh, x11⟩], .val false [⟨(.int .i64), .sh, i12⟩], .val false [⟨(.int .i64), .sh, i13⟩], .dead, .dead, .dead, .ref 24 (.root 0), .val false [⟨(.sl (.int .i64)), .sh, x14⟩], .val false [⟨(.int .i64), .sh, i15⟩]] ++ deads 55, [(24, ⟨true, [⟨(.int .i64), .sh, i16⟩, ⟨(.int .i64), .sh, i17⟩, ⟨(.int .i64), .sh, i18⟩, ⟨(.sl (.int .i64)), .deep, x19⟩]⟩)]⟩
theorem l5_eq (self : ((List (List Int) × Int × List Int × List (Int × Int × Int × List Int)) × Int × Int × Unit) → Option (((Int × Int × Int × List Int) × Unit) × (Unit))) (k : Nat) (x8 : List (List Int)) (i9 : Int) (x10 : List Int) (x11 : List (Int × Int × Int × List Int)) (i12 : Int) (i13 : Int) (x14 : List Int) (i15 : Int) (i16 : Int) (i17 : Int) (i18 : Int) (x19 : List Int) : l5 self (k + 1) x8 i9 x10 x11 i12 i13 x14 i15 i16 i17 i18 x19 =
  if 0 ≤ i12 ∧ i12 < (x8.length : Int) then
    if 0 ≤ i15 ∧ i15 < (x14.length : Int) then
      (spec_l00Has.F (x8.getD i12.toNat ([] : List Int), (x14.getD i15.toNat 0 : Int), ())).bind fun r20 =>
        if (r20.1.1 : Bool) = true then
          l5 self k x8 i9 x10 x11 i12 i13 x14 (IntKind.i64.wrap (i15 + (1 : Int))) i16 i17 i18 x19
        else
          (spec_l05Faces.F (x8, i13, ())).bind fun r21 =>
            if 0 ≤ i15 ∧ i15 < (r21.1.1.length : Int) then
              (self ((x8, (i9, (x10, x11))), i12, (r21.1.1.getD i15.toNat 0 : Int), ())).bind fun r22 =>
                (spec_l09Get.F ((x8, (i9, (x10, x11))), i13, i15, ())).bind fun r23 =>
                  (spec_l03Times.F (r23.1.1, r22.1.1, ())).bind fun r24 =>
                    some ((r24.1.1, ()), ())
            else
              none
    else
      none
  else
    none := by kernel_rfl
noncomputable def T (self : ((List (List Int) × Int × List Int × List (Int × Int × Int × List Int)) × Int × Int × Unit) → Option (((Int × Int × Int × List Int) × Unit) × (Unit))) (k : Nat) (s_1 : List (List Int)) (s_2 : Int) (s_3 : List Int) (s_4 : List (Int × Int × Int × List Int)) (face_5 : Int) (simplex_6 : Int) : Option (((Int × Int × Int × List Int) × Unit) × (Unit)) :=
  if (face_5 == simplex_6) = true then
    if 0 ≤ face_5 ∧ face_5 < (s_3.length : Int) then
      (spec_l03Unit.F (s_2, (s_3.getD face_5.toNat 0 : Int), ())).bind fun r7 =>
        some ((r7.1.1, ()), ())
    else
      none
  else
    if 0 ≤ simplex_6 ∧ simplex_6 < (s_1.length : Int) then
      l5 self k s_1 s_2 s_3 s_4 face_5 simplex_6 (s_1.getD simplex_6.toNat ([] : List Int)) (0 : Int) 0 0 0 ([])
    else
      none
theorem run (self : ((List (List Int) × Int × List Int × List (Int × Int × Int × List Int)) × Int × Int × Unit) → Option (((Int × Int × Int × List Int) × Unit) × (Unit))) (k : Nat) (s_1 : List (List Int)) (s_2 : Int) (s_3 : List Int) (s_4 : List (Int × Int × Int × List Int)) (face_5 : Int) (simplex_6 : Int) : runFn (cfg self) (fin self) code (initSt sig.ps ((s_1, (s_2, (s_3, s_4))), face_5, simplex_6, ()) 64) k = T self k s_1 s_2 s_3 s_4 face_5 simplex_6 := by kernel_rfl
theorem of (self : ((List (List Int) × Int × List Int × List (Int × Int × Int × List Int)) × Int × Int × Unit) → Option (((Int × Int × Int × List Int) × Unit) × (Unit))) (s_1 : List (List Int)) (s_2 : Int) (s_3 : List Int) (s_4 : List (Int × Int × Int × List Int)) (face_5 : Int) (simplex_6 : Int) {r : ((Int × Int × Int × List Int) × Unit) × (Unit)} (h : Ev (fun k => T self k s_1 s_2 s_3 s_4 face_5 simplex_6) r) : step self ((s_1, (s_2, (s_3, s_4))), face_5, simplex_6, ()) = some r := Ev.run (fun k => run self k s_1 s_2 s_3 s_4 face_5 simplex_6) h
theorem ok (self : ((List (List Int) × Int × List Int × List (Int × Int × Int × List Int)) × Int × Int × Unit) → Option (((Int × Int × Int × List Int) × Unit) × (Unit))) (hs : Sound prog ⟨230, sig, self⟩) : CtxOK prog (ctx self) := ⟨nilM, mixed_ok, tab_ok tab_good, consM ⟨spec_l00Has.S, consM ⟨spec_l05Faces.S, consM ⟨spec_l09Get.S, consM ⟨spec_l03Unit.S, consM ⟨spec_l03Times.S, consM ⟨hs, nilM⟩⟩⟩⟩⟩⟩, nilM, nilM⟩
theorem stepS (self : ((List (List Int) × Int × List Int × List (Int × Int × Int × List Int)) × Int × Int × Unit) → Option (((Int × Int × Int × List Int) × Unit) × (Unit))) (hs : Sound prog ⟨230, sig, self⟩) : Sound prog ⟨230, sig, step self⟩ := sound_any (fn := f230) (code := code) (g := cfg self) (res := [.cell 6 87]) func230 (by kernel_rfl) (by kernel_rfl) (ok self hs) (by kernel_rfl) (by kernel_rfl) (Nat.le_of_ble_eq_true (by kernel_rfl)) (by kernel_rfl)
noncomputable def R : Nat → ((List (List Int) × Int × List Int × List (Int × Int × Int × List Int)) × Int × Int × Unit) → Option (((Int × Int × Int × List Int) × Unit) × (Unit)) := recF step
noncomputable def F (d : (List (List Int) × Int × List Int × List (Int × Int × Int × List Int)) × Int × Int × Unit) : Option (((Int × Int × Int × List Int) × Unit) × (Unit)) := anyE fun q => R q d
theorem ofR {d : (List (List Int) × Int × List Int × List (Int × Int × Int × List Int)) × Int × Int × Unit} {r : ((Int × Int × Int × List Int) × Unit) × (Unit)} (h : Ev (fun q => R q d) r) : F d = some r := anyE_of h
theorem S : Sound prog ⟨230, sig, F⟩ := sound_rec ⟨_, func230, by kernel_rfl, by kernel_rfl⟩ fun self h => stepS self h
end spec_l09Restrict
namespace spec_l13Pull
noncomputable def sig : Sig := ⟨[.rptr TSheaf, .rptr (.sl (.sl (.int .i64))), .val false (.sl (.int .i64))], [(.val true, TSheaf, .deep)]⟩
noncomputable def ctx : Ctx := ⟨tabOf tabl, [⟨95, spec_l13Image.sig, spec_l13Image.F⟩, ⟨101, spec_l05Find.sig, spec_l05Find.F⟩, ⟨115, spec_l05Faces.sig, spec_l05Faces.F⟩, ⟨117, spec_l09Place.sig, spec_l09Place.F⟩, ⟨130, spec_l09New.sig, spec_l09New.F⟩, ⟨230, spec_l09Restrict.sig, spec_l09Restrict.F⟩], [], [], [], []⟩
noncomputable def cfg : Cfg := ⟨ctx, [], [], fun id => match id with | 4 => ([0, 1, 2, 6, 7, 8, 9], [24, 28, 32]) | 11 => ([0, 1, 6, 7, 11, 12], [24, 28, 44]) | 15 => ([0, 1, 6, 7, 11, 12, 13, 14], [24, 28, 44, 52]) | _ => ([], []), fun _ => []⟩
noncomputable def code : Code := (f148).body.getD .skip
noncomputable def fin := finK ctx sig [.cell 6 46]
noncomputable def F (d : (List (List Int) × Int × List Int × List (Int × Int × Int × List Int)) × List (List Int) × List Int × Unit) : Option (((List (List Int) × Int × List Int × List (Int × Int × Int × List Int)) × Unit) × (Unit)) := anyK (runFn cfg fin code (initSt sig.ps d 100))
noncomputable def l4 (k : Nat) (x7 : List (List Int)) (i8 : Int) (x9 : List Int) (x10 : List (Int × Int × Int × List Int)) (x11 : List (List Int)) (x12 : List Int) (i13 : Int) (x14 : List (List Int)) (i15 : Int) (x16 : List Int) (x17 : List (Int × Int × Int × List Int)) (x18 : List Int) (x19 : List Int) : Option (((List (List Int) × Int × List Int × List (Int × Int × Int × List Int)) × Unit) × (Unit)) :=
  Go.Vm.runT cfg fin k [.inLoop (sub [1, 1, 1, 0, 1, 0, 0] code), .inBlock 0, .code (sub [1, 1, 1, 1] code)]
    ⟨[.rptr false [⟨(.sl (.sl (.int .i64))), .sh, x7⟩, ⟨(.int .i64), .sh, i8⟩, ⟨(.sl (.int .i64)), .sh, x9⟩, ⟨(.sl TMatrix), .sh, x10⟩], .rptr false [⟨(.sl (.sl (.int .i64))), .sh, x11⟩], .val false [⟨(.sl (.int .i64)), .sh, x12⟩], .dead, .dead, .dead, .ref 24 (.root 0), .view 28 (.root 0) 1 false, .view 32 (.root 0) 1 false, .val false [⟨(.int .i64), .sh, i13⟩]] ++ deads 90, [(24, ⟨true, [⟨(.sl (.sl (.int .i64))), .deep, x14⟩, ⟨(.int .i64), .sh, i15⟩, ⟨(.sl (.int .i64)), .deep, x16⟩, ⟨(.sl TMatrix), .deep, x17⟩]⟩), (28, ⟨false, [⟨(.sl (.int .i64)), .deep, x18⟩]⟩), (32, ⟨false, [⟨(.sl (.int .i64)), .deep, x19⟩]⟩)]⟩
noncomputable def l11 (k : Nat) (x23 : List (List Int)) (i24 : Int) (x25 : List Int) (x26 : List (Int × Int × Int × List Int)) (x27 : List (List Int)) (i28 : Int) (x29 : List (List Int)) (i30 : Int) (x31 : List Int) (x32 : List (Int × Int × Int × List Int)) (x33 : List Int) (x34 : List (List Int)) (i35 : Int) (x36 : List Int) (x37 : List (Int × Int × Int × List Int)) : Option (((List (List Int) × Int × List Int × List (Int × Int × Int × List Int)) × Unit) × (Unit)) :=
  Go.Vm.runT cfg fin k [.inLoop (sub [1, 1, 1, 1, 1, 0, 1, 0, 0] code), .inBlock 2, .code (sub [1, 1, 1, 1, 1, 1] code)]
    ⟨[.rptr false [⟨(.sl (.sl (.int .i64))), .sh, x23⟩, ⟨(.int .i64), .sh, i24⟩, ⟨(.sl (.int .i64)), .sh, x25⟩, ⟨(.sl TMatrix), .sh, x26⟩], .rptr false [⟨(.sl (.sl (.int .i64))), .sh, x27⟩], .dead, .dead, .dead, .dead, .ref 24 (.root 0), .view 28 (.root 0) 1 false, .dead, .dead, .dead, .ref 44 (.root 0), .val false [⟨(.int .i64), .sh, i28⟩]] ++ deads 87, [(24, ⟨true, [⟨(.sl (.sl (.int .i64))), .deep, x29⟩, ⟨(.int .i64), .sh, i30⟩, ⟨(.sl (.int .i64)), .deep, x31⟩, ⟨(.sl TMatrix), .deep, x32⟩]⟩), (28, ⟨false, [⟨(.sl (.int .i64)), .deep, x33⟩]⟩), (44, ⟨true, [⟨(.sl (.sl (.int .i64))), .deep, x34⟩, ⟨(.int .i64), .sh, i35⟩, ⟨(.sl (.int .i64)), .deep, x36⟩, ⟨(.sl TMatrix), .deep, x37⟩]⟩)]⟩
noncomputable def l15 (k : Nat) (x39 : List (List Int)) (i40 : Int) (x41 : List Int) (x42 : List (Int × Int × Int × List Int)) (x43 : List (List Int)) (i44 : Int) (i45 : Int) (x46 : List (List Int)) (i47 : Int) (x48 : List Int) (x49 : List (Int × Int × Int × List Int)) (x50 : List Int) (x51 : List (List Int)) (i52 : Int) (x53 : List Int) (x54 : List (Int × Int × Int × List Int)) (x55 : List Int) : Option (((List (List Int) × Int × List Int × List (Int × Int × Int × List Int)) × Unit) × (Unit)) :=
  Go.Vm.runT cfg fin k [.inLoop (sub [1, 1, 1, 1, 1, 0, 1, 0, 0, 1, 0, 0, 1, 1, 0, 0] code), .inBlock 4, .inBlock 3, .code (sub [1, 1, 1, 1, 1, 0, 1, 0, 0, 1, 1] code), .inLoop (sub [1, 1, 1, 1, 1, 0, 1, 0, 0] code), .inBlock 2, .code (sub [1, 1, 1, 1, 1, 1] code)]
    ⟨[.rptr false [⟨(.sl (.sl (.int .i64))), .sh, x39⟩, ⟨(.int .i64), .sh, i40⟩, ⟨(.sl (.int .i64)), .sh, x41⟩, ⟨(.sl TMatrix), .sh, x42⟩], .rptr false [⟨(.sl (.sl (.int .i64))), .sh, x43⟩], .dead, .dead, .dead, .dead, .ref 24 (.root 0), .view 28 (.root 0) 1 false, .dead, .dead, .dead, .ref 44 (.root 0), .val false [⟨(.int .i64), .sh, i44⟩], .view 52 (.root 0) 1 false, .val false [⟨(.int .i64), .sh, i45⟩]] ++ deads 85, [(24, ⟨true, [⟨(.sl (.sl (.int .i64))), .deep, x46⟩, ⟨(.int .i64), .sh, i47⟩, ⟨(.sl (.int .i64)), .deep, x48⟩, ⟨(.sl TMatrix), .deep, x49⟩]⟩), (28, ⟨false, [⟨(.sl (.int .i64)), .deep, x50⟩]⟩), (44, ⟨true, [⟨(.sl (.sl (.int .i64))), .deep, x51⟩, ⟨(.int .i64), .sh, i52⟩, ⟨(.sl (.int .i64)), .deep, x53⟩, ⟨(.sl TMatrix), .deep, x54⟩]⟩), (52, ⟨false, [⟨(.sl (.int .i64)), .deep, x55⟩]⟩)]⟩
theorem l4_eq (k : Nat) (x7 : List (List Int)) (i8 : Int) (x9 : List Int) (x10 : List (Int × Int × Int × List Int)) (x11 : List (List Int)) (x12 : List Int) (i13 : Int) (x14 : List (List Int)) (i15 : Int) (x16 : List Int) (x17 : List (Int × Int × Int × List Int)) (x18 : List Int) (x19 : List Int) : l4 (k + 1) x7 i8 x9 x10 x11 x12 i13 x14 i15 x16 x17 x18 x19 =
  if (decide (i13 < (x11.length : Int))) = true then
    if 0 ≤ i13 ∧ i13 < (x11.length : Int) then
      (spec_l13Image.F (x11, x12, x11.getD i13.toNat ([] : List Int), ())).bind fun r20 =>
        (spec_l05Find.F (x7, r20.1.1, ())).bind fun r21 =>
          if x18.length + ([(r21.1.1 : Int)] : List Int).length ≤ bigA then
            if 0 ≤ (r21.1.1 : Int) ∧ (r21.1.1 : Int) < (x9.length : Int) then
              if x19.length + ([x9.getD (r21.1.1 : Int).toNat 0] : List Int).length ≤ bigA then
                l4 k x7 i8 x9 x10 x11 x12 (IntKind.i64.wrap (i13 + (1 : Int))) x14 i15 x16 x17 (x18 ++ ([(r21.1.1 : Int)])) (x19 ++ ([x9.getD (r21.1.1 : Int).toNat 0]))
              else
                none
            else
              none
          else
            none
    else
      none
  else
    (spec_l09New.F (x11, i8, x19, ())).bind fun r22 =>
      l11 k x7 i8 x9 x10 x11 (0 : Int) x14 i15 x16 x17 x18 r22.1.1.1 (r22.1.1.2.1 : Int) r22.1.1.2.2.1 r22.1.1.2.2.2 := by kernel_rfl
theorem l11_eq (k : Nat) (x23 : List (List Int)) (i24 : Int) (x25 : List Int) (x26 : List (Int × Int × Int × List Int)) (x27 : List (List Int)) (i28 : Int) (x29 : List (List Int)) (i30 : Int) (x31 : List Int) (x32 : List (Int × Int × Int × List Int)) (x33 : List Int) (x34 : List (List Int)) (i35 : Int) (x36 : List Int) (x37 : List (Int × Int × Int × List Int)) : l11 (k + 1) x23 i24 x25 x26 x27 i28 x29 i30 x31 x32 x33 x34 i35 x36 x37 =
  if (decide (i28 < (x27.length : Int))) = true then
    (spec_l05Faces.F (x27, i28, ())).bind fun r38 =>
      l15 k x23 i24 x25 x26 x27 i28 (0 : Int) x29 i30 x31 x32 x33 x34 i35 x36 x37 r38.1.1
  else
    some (((x34, (i35, (x36, x37))), ()), ()) := by kernel_rfl
theorem l15_eq (k : Nat) (x39 : List (List Int)) (i40 : Int) (x41 : List Int) (x42 : List (Int × Int × Int × List Int)) (x43 : List (List Int)) (i44 : Int) (i45 : Int) (x46 : List (List Int)) (i47 : Int) (x48 : List Int) (x49 : List (Int × Int × Int × List Int)) (x50 : List Int) (x51 : List (List Int)) (i52 : Int) (x53 : List Int) (x54 : List (Int × Int × Int × List Int)) (x55 : List Int) : l15 (k + 1) x39 i40 x41 x42 x43 i44 i45 x46 i47 x48 x49 x50 x51 i52 x53 x54 x55 =
  if (decide (i45 < (x55.length : Int))) = true then
    (spec_l09Place.F (x43, i44, i45, ())).bind fun r56 =>
      if 0 ≤ i45 ∧ i45 < (x55.length : Int) then
        if 0 ≤ (x55.getD i45.toNat 0 : Int) ∧ (x55.getD i45.toNat 0 : Int) < (x50.length : Int) then
          if 0 ≤ i44 ∧ i44 < (x50.length : Int) then
            (spec_l09Restrict.F ((x39, (i40, (x41, x42))), x50.getD (x55.getD i45.toNat 0 : Int).toNat 0, (x50.getD i44.toNat 0 : Int), ())).bind fun r57 =>
              if 0 ≤ (r56.1.1 : Int) ∧ (r56.1.1 : Int) < (x54.length : Int) then
                l15 k x39 i40 x41 x42 x43 i44 (IntKind.i64.wrap (i45 + (1 : Int))) x46 i47 x48 x49 x50 x51 i52 x53 (x54.set (r56.1.1 : Int).toNat r57.1.1) x55
              else
                none
          else
            none
        else
          none
      else
        none
  else
    l11 k x39 i40 x41 x42 x43 (IntKind.i64.wrap (i44 + (1 : Int))) x46 i47 x48 x49 x50 x51 i52 x53 x54 := by kernel_rfl
noncomputable def T (k : Nat) (toArray_1 : List (List Int)) (toArray_2 : Int) (toArray_3 : List Int) (toArray_4 : List (Int × Int × Int × List Int)) (a_5 : List (List Int)) (a_6 : List Int) : Option (((List (List Int) × Int × List Int × List (Int × Int × Int × List Int)) × Unit) × (Unit)) :=
  l4 k toArray_1 toArray_2 toArray_3 toArray_4 a_5 a_6 (0 : Int) ([]) 0 ([]) ([]) ([] : List Int) ([] : List Int)
theorem of (toArray_1 : List (List Int)) (toArray_2 : Int) (toArray_3 : List Int) (toArray_4 : List (Int × Int × Int × List Int)) (a_5 : List (List Int)) (a_6 : List Int) {r : ((List (List Int) × Int × List Int × List (Int × Int × Int × List Int)) × Unit) × (Unit)} (h : Ev (fun k => T k toArray_1 toArray_2 toArray_3 toArray_4 a_5 a_6) r) : F ((toArray_1, (toArray_2, (toArray_3, toArray_4))), a_5, a_6, ()) = some r := Ev.run (fun k => by kernel_rfl) h
theorem ok : CtxOK prog ctx := ⟨nilM, mixed_ok, tab_ok tab_good, consM ⟨spec_l13Image.S, consM ⟨spec_l05Find.S, consM ⟨spec_l05Faces.S, consM ⟨spec_l09Place.S, consM ⟨spec_l09New.S, consM ⟨spec_l09Restrict.S, nilM⟩⟩⟩⟩⟩⟩, nilM, nilM⟩
theorem S : Sound prog ⟨148, sig, F⟩ := sound_k (res := [.cell 6 46]) func148 ok
end spec_l13Pull
namespace spec_PullSheaf
noncomputable def sig : Sig := ⟨[.val true TSheaf, .val true (.sl (.sl (.int .i64))), .val false (.sl (.int .i64))], [(.val true, TSheaf, .deep), (.val false, (.int .i64), .deep)]⟩
noncomputable def ctx : Ctx := ⟨tabOf tabl, [⟨92, spec_l05Ok.sig, spec_l05Ok.F⟩, ⟨93, spec_l13Map.sig, spec_l13Map.F⟩, ⟨98, spec_l09Is.sig, spec_l09Is.F⟩, ⟨129, spec_l09Stalks.sig, spec_l09Stalks.F⟩, ⟨148, spec_l13Pull.sig, spec_l13Pull.F⟩], [], [], [], []⟩
noncomputable def cfg : Cfg := ⟨ctx, [], [], fun _ => ([], []), fun _ => []⟩
noncomputable def code : Code := (f60).body.getD .skip
noncomputable def fin := finK ctx sig [.cell 6 46, .tmp 7]
noncomputable def F (d : (List (List Int) × Int × List Int × List (Int × Int × Int × List Int)) × List (List Int) × List Int × Unit) : Option (((List (List Int) × Int × List Int × List (Int × Int × Int × List Int)) × Int × Unit) × (Unit)) := anyK (runFn cfg fin code (initSt sig.ps d 29))
noncomputable def T (s_1 : List (List Int)) (s_2 : Int) (s_3 : List Int) (s_4 : List (Int × Int × Int × List Int)) (c_5 : List (List Int)) (images_6 : List Int) : Option (((List (List Int) × Int × List Int × List (Int × Int × Int × List Int)) × Int × Unit) × (Unit)) :=
  (spec_l09Is.F ((s_1, (s_2, (s_3, s_4))), ())).bind fun r7 =>
    if (!(r7.1.1 : Bool)) = true then
      some ((([], (0, ([], []))), ((1 : Int), ())), ())
    else
      (spec_l05Ok.F (c_5, ())).bind fun r8 =>
        if (!(r8.1.1 : Bool)) = true then
          some ((([], (0, ([], []))), ((1 : Int), ())), ())
        else
          (spec_l13Map.F (c_5, s_1, images_6, ())).bind fun r9 =>
            if (!(r9.1.1 : Bool)) = true then
              some ((([], (0, ([], []))), ((6 : Int), ())), ())
            else
              (spec_l13Pull.F ((s_1, (s_2, (s_3, s_4))), c_5, images_6, ())).bind fun r10 =>
                (spec_l09Stalks.F (c_5, r10.1.1.2.2.1, ())).bind fun r11 =>
                  if (!(r11.1.1 : Bool)) = true then
                    some ((([], (0, ([], []))), ((5 : Int), ())), ())
                  else
                    some ((r10.1.1, ((0 : Int), ())), ())
theorem eq (s_1 : List (List Int)) (s_2 : Int) (s_3 : List Int) (s_4 : List (Int × Int × Int × List Int)) (c_5 : List (List Int)) (images_6 : List Int) : F ((s_1, (s_2, (s_3, s_4))), c_5, images_6, ()) = T s_1 s_2 s_3 s_4 c_5 images_6 := eq_any fun k => by kernel_rfl
theorem ok : CtxOK prog ctx := ⟨nilM, mixed_ok, tab_ok tab_good, consM ⟨spec_l05Ok.S, consM ⟨spec_l13Map.S, consM ⟨spec_l09Is.S, consM ⟨spec_l09Stalks.S, consM ⟨spec_l13Pull.S, nilM⟩⟩⟩⟩⟩, nilM, nilM⟩
theorem S : Sound prog ⟨60, sig, F⟩ := sound_k (res := [.cell 6 46, .tmp 7]) func60 ok
end spec_PullSheaf
namespace slices_IndexFunc_Lint64_int64
noncomputable def sig : Sig := ⟨[.val false (.sl (.int .i64)), .fnx ⟨[(false, (.int .i64))], [(.val false, .bool, .deep)]⟩], [(.val false, (.int .i64), .deep)]⟩
noncomputable def ctx : Ctx := ⟨tabOf tabl, [], [], [], [], []⟩
noncomputable def cfg : Cfg := ⟨ctx, [], [], fun id => match id with | 2 => ([0, 1, 7, 8], []) | _ => ([], []), fun _ => []⟩
noncomputable def code : Code := (f209).body.getD .skip
noncomputable def fin := finK ctx sig [.tmp 4]
noncomputable def F (d : List Int × ((Int × Unit) → Option (Bool × Unit)) × Unit) : Option ((Int × Unit) × (Unit)) := anyK (runFn cfg fin code (initSt sig.ps d 19))
noncomputable def l2 (k : Nat) (x3 : List Int) (f4 : (Int × Unit) → Option (Bool × Unit)) (i5 : Int) (i6 : Int) : Option ((Int × Unit) × (Unit)) :=
  Go.Vm.runT cfg fin k [.inLoop (sub [1, 0, 1, 0, 0] code), .inBlock 0, .code (sub [1, 1] code)]
    ⟨[.val false [⟨(.sl (.int .i64)), .sh, x3⟩], .fnx ⟨[(false, (.int .i64))], [(.val false, .bool, .deep)]⟩ f4, .dead, .dead, .dead, .dead, .dead, .val false [⟨(.int .i64), .sh, i5⟩], .val false [⟨(.int .i64), .sh, i6⟩]] ++ deads 10, []⟩
theorem l2_eq (k : Nat) (x3 : List Int) (f4 : (Int × Unit) → Option (Bool × Unit)) (i5 : Int) (i6 : Int) : l2 (k + 1) x3 f4 i5 i6 =
  if (decide (i6 < i5)) = true then
    if 0 ≤ i6 ∧ i6 < (x3.length : Int) then
      (f4 ((x3.getD i6.toNat 0 : Int), ())).bind fun r7 =>
        if (r7.1 : Bool) = true then
          some ((i6, ()), ())
        else
          l2 k x3 f4 i5 (IntKind.i64.wrap (i6 + (1 : Int)))
    else
      none
  else
    some (((-1 : Int), ()), ()) := by kernel_rfl
noncomputable def T (k : Nat) (s_1 : List Int) (f_2 : (Int × Unit) → Option (Bool × Unit)) : Option ((Int × Unit) × (Unit)) :=
  l2 k s_1 f_2 (s_1.length : Int) (0 : Int)
theorem of (s_1 : List Int) (f_2 : (Int × Unit) → Option (Bool × Unit)) {r : (Int × Unit) × (Unit)} (h : Ev (fun k => T k s_1 f_2) r) : F (s_1, f_2, ()) = some r := Ev.run (fun k => by kernel_rfl) h
theorem ok : CtxOK prog ctx := ⟨nilM, mixed_ok, tab_ok tab_good, nilM, nilM, nilM⟩
theorem S : Sound prog ⟨209, sig, F⟩ := sound_k (res := [.tmp 4]) func209 ok
end slices_IndexFunc_Lint64_int64
namespace slices_ContainsFunc_Lint64_int64
noncomputable def sig : Sig := ⟨[.val false (.sl (.int .i64)), .fnx ⟨[(false, (.int .i64))], [(.val false, .bool, .deep)]⟩], [(.val false, .bool, .deep)]⟩
noncomputable def ctx : Ctx := ⟨tabOf tabl, [⟨209, slices_IndexFunc_Lint64_int64.sig, slices_IndexFunc_Lint64_int64.F⟩], [], [], [], []⟩
noncomputable def cfg : Cfg := ⟨ctx, [], [], fun _ => ([], []), fun _ => []⟩
noncomputable def code : Code := (f119).body.getD .skip
noncomputable def fin := finK ctx sig [.tmp 4]
noncomputable def F (d : List Int × ((Int × Unit) → Option (Bool × Unit)) × Unit) : Option ((Bool × Unit) × (Unit)) := anyK (runFn cfg fin code (initSt sig.ps d 9))
noncomputable def T (s_1 : List Int) (f_2 : (Int × Unit) → Option (Bool × Unit)) : Option ((Bool × Unit) × (Unit)) :=
  (slices_IndexFunc_Lint64_int64.F (s_1, f_2, ())).bind fun r3 =>
    some ((decide ((r3.1.1 : Int) ≥ (0 : Int)), ()), ())
theorem eq (s_1 : List Int) (f_2 : (Int × Unit) → Option (Bool × Unit)) : F (s_1, f_2, ()) = T s_1 f_2 := eq_any fun k => by kernel_rfl
theorem ok : CtxOK prog ctx := ⟨nilM, mixed_ok, tab_ok tab_good, consM ⟨slices_IndexFunc_Lint64_int64.S, nilM⟩, nilM, nilM⟩
theorem S : Sound prog ⟨119, sig, F⟩ := sound_k (res := [.tmp 4]) func119 ok
end slices_ContainsFunc_Lint64_int64
namespace impl_isRising
noncomputable def sig : Sig := ⟨[.val false (.sl (.int .i64))], [(.val false, .bool, .deep)]⟩
noncomputable def ctx : Ctx := ⟨tabOf tabl, [], [], [], [], []⟩
noncomputable def cfg : Cfg := ⟨ctx, [], [], fun id => match id with | 2 => ([0, 3], []) | _ => ([], []), fun _ => []⟩
noncomputable def code : Code := (f267).body.getD .skip
noncomputable def fin := finK ctx sig [.tmp 2]
noncomputable def F (d : List Int × Unit) : Option ((Bool × Unit) × (Unit)) := anyK (runFn cfg fin code (initSt sig.ps d 20))
noncomputable def l2 (k : Nat) (x2 : List Int) (i3 : Int) : Option ((Bool × Unit) × (Unit)) :=
  Go.Vm.runT cfg fin k [.inLoop (sub [1, 0, 1, 0, 0] code), .inBlock 0, .code (sub [1, 1] code)]
    ⟨[.val false [⟨(.sl (.int .i64)), .sh, x2⟩], .dead, .dead, .val false [⟨(.int .i64), .sh, i3⟩]] ++ deads 16, []⟩
theorem l2_eq (k : Nat) (x2 : List Int) (i3 : Int) : l2 (k + 1) x2 i3 =
  if (decide (i3 < (x2.length : Int))) = true then
    if 0 ≤ (IntKind.i64.wrap (i3 - (1 : Int))) ∧ (IntKind.i64.wrap (i3 - (1 : Int))) < (x2.length : Int) then
      if 0 ≤ i3 ∧ i3 < (x2.length : Int) then
        if (decide ((x2.getD (IntKind.i64.wrap (i3 - (1 : Int))).toNat 0) ≥ (x2.getD i3.toNat 0 : Int))) = true then
          some ((false, ()), ())
        else
          l2 k x2 (IntKind.i64.wrap (i3 + (1 : Int)))
      else
        none
    else
      none
  else
    some ((true, ()), ()) := by kernel_rfl
noncomputable def T (k : Nat) (list_1 : List Int) : Option ((Bool × Unit) × (Unit)) :=
  l2 k list_1 (1 : Int)
theorem of (list_1 : List Int) {r : (Bool × Unit) × (Unit)} (h : Ev (fun k => T k list_1) r) : F (list_1, ()) = some r := Ev.run (fun k => by kernel_rfl) h
theorem ok : CtxOK prog ctx := ⟨nilM, mixed_ok, tab_ok tab_good, nilM, nilM, nilM⟩
theorem S : Sound prog ⟨267, sig, F⟩ := sound_k (res := [.tmp 2]) func267 ok
end impl_isRising
namespace impl_within
noncomputable def sig : Sig := ⟨[.val false (.int .i64), .val false (.int .i64), .val false (.int .i64)], [(.val false, .bool, .deep)]⟩
noncomputable def ctx : Ctx := ⟨tabOf tabl, [], [], [], [], []⟩
noncomputable def cfg : Cfg := ⟨ctx, [], [], fun _ => ([], []), fun _ => []⟩
noncomputable def code : Code := (f121).body.getD .skip
noncomputable def fin := finK ctx sig [.tmp 6]
noncomputable def F (d : Int × Int × Int × Unit) : Option ((Bool × Unit) × (Unit)) := anyK (runFn cfg fin code (initSt sig.ps d 15))
noncomputable def T (n_1 : Int) (low_2 : Int) (high_3 : Int) : Option ((Bool × Unit) × (Unit)) :=
  if (decide (n_1 ≥ low_2)) = true then
    some ((decide (n_1 ≤ high_3), ()), ())
  else
    some ((false, ()), ())
theorem eq (n_1 : Int) (low_2 : Int) (high_3 : Int) : F (n_1, low_2, high_3, ()) = T n_1 low_2 high_3 := eq_any fun k => by kernel_rfl
theorem ok : CtxOK prog ctx := ⟨nilM, mixed_ok, tab_ok tab_good, nilM, nilM, nilM⟩
theorem S : Sound prog ⟨121, sig, F⟩ := sound_k (res := [.tmp 6]) func121 ok
end impl_within
namespace impl_isVertex
noncomputable def sig : Sig := ⟨[.val false (.int .i64)], [(.val false, .bool, .deep)]⟩
noncomputable def ctx : Ctx := ⟨tabOf tabl, [⟨121, impl_within.sig, impl_within.F⟩], [], [], [], []⟩
noncomputable def cfg : Cfg := ⟨ctx, [], [], fun _ => ([], []), fun _ => []⟩
noncomputable def code : Code := (f269).body.getD .skip
noncomputable def fin := finK ctx sig [.tmp 2]
noncomputable def F (d : Int × Unit) : Option ((Bool × Unit) × (Unit)) := anyK (runFn cfg fin code (initSt sig.ps d 5))
noncomputable def T (v_1 : Int) : Option ((Bool × Unit) × (Unit)) :=
  (impl_within.F (v_1, (0 : Int), (9 : Int), ())).bind fun r2 =>
    some (((r2.1.1 : Bool), ()), ())
theorem eq (v_1 : Int) : F (v_1, ()) = T v_1 := eq_any fun k => by kernel_rfl
theorem ok : CtxOK prog ctx := ⟨nilM, mixed_ok, tab_ok tab_good, consM ⟨impl_within.S, nilM⟩, nilM, nilM⟩
theorem S : Sound prog ⟨269, sig, F⟩ := sound_k (res := [.tmp 2]) func269 ok
end impl_isVertex
namespace impl_ValidSimplex_1
noncomputable def sig : Sig := ⟨[.val false (.int .i64)], [(.val false, .bool, .deep)]⟩
noncomputable def ctx : Ctx := ⟨tabOf tabl, [⟨269, impl_isVertex.sig, impl_isVertex.F⟩], [], [], [], []⟩
noncomputable def cfg : Cfg := ⟨ctx, [], [], fun _ => ([], []), fun _ => []⟩
noncomputable def code : Code := (f268).body.getD .skip
noncomputable def fin := finK ctx sig [.tmp 2]
noncomputable def F (d : Int × Unit) : Option ((Bool × Unit) × (Unit)) := anyK (runFn cfg fin code (initSt sig.ps d 6))
noncomputable def T (v_1 : Int) : Option ((Bool × Unit) × (Unit)) :=
  (impl_isVertex.F (v_1, ())).bind fun r2 =>
    some ((!(r2.1.1 : Bool), ()), ())
theorem eq (v_1 : Int) : F (v_1, ()) = T v_1 := eq_any fun k => by kernel_rfl
theorem ok : CtxOK prog ctx := ⟨nilM, mixed_ok, tab_ok tab_good, consM ⟨impl_isVertex.S, nilM⟩, nilM, nilM⟩
theorem S : Sound prog ⟨268, sig, F⟩ := sound_k (res := [.tmp 2]) func268 ok
noncomputable def cloG (y : Unit) (d : Int × Unit) : Option (Bool × Unit) := (F (joinIns [] [(false, (.int .i64))] d y)).map (·.1)
noncomputable def clo : Clo := ⟨268, ⟨[(false, (.int .i64))], [(.val false, .bool, .deep)]⟩, [], cloG⟩
theorem cloS : SoundClo prog clo := sound_clo (s := ⟨[(false, (.int .i64))], [(.val false, .bool, .deep)]⟩) (caps := []) rfl S
end impl_ValidSimplex_1
namespace impl_ValidSimplex
noncomputable def sig : Sig := ⟨[.val false (.sl (.int .i64))], [(.val false, .bool, .deep)]⟩
noncomputable def ctx : Ctx := ⟨tabOf tabl, [⟨119, slices_ContainsFunc_Lint64_int64.sig, slices_ContainsFunc_Lint64_int64.F⟩, ⟨267, impl_isRising.sig, impl_isRising.F⟩], [impl_ValidSimplex_1.clo], [], [], []⟩
noncomputable def cfg : Cfg := ⟨ctx, [], [], fun _ => ([], []), fun _ => []⟩
noncomputable def code : Code := (f194).body.getD .skip
noncomputable def fin := finK ctx sig [.tmp 2]
noncomputable def F (d : List Int × Unit) : Option ((Bool × Unit) × (Unit)) := anyK (runFn cfg fin code (initSt sig.ps d 20))
noncomputable def T (s_1 : List Int) : Option ((Bool × Unit) × (Unit)) :=
  if (decide ((s_1.length : Int) ≥ (1 : Int))) = true then
    if (decide ((s_1.length : Int) ≤ (4 : Int))) = true then
      (impl_isRising.F (s_1, ())).bind fun r2 =>
        if (r2.1.1 : Bool) = true then
          (slices_ContainsFunc_Lint64_int64.F (s_1, impl_ValidSimplex_1.cloG (()), ())).bind fun r3 =>
            some ((!(r3.1.1 : Bool), ()), ())
        else
          some ((false, ()), ())
    else
      some ((false, ()), ())
  else
    some ((false, ()), ())
theorem eq (s_1 : List Int) : F (s_1, ()) = T s_1 := eq_any fun k => by kernel_rfl
theorem ok : CtxOK prog ctx := ⟨nilM, mixed_ok, tab_ok tab_good, consM ⟨slices_ContainsFunc_Lint64_int64.S, consM ⟨impl_isRising.S, nilM⟩⟩, consM ⟨impl_ValidSimplex_1.cloS, nilM⟩, nilM⟩
theorem S : Sound prog ⟨194, sig, F⟩ := sound_k (res := [.tmp 2]) func194 ok
end impl_ValidSimplex
namespace cmp_Or_int
noncomputable def sig : Sig := ⟨[.val false (.sl (.int .i64))], [(.val false, (.int .i64), .deep)]⟩
noncomputable def ctx : Ctx := ⟨tabOf tabl, [], [], [], [], []⟩
noncomputable def cfg : Cfg := ⟨ctx, [], [], fun id => match id with | 3 => ([3, 6, 7, 8], []) | _ => ([], []), fun _ => []⟩
noncomputable def code : Code := (f270).body.getD .skip
noncomputable def fin := finK ctx sig [.tmp 2]
noncomputable def F (d : List Int × Unit) : Option ((Int × Unit) × (Unit)) := anyK (runFn cfg fin code (initSt sig.ps d 18))
noncomputable def l3 (k : Nat) (i2 : Int) (x3 : List Int) (i4 : Int) (i5 : Int) : Option ((Int × Unit) × (Unit)) :=
  Go.Vm.runT cfg fin k [.inLoop (sub [1, 1, 0, 1, 0, 0] code), .inBlock 0, .code (sub [1, 1, 1] code)]
    ⟨[.dead, .dead, .dead, .val false [⟨(.int .i64), .sh, i2⟩], .dead, .dead, .val false [⟨(.sl (.int .i64)), .sh, x3⟩], .val false [⟨(.int .i64), .sh, i4⟩], .val false [⟨(.int .i64), .sh, i5⟩]] ++ deads 9, []⟩
theorem l3_eq (k : Nat) (i2 : Int) (x3 : List Int) (i4 : Int) (i5 : Int) : l3 (k + 1) i2 x3 i4 i5 =
  if (decide (i5 < i4)) = true then
    if 0 ≤ i5 ∧ i5 < (x3.length : Int) then
      if ((x3.getD i5.toNat 0 : Int) != i2) = true then
        some (((x3.getD i5.toNat 0 : Int), ()), ())
      else
        l3 k i2 x3 i4 (IntKind.i64.wrap (i5 + (1 : Int)))
    else
      none
  else
    some ((i2, ()), ()) := by kernel_rfl
noncomputable def T (k : Nat) (vals_1 : List Int) : Option ((Int × Unit) × (Unit)) :=
  l3 k (0 : Int) vals_1 (vals_1.length : Int) (0 : Int)
theorem of (vals_1 : List Int) {r : (Int × Unit) × (Unit)} (h : Ev (fun k => T k vals_1) r) : F (vals_1, ()) = some r := Ev.run (fun k => by kernel_rfl) h
theorem ok : CtxOK prog ctx := ⟨nilM, mixed_ok, tab_ok tab_good, nilM, nilM, nilM⟩
theorem S : Sound prog ⟨270, sig, F⟩ := sound_k (res := [.tmp 2]) func270 ok
end cmp_Or_int
namespace cmp_isNaN_int
noncomputable def sig : Sig := ⟨[.val false (.int .i64)], [(.val false, .bool, .deep)]⟩
noncomputable def ctx : Ctx := ⟨tabOf tabl, [], [], [], [], []⟩
noncomputable def cfg : Cfg := ⟨ctx, [], [], fun _ => ([], []), fun _ => []⟩
noncomputable def code : Code := (f291).body.getD .skip
noncomputable def fin := finK ctx sig [.tmp 2]
noncomputable def F (d : Int × Unit) : Option ((Bool × Unit) × (Unit)) := anyK (runFn cfg fin code (initSt sig.ps d 6))
noncomputable def T (x_1 : Int) : Option ((Bool × Unit) × (Unit)) :=
  some ((x_1 != x_1, ()), ())
theorem eq (x_1 : Int) : F (x_1, ()) = T x_1 := eq_any fun k => by kernel_rfl
theorem ok : CtxOK prog ctx := ⟨nilM, mixed_ok, tab_ok tab_good, nilM, nilM, nilM⟩
theorem S : Sound prog ⟨291, sig, F⟩ := sound_k (res := [.tmp 2]) func291 ok
end cmp_isNaN_int
namespace cmp_Compare_int
noncomputable def sig : Sig := ⟨[.val false (.int .i64), .val false (.int .i64)], [(.val false, (.int .i64), .deep)]⟩
noncomputable def ctx : Ctx := ⟨tabOf tabl, [⟨291, cmp_isNaN_int.sig, cmp_isNaN_int.F⟩], [], [], [], []⟩
noncomputable def cfg : Cfg := ⟨ctx, [], [], fun _ => ([], []), fun _ => []⟩
noncomputable def code : Code := (f271).body.getD .skip
noncomputable def fin := finK ctx sig [.tmp 4]
noncomputable def F (d : Int × Int × Unit) : Option ((Int × Unit) × (Unit)) := anyK (runFn cfg fin code (initSt sig.ps d 20))
noncomputable def T (x_1 : Int) (y_2 : Int) : Option ((Int × Unit) × (Unit)) :=
  (cmp_isNaN_int.F (x_1, ())).bind fun r3 =>
    (cmp_isNaN_int.F (y_2, ())).bind fun r4 =>
      if (r3.1.1 : Bool) = true then
        if (r4.1.1 : Bool) = true then
          some (((0 : Int), ()), ())
        else
          some (((-1 : Int), ()), ())
      else
        if (r4.1.1 : Bool) = true then
          some (((1 : Int), ()), ())
        else
          if (decide (x_1 < y_2)) = true then
            some (((-1 : Int), ()), ())
          else
            if (decide (x_1 > y_2)) = true then
              some (((1 : Int), ()), ())
            else
              some (((0 : Int), ()), ())
theorem eq (x_1 : Int) (y_2 : Int) : F (x_1, y_2, ()) = T x_1 y_2 := eq_any fun k => by kernel_rfl
theorem ok : CtxOK prog ctx := ⟨nilM, mixed_ok, tab_ok tab_good, consM ⟨cmp_isNaN_int.S, nilM⟩, nilM, nilM⟩
theorem S : Sound prog ⟨271, sig, F⟩ := sound_k (res := [.tmp 4]) func271 ok
end cmp_Compare_int
namespace cmp_isNaN_int64
noncomputable def sig : Sig := ⟨[.val false (.int .i64)], [(.val false, .bool, .deep)]⟩
noncomputable def ctx : Ctx := ⟨tabOf tabl, [], [], [], [], []⟩
noncomputable def cfg : Cfg := ⟨ctx, [], [], fun _ => ([], []), fun _ => []⟩
noncomputable def code : Code := (f314).body.getD .skip
noncomputable def fin := finK ctx sig [.tmp 2]
noncomputable def F (d : Int × Unit) : Option ((Bool × Unit) × (Unit)) := anyK (runFn cfg fin code (initSt sig.ps d 6))
noncomputable def T (x_1 : Int) : Option ((Bool × Unit) × (Unit)) :=
  some ((x_1 != x_1, ()), ())
theorem eq (x_1 : Int) : F (x_1, ()) = T x_1 := eq_any fun k => by kernel_rfl
theorem ok : CtxOK prog ctx := ⟨nilM, mixed_ok, tab_ok tab_good, nilM, nilM, nilM⟩
theorem S : Sound prog ⟨314, sig, F⟩ := sound_k (res := [.tmp 2]) func314 ok
end cmp_isNaN_int64
namespace cmp_Compare_int64
noncomputable def sig : Sig := ⟨[.val false (.int .i64), .val false (.int .i64)], [(.val false, (.int .i64), .deep)]⟩
noncomputable def ctx : Ctx := ⟨tabOf tabl, [⟨314, cmp_isNaN_int64.sig, cmp_isNaN_int64.F⟩], [], [], [], []⟩
noncomputable def cfg : Cfg := ⟨ctx, [], [], fun _ => ([], []), fun _ => []⟩
noncomputable def code : Code := (f292).body.getD .skip
noncomputable def fin := finK ctx sig [.tmp 4]
noncomputable def F (d : Int × Int × Unit) : Option ((Int × Unit) × (Unit)) := anyK (runFn cfg fin code (initSt sig.ps d 20))
noncomputable def T (x_1 : Int) (y_2 : Int) : Option ((Int × Unit) × (Unit)) :=
  (cmp_isNaN_int64.F (x_1, ())).bind fun r3 =>
    (cmp_isNaN_int64.F (y_2, ())).bind fun r4 =>
      if (r3.1.1 : Bool) = true then
        if (r4.1.1 : Bool) = true then
          some (((0 : Int), ()), ())
        else
          some (((-1 : Int), ()), ())
      else
        if (r4.1.1 : Bool) = true then
          some (((1 : Int), ()), ())
        else
          if (decide (x_1 < y_2)) = true then
            some (((-1 : Int), ()), ())
          else
            if (decide (x_1 > y_2)) = true then
              some (((1 : Int), ()), ())
            else
              some (((0 : Int), ()), ())
theorem eq (x_1 : Int) (y_2 : Int) : F (x_1, y_2, ()) = T x_1 y_2 := eq_any fun k => by kernel_rfl
theorem ok : CtxOK prog ctx := ⟨nilM, mixed_ok, tab_ok tab_good, consM ⟨cmp_isNaN_int64.S, nilM⟩, nilM, nilM⟩
theorem S : Sound prog ⟨292, sig, F⟩ := sound_k (res := [.tmp 4]) func292 ok
end cmp_Compare_int64
namespace slices_Compare_Lint64_int64
noncomputable def sig : Sig := ⟨[.val false (.sl (.int .i64)), .val false (.sl (.int .i64))], [(.val false, (.int .i64), .deep)]⟩
noncomputable def ctx : Ctx := ⟨tabOf tabl, [⟨292, cmp_Compare_int64.sig, cmp_Compare_int64.F⟩], [], [], [], []⟩
noncomputable def cfg : Cfg := ⟨ctx, [], [], fun id => match id with | 2 => ([0, 1, 9, 10, 11], []) | _ => ([], []), fun _ => []⟩
noncomputable def code : Code := (f272).body.getD .skip
noncomputable def fin := finK ctx sig [.tmp 4]
noncomputable def F (d : List Int × List Int × Unit) : Option ((Int × Unit) × (Unit)) := anyK (runFn cfg fin code (initSt sig.ps d 36))
noncomputable def l2 (k : Nat) (x3 : List Int) (x4 : List Int) (x5 : List Int) (i6 : Int) (i7 : Int) : Option ((Int × Unit) × (Unit)) :=
  Go.Vm.runT cfg fin k [.inLoop (sub [1, 0, 1, 0, 0] code), .inBlock 0, .code (sub [1, 1] code)]
    ⟨[.val false [⟨(.sl (.int .i64)), .sh, x3⟩], .val false [⟨(.sl (.int .i64)), .sh, x4⟩], .dead, .dead, .dead, .dead, .dead, .dead, .dead, .val false [⟨(.sl (.int .i64)), .sh, x5⟩], .val false [⟨(.int .i64), .sh, i6⟩], .val false [⟨(.int .i64), .sh, i7⟩]] ++ deads 24, []⟩
theorem l2_eq (k : Nat) (x3 : List Int) (x4 : List Int) (x5 : List Int) (i6 : Int) (i7 : Int) : l2 (k + 1) x3 x4 x5 i6 i7 =
  if (decide (i7 < i6)) = true then
    if 0 ≤ i7 ∧ i7 < (x5.length : Int) then
      if (decide (i7 ≥ (x4.length : Int))) = true then
        some (((1 : Int), ()), ())
      else
        if 0 ≤ i7 ∧ i7 < (x4.length : Int) then
          (cmp_Compare_int64.F ((x5.getD i7.toNat 0 : Int), (x4.getD i7.toNat 0 : Int), ())).bind fun r8 =>
            if ((r8.1.1 : Int) != (0 : Int)) = true then
              some (((r8.1.1 : Int), ()), ())
            else
              l2 k x3 x4 x5 i6 (IntKind.i64.wrap (i7 + (1 : Int)))
        else
          none
    else
      none
  else
    if (decide ((x3.length : Int) < (x4.length : Int))) = true then
      some (((-1 : Int), ()), ())
    else
      some (((0 : Int), ()), ()) := by kernel_rfl
noncomputable def T (k : Nat) (s1_1 : List Int) (s2_2 : List Int) : Option ((Int × Unit) × (Unit)) :=
  l2 k s1_1 s2_2 s1_1 (s1_1.length : Int) (0 : Int)
theorem of (s1_1 : List Int) (s2_2 : List Int) {r : (Int × Unit) × (Unit)} (h : Ev (fun k => T k s1_1 s2_2) r) : F (s1_1, s2_2, ()) = some r := Ev.run (fun k => by kernel_rfl) h
theorem ok : CtxOK prog ctx := ⟨nilM, mixed_ok, tab_ok tab_good, consM ⟨cmp_Compare_int64.S, nilM⟩, nilM, nilM⟩
theorem S : Sound prog ⟨272, sig, F⟩ := sound_k (res := [.tmp 4]) func272 ok
end slices_Compare_Lint64_int64
namespace impl_compareSimplices
noncomputable def sig : Sig := ⟨[.val false (.sl (.int .i64)), .val false (.sl (.int .i64))], [(.val false, (.int .i64), .deep)]⟩
noncomputable def ctx : Ctx := ⟨tabOf tabl, [⟨270, cmp_Or_int.sig, cmp_Or_int.F⟩, ⟨271, cmp_Compare_int.sig, cmp_Compare_int.F⟩, ⟨272, slices_Compare_Lint64_int64.sig, slices_Compare_Lint64_int64.F⟩], [], [], [], []⟩
noncomputable def cfg : Cfg := ⟨ctx, [], [], fun _ => ([], []), fun _ => []⟩
noncomputable def code : Code := (f195).body.getD .skip
noncomputable def fin := finK ctx sig [.tmp 4]
noncomputable def F (d : List Int × List Int × Unit) : Option ((Int × Unit) × (Unit)) := anyK (runFn cfg fin code (initSt sig.ps d 15))
noncomputable def T (a_1 : List Int) (b_2 : List Int) : Option ((Int × Unit) × (Unit)) :=
  (cmp_Compare_int.F ((a_1.length : Int), (b_2.length : Int), ())).bind fun r3 =>
    (slices_Compare_Lint64_int64.F (a_1, b_2, ())).bind fun r4 =>
      (cmp_Or_int.F ([(r3.1.1 : Int), (r4.1.1 : Int)], ())).bind fun r5 =>
        some (((r5.1.1 : Int), ()), ())
theorem eq (a_1 : List Int) (b_2 : List Int) : F (a_1, b_2, ()) = T a_1 b_2 := eq_any fun k => by kernel_rfl
theorem ok : CtxOK prog ctx := ⟨nilM, mixed_ok, tab_ok tab_good, consM ⟨cmp_Or_int.S, consM ⟨cmp_Compare_int.S, consM ⟨slices_Compare_Lint64_int64.S, nilM⟩⟩⟩, nilM, nilM⟩
theorem S : Sound prog ⟨195, sig, F⟩ := sound_k (res := [.tmp 4]) func195 ok
noncomputable def cloG (y : Unit) (d : List Int × List Int × Unit) : Option (Int × Unit) := (F (joinIns [] [(false, (.sl (.int .i64))), (false, (.sl (.int .i64)))] d y)).map (·.1)
noncomputable def clo : Clo := ⟨195, ⟨[(false, (.sl (.int .i64))), (false, (.sl (.int .i64)))], [(.val false, (.int .i64), .deep)]⟩, [], cloG⟩
theorem cloS : SoundClo prog clo := sound_clo (s := ⟨[(false, (.sl (.int .i64))), (false, (.sl (.int .i64)))], [(.val false, (.int .i64), .deep)]⟩) (caps := []) rfl S
end impl_compareSimplices
namespace slices_IndexFunc_LLint64_Lint64
noncomputable def sig : Sig := ⟨[.val false (.sl (.sl (.int .i64))), .fnx ⟨[(false, (.sl (.int .i64)))], [(.val false, .bool, .deep)]⟩], [(.val false, (.int .i64), .deep)]⟩
noncomputable def ctx : Ctx := ⟨tabOf tabl, [], [], [], [], []⟩
noncomputable def cfg : Cfg := ⟨ctx, [], [], fun id => match id with | 2 => ([0, 1, 7, 8], []) | _ => ([], []), fun _ => []⟩
noncomputable def code : Code := (f239).body.getD .skip
noncomputable def fin := finK ctx sig [.tmp 4]
noncomputable def F (d : List (List Int) × ((List Int × Unit) → Option (Bool × Unit)) × Unit) : Option ((Int × Unit) × (Unit)) := anyK (runFn cfg fin code (initSt sig.ps d 19))
noncomputable def l2 (k : Nat) (x3 : List (List Int)) (f4 : (List Int × Unit) → Option (Bool × Unit)) (i5 : Int) (i6 : Int) : Option ((Int × Unit) × (Unit)) :=
  Go.Vm.runT cfg fin k [.inLoop (sub [1, 0, 1, 0, 0] code), .inBlock 0, .code (sub [1, 1] code)]
    ⟨[.val false [⟨(.sl (.sl (.int .i64))), .sh, x3⟩], .fnx ⟨[(false, (.sl (.int .i64)))], [(.val false, .bool, .deep)]⟩ f4, .dead, .dead, .dead, .dead, .dead, .val false [⟨(.int .i64), .sh, i5⟩], .val false [⟨(.int .i64), .sh, i6⟩]] ++ deads 10, []⟩
theorem l2_eq (k : Nat) (x3 : List (List Int)) (f4 : (List Int × Unit) → Option (Bool × Unit)) (i5 : Int) (i6 : Int) : l2 (k + 1) x3 f4 i5 i6 =
  if (decide (i6 < i5)) = true then
    if 0 ≤ i6 ∧ i6 < (x3.length : Int) then
      (f4 (x3.getD i6.toNat ([] : List Int), ())).bind fun r7 =>
        if (r7.1 : Bool) = true then
          some ((i6, ()), ())
        else
          l2 k x3 f4 i5 (IntKind.i64.wrap (i6 + (1 : Int)))
    else
      none
  else
    some (((-1 : Int), ()), ()) := by kernel_rfl
noncomputable def T (k : Nat) (s_1 : List (List Int)) (f_2 : (List Int × Unit) → Option (Bool × Unit)) : Option ((Int × Unit) × (Unit)) :=
  l2 k s_1 f_2 (s_1.length : Int) (0 : Int)
theorem of (s_1 : List (List Int)) (f_2 : (List Int × Unit) → Option (Bool × Unit)) {r : (Int × Unit) × (Unit)} (h : Ev (fun k => T k s_1 f_2) r) : F (s_1, f_2, ()) = some r := Ev.run (fun k => by kernel_rfl) h
theorem ok : CtxOK prog ctx := ⟨nilM, mixed_ok, tab_ok tab_good, nilM, nilM, nilM⟩
theorem S : Sound prog ⟨239, sig, F⟩ := sound_k (res := [.tmp 4]) func239 ok
end slices_IndexFunc_LLint64_Lint64
namespace slices_ContainsFunc_LLint64_Lint64
noncomputable def sig : Sig := ⟨[.val false (.sl (.sl (.int .i64))), .fnx ⟨[(false, (.sl (.int .i64)))], [(.val false, .bool, .deep)]⟩], [(.val false, .bool, .deep)]⟩
noncomputable def ctx : Ctx := ⟨tabOf tabl, [⟨239, slices_IndexFunc_LLint64_Lint64.sig, slices_IndexFunc_LLint64_Lint64.F⟩], [], [], [], []⟩
noncomputable def cfg : Cfg := ⟨ctx, [], [], fun _ => ([], []), fun _ => []⟩
noncomputable def code : Code := (f196).body.getD .skip
noncomputable def fin := finK ctx sig [.tmp 4]
noncomputable def F (d : List (List Int) × ((List Int × Unit) → Option (Bool × Unit)) × Unit) : Option ((Bool × Unit) × (Unit)) := anyK (runFn cfg fin code (initSt sig.ps d 9))
noncomputable def T (s_1 : List (List Int)) (f_2 : (List Int × Unit) → Option (Bool × Unit)) : Option ((Bool × Unit) × (Unit)) :=
  (slices_IndexFunc_LLint64_Lint64.F (s_1, f_2, ())).bind fun r3 =>
    some ((decide ((r3.1.1 : Int) ≥ (0 : Int)), ()), ())
theorem eq (s_1 : List (List Int)) (f_2 : (List Int × Unit) → Option (Bool × Unit)) : F (s_1, f_2, ()) = T s_1 f_2 := eq_any fun k => by kernel_rfl
theorem ok : CtxOK prog ctx := ⟨nilM, mixed_ok, tab_ok tab_good, consM ⟨slices_IndexFunc_LLint64_Lint64.S, nilM⟩, nilM, nilM⟩
theorem S : Sound prog ⟨196, sig, F⟩ := sound_k (res := [.tmp 4]) func196 ok
end slices_ContainsFunc_LLint64_Lint64
namespace slices_Concat_Lint64_int64
noncomputable def sig : Sig := ⟨[.val false (.sl (.sl (.int .i64)))], [(.val false, (.sl (.int .i64)), .deep)]⟩
noncomputable def ctx : Ctx := ⟨tabOf tabl, [], [], [], [(293, (.int .i64))], []⟩
noncomputable def cfg : Cfg := ⟨ctx, [], [], fun id => match id with | 3 => ([0, 3, 9, 10, 11], []) | 11 => ([6, 25, 26, 27], [24]) | _ => ([], []), fun _ => []⟩
noncomputable def code : Code := (f273).body.getD .skip
noncomputable def fin := finK ctx sig [.tmp 2]
noncomputable def F (d : List (List Int) × Unit) : Option ((List Int × Unit) × (Unit)) := anyK (runFn cfg fin code (initSt sig.ps d 36))
noncomputable def l3 (k : Nat) (x2 : List (List Int)) (i3 : Int) (x4 : List (List Int)) (i5 : Int) (i6 : Int) : Option ((List Int × Unit) × (Unit)) :=
  Go.Vm.runT cfg fin k [.inLoop (sub [1, 1, 0, 1, 0, 0] code), .inBlock 0, .code (sub [1, 1, 1] code)]
    ⟨[.val false [⟨(.sl (.sl (.int .i64))), .sh, x2⟩], .dead, .dead, .val false [⟨(.int .i64), .sh, i3⟩], .dead, .dead, .dead, .dead, .dead, .val false [⟨(.sl (.sl (.int .i64))), .sh, x4⟩], .val false [⟨(.int .i64), .sh, i5⟩], .val false [⟨(.int .i64), .sh, i6⟩]] ++ deads 24, []⟩
noncomputable def l11 (k : Nat) (x7 : List (List Int)) (i8 : Int) (i9 : Int) (x10 : List Int) : Option ((List Int × Unit) × (Unit)) :=
  Go.Vm.runT cfg fin k [.inLoop (sub [1, 1, 1, 1, 0, 1, 0, 0] code), .inBlock 2, .code (sub [1, 1, 1, 1, 1] code)]
    ⟨[.dead, .dead, .dead, .dead, .dead, .dead, .view 24 (.root 0) 1 false, .dead, .dead, .dead, .dead, .dead, .dead, .dead, .dead, .dead, .dead, .dead, .dead, .dead, .dead, .dead, .dead, .dead, .dead, .val false [⟨(.sl (.sl (.int .i64))), .sh, x7⟩], .val false [⟨(.int .i64), .sh, i8⟩], .val false [⟨(.int .i64), .sh, i9⟩]] ++ deads 8, [(24, ⟨false, [⟨(.sl (.int .i64)), .deep, x10⟩]⟩)]⟩
theorem l3_eq (k : Nat) (x2 : List (List Int)) (i3 : Int) (x4 : List (List Int)) (i5 : Int) (i6 : Int) : l3 (k + 1) x2 i3 x4 i5 i6 =
  if (decide (i6 < i5)) = true then
    if 0 ≤ i6 ∧ i6 < (x4.length : Int) then
      if (decide ((IntKind.i64.wrap (i3 + ((x4.getD i6.toNat ([] : List Int)).length : Int))) < (0 : Int))) = true then
        none
      else
        l3 k x2 (IntKind.i64.wrap (i3 + ((x4.getD i6.toNat ([] : List Int)).length : Int))) x4 i5 (IntKind.i64.wrap (i6 + (1 : Int)))
    else
      none
  else
    if 0 ≤ i3 ∧ i3 ≤ (bigN : Int) then
      l11 k x2 (x2.length : Int) (0 : Int) ([] : List Int)
    else
      none := by kernel_rfl
theorem l11_eq (k : Nat) (x7 : List (List Int)) (i8 : Int) (i9 : Int) (x10 : List Int) : l11 (k + 1) x7 i8 i9 x10 =
  if (decide (i9 < i8)) = true then
    if 0 ≤ i9 ∧ i9 < (x7.length : Int) then
      if x10.length + (x7.getD i9.toNat ([] : List Int)).length ≤ bigA then
        l11 k x7 i8 (IntKind.i64.wrap (i9 + (1 : Int))) (x10 ++ (x7.getD i9.toNat ([] : List Int)))
      else
        none
    else
      none
  else
    some ((x10, ()), ()) := by kernel_rfl
noncomputable def T (k : Nat) (slices_1 : List (List Int)) : Option ((List Int × Unit) × (Unit)) :=
  l3 k slices_1 (0 : Int) slices_1 (slices_1.length : Int) (0 : Int)
theorem of (slices_1 : List (List Int)) {r : (List Int × Unit) × (Unit)} (h : Ev (fun k => T k slices_1) r) : F (slices_1, ()) = some r := Ev.run (fun k => by kernel_rfl) h
theorem ok : CtxOK prog ctx := ⟨nilM, mixed_ok, tab_ok tab_good, nilM, nilM, consM ⟨slices_Grow_Lint64_int64.growOK, nilM⟩⟩
theorem S : Sound prog ⟨273, sig, F⟩ := sound_k (res := [.tmp 2]) func273 ok
end slices_Concat_Lint64_int64
namespace impl_facesOf
noncomputable def sig : Sig := ⟨[.val false (.sl (.int .i64))], [(.val false, (.sl (.sl (.int .i64))), .deep)]⟩
noncomputable def ctx : Ctx := ⟨tabOf tabl, [⟨273, slices_Concat_Lint64_int64.sig, slices_Concat_Lint64_int64.F⟩], [], [], [], []⟩
noncomputable def cfg : Cfg := ⟨ctx, [], [], fun id => match id with | 3 => ([0, 3, 6, 7], [12]) | _ => ([], []), fun _ => []⟩
noncomputable def code : Code := (f197).body.getD .skip
noncomputable def fin := finK ctx sig [.tmp 2]
noncomputable def F (d : List Int × Unit) : Option ((List (List Int) × Unit) × (Unit)) := anyK (runFn cfg fin code (initSt sig.ps d 27))
noncomputable def l3 (k : Nat) (x2 : List Int) (i3 : Int) (i4 : Int) (x5 : List (List Int)) : Option ((List (List Int) × Unit) × (Unit)) :=
  Go.Vm.runT cfg fin k [.inLoop (sub [1, 1, 0, 1, 0, 0] code), .inBlock 0, .code (sub [1, 1, 1] code)]
    ⟨[.val false [⟨(.sl (.int .i64)), .sh, x2⟩], .dead, .dead, .view 12 (.root 0) 1 false, .dead, .dead, .val false [⟨(.int .i64), .sh, i3⟩], .val false [⟨(.int .i64), .sh, i4⟩]] ++ deads 19, [(12, ⟨false, [⟨(.sl (.sl (.int .i64))), .deep, x5⟩]⟩)]⟩
theorem l3_eq (k : Nat) (x2 : List Int) (i3 : Int) (i4 : Int) (x5 : List (List Int)) : l3 (k + 1) x2 i3 i4 x5 =
  if (decide (i4 < i3)) = true then
    if (decide ((x2.length : Int) > (1 : Int))) = true then
      if 0 ≤ (0 : Int) ∧ (0 : Int) ≤ i4 ∧ i4 ≤ (x2.length : Int) then
        if 0 ≤ (IntKind.i64.wrap (i4 + (1 : Int))) ∧ (IntKind.i64.wrap (i4 + (1 : Int))) ≤ (x2.length : Int) ∧ (x2.length : Int) ≤ (x2.length : Int) then
          (slices_Concat_Lint64_int64.F ([cutL x2 (0 : Int) i4, cutL x2 (IntKind.i64.wrap (i4 + (1 : Int))) (x2.length : Int)], ())).bind fun r6 =>
            if x5.length + ([r6.1.1] : List (List Int)).length ≤ bigA then
              l3 k x2 i3 (IntKind.i64.wrap (i4 + (1 : Int))) (x5 ++ ([r6.1.1]))
            else
              none
        else
          none
      else
        none
    else
      l3 k x2 i3 (IntKind.i64.wrap (i4 + (1 : Int))) x5
  else
    some ((x5, ()), ()) := by kernel_rfl
noncomputable def T (k : Nat) (s_1 : List Int) : Option ((List (List Int) × Unit) × (Unit)) :=
  l3 k s_1 (s_1.length : Int) (0 : Int) ([])
theorem of (s_1 : List Int) {r : (List (List Int) × Unit) × (Unit)} (h : Ev (fun k => T k s_1) r) : F (s_1, ()) = some r := Ev.run (fun k => by kernel_rfl) h
theorem ok : CtxOK prog ctx := ⟨nilM, mixed_ok, tab_ok tab_good, consM ⟨slices_Concat_Lint64_int64.S, nilM⟩, nilM, nilM⟩
theorem S : Sound prog ⟨197, sig, F⟩ := sound_k (res := [.tmp 2]) func197 ok
end impl_facesOf
namespace slices_BinarySearchFunc_LLint64_Lint64_Lint64
noncomputable def sig : Sig := ⟨[.val false (.sl (.sl (.int .i64))), .val false (.sl (.int .i64)), .fnx ⟨[(false, (.sl (.int .i64))), (false, (.sl (.int .i64)))], [(.val false, (.int .i64), .deep)]⟩], [(.val false, (.int .i64), .deep), (.val false, .bool, .deep)]⟩
noncomputable def ctx : Ctx := ⟨tabOf tabl, [], [], [], [], []⟩
noncomputable def cfg : Cfg := ⟨ctx, [], [], fun id => match id with | 3 => ([0, 1, 2, 8, 9, 10], []) | _ => ([], []), fun _ => []⟩
noncomputable def code : Code := (f202).body.getD .skip
noncomputable def fin := finK ctx sig [.tmp 6, .tmp 7]
noncomputable def F (d : List (List Int) × List Int × ((List Int × List Int × Unit) → Option (Int × Unit)) × Unit) : Option ((Int × Bool × Unit) × (Unit)) := anyK (runFn cfg fin code (initSt sig.ps d 49))
noncomputable def l3 (k : Nat) (x4 : List (List Int)) (x5 : List Int) (f6 : (List Int × List Int × Unit) → Option (Int × Unit)) (i7 : Int) (i8 : Int) (i9 : Int) : Option ((Int × Bool × Unit) × (Unit)) :=
  Go.Vm.runT cfg fin k [.inLoop (sub [1, 1, 1, 0, 0, 0] code), .inBlock 0, .code (sub [1, 1, 1, 1] code)]
    ⟨[.val false [⟨(.sl (.sl (.int .i64))), .sh, x4⟩], .val false [⟨(.sl (.int .i64)), .sh, x5⟩], .fnx ⟨[(false, (.sl (.int .i64))), (false, (.sl (.int .i64)))], [(.val false, (.int .i64), .deep)]⟩ f6, .dead, .dead, .dead, .dead, .dead, .val false [⟨(.int .i64), .sh, i7⟩], .val false [⟨(.int .i64), .sh, i8⟩], .val false [⟨(.int .i64), .sh, i9⟩]] ++ deads 38, []⟩
theorem l3_eq (k : Nat) (x4 : List (List Int)) (x5 : List Int) (f6 : (List Int × List Int × Unit) → Option (Int × Unit)) (i7 : Int) (i8 : Int) (i9 : Int) : l3 (k + 1) x4 x5 f6 i7 i8 i9 =
  if (decide (i8 < i9)) = true then
    if (1 : Int) < 0 then
      none
    else
      if 0 ≤ (IntKind.i64.wrap ((IntKind.u64.wrap (IntKind.i64.wrap (i8 + i9))).fdiv (2 ^ (min (1 : Int).toNat IntKind.u64.bits)))) ∧ (IntKind.i64.wrap ((IntKind.u64.wrap (IntKind.i64.wrap (i8 + i9))).fdiv (2 ^ (min (1 : Int).toNat IntKind.u64.bits)))) < (x4.length : Int) then
        (f6 (x4.getD (IntKind.i64.wrap ((IntKind.u64.wrap (IntKind.i64.wrap (i8 + i9))).fdiv (2 ^ (min (1 : Int).toNat IntKind.u64.bits)))).toNat ([] : List Int), x5, ())).bind fun r10 =>
          if (decide ((r10.1 : Int) < (0 : Int))) = true then
            l3 k x4 x5 f6 i7 (IntKind.i64.wrap ((IntKind.i64.wrap ((IntKind.u64.wrap (IntKind.i64.wrap (i8 + i9))).fdiv (2 ^ (min (1 : Int).toNat IntKind.u64.bits)))) + (1 : Int))) i9
          else
            l3 k x4 x5 f6 i7 i8 (IntKind.i64.wrap ((IntKind.u64.wrap (IntKind.i64.wrap (i8 + i9))).fdiv (2 ^ (min (1 : Int).toNat IntKind.u64.bits))))
      else
        none
  else
    if (decide (i8 < i7)) = true then
      if 0 ≤ i8 ∧ i8 < (x4.length : Int) then
        (f6 (x4.getD i8.toNat ([] : List Int), x5, ())).bind fun r11 =>
          some ((i8, ((r11.1 : Int) == (0 : Int), ())), ())
      else
        none
    else
      some ((i8, (false, ())), ()) := by kernel_rfl
noncomputable def T (k : Nat) (x_1 : List (List Int)) (target_2 : List Int) (f_3 : (List Int × List Int × Unit) → Option (Int × Unit)) : Option ((Int × Bool × Unit) × (Unit)) :=
  l3 k x_1 target_2 f_3 (x_1.length : Int) (0 : Int) (x_1.length : Int)
theorem of (x_1 : List (List Int)) (target_2 : List Int) (f_3 : (List Int × List Int × Unit) → Option (Int × Unit)) {r : (Int × Bool × Unit) × (Unit)} (h : Ev (fun k => T k x_1 target_2 f_3) r) : F (x_1, target_2, f_3, ()) = some r := Ev.run (fun k => by kernel_rfl) h
theorem ok : CtxOK prog ctx := ⟨nilM, mixed_ok, tab_ok tab_good, nilM, nilM, nilM⟩
theorem S : Sound prog ⟨202, sig, F⟩ := sound_k (res := [.tmp 6, .tmp 7]) func202 ok
end slices_BinarySearchFunc_LLint64_Lint64_Lint64
namespace impl_indexOf
noncomputable def sig : Sig := ⟨[.val true (.sl (.sl (.int .i64))), .val false (.sl (.int .i64))], [(.val false, (.int .i64), .deep)]⟩
noncomputable def ctx : Ctx := ⟨tabOf tabl, [⟨202, slices_BinarySearchFunc_LLint64_Lint64_Lint64.sig, slices_BinarySearchFunc_LLint64_Lint64_Lint64.F⟩], [impl_compareSimplices.clo], [], [], []⟩
noncomputable def cfg : Cfg := ⟨ctx, [], [], fun _ => ([], []), fun _ => []⟩
noncomputable def code : Code := (f107).body.getD .skip
noncomputable def fin := finK ctx sig [.tmp 4]
noncomputable def F (d : List (List Int) × List Int × Unit) : Option ((Int × Unit) × (Unit)) := anyK (runFn cfg fin code (initSt sig.ps d 17))
noncomputable def T (c_1 : List (List Int)) (s_2 : List Int) : Option ((Int × Unit) × (Unit)) :=
  (slices_BinarySearchFunc_LLint64_Lint64_Lint64.F (c_1, s_2, impl_compareSimplices.cloG (()), ())).bind fun r3 =>
    if (!(r3.1.2.1 : Bool)) = true then
      some (((-1 : Int), ()), ())
    else
      some (((r3.1.1 : Int), ()), ())
theorem eq (c_1 : List (List Int)) (s_2 : List Int) : F (c_1, s_2, ()) = T c_1 s_2 := eq_any fun k => by kernel_rfl
theorem ok : CtxOK prog ctx := ⟨nilM, mixed_ok, tab_ok tab_good, consM ⟨slices_BinarySearchFunc_LLint64_Lint64_Lint64.S, nilM⟩, consM ⟨impl_compareSimplices.cloS, nilM⟩, nilM⟩
theorem S : Sound prog ⟨107, sig, F⟩ := sound_k (res := [.tmp 4]) func107 ok
end impl_indexOf
namespace impl_ValidComplex_1
noncomputable def sig : Sig := ⟨[.val false (.sl (.int .i64)), .rptr (.sl (.sl (.int .i64))), .rptr (.int .i64)], [(.val false, .bool, .deep)]⟩
noncomputable def ctx : Ctx := ⟨tabOf tabl, [⟨107, impl_indexOf.sig, impl_indexOf.F⟩], [], [], [], []⟩
noncomputable def cfg : Cfg := ⟨ctx, [], [], fun _ => ([], []), fun _ => []⟩
noncomputable def code : Code := (f198).body.getD .skip
noncomputable def fin := finK ctx sig [.tmp 4]
noncomputable def F (d : List Int × List (List Int) × Int × Unit) : Option ((Bool × Unit) × (Unit)) := anyK (runFn cfg fin code (initSt sig.ps d 13))
noncomputable def T (f_1 : List Int) (a_2 : List (List Int)) (a_3 : Int) : Option ((Bool × Unit) × (Unit)) :=
  if 0 ≤ (0 : Int) ∧ (0 : Int) ≤ a_3 ∧ a_3 ≤ (a_2.length : Int) then
    (impl_indexOf.F (cutL a_2 (0 : Int) a_3, f_1, ())).bind fun r4 =>
      some ((decide ((r4.1.1 : Int) < (0 : Int)), ()), ())
  else
    none
theorem eq (f_1 : List Int) (a_2 : List (List Int)) (a_3 : Int) : F (f_1, a_2, a_3, ()) = T f_1 a_2 a_3 := eq_any fun k => by kernel_rfl
theorem ok : CtxOK prog ctx := ⟨nilM, mixed_ok, tab_ok tab_good, consM ⟨impl_indexOf.S, nilM⟩, nilM, nilM⟩
theorem S : Sound prog ⟨198, sig, F⟩ := sound_k (res := [.tmp 4]) func198 ok
noncomputable def cloG (y : List (List Int) × Int × Unit) (d : List Int × Unit) : Option (Bool × Unit) := (F (joinIns [.rptr (.sl (.sl (.int .i64))), .rptr (.int .i64)] [(false, (.sl (.int .i64)))] d y)).map (·.1)
noncomputable def clo : Clo := ⟨198, ⟨[(false, (.sl (.int .i64)))], [(.val false, .bool, .deep)]⟩, [.rptr (.sl (.sl (.int .i64))), .rptr (.int .i64)], cloG⟩
theorem cloS : SoundClo prog clo := sound_clo (s := ⟨[(false, (.sl (.int .i64)))], [(.val false, .bool, .deep)]⟩) (caps := [.rptr (.sl (.sl (.int .i64))), .rptr (.int .i64)]) rfl S
end impl_ValidComplex_1
namespace impl_ValidComplex
noncomputable def sig : Sig := ⟨[.val true (.sl (.sl (.int .i64)))], [(.val false, .bool, .deep)]⟩
noncomputable def ctx : Ctx := ⟨tabOf tabl, [⟨194, impl_ValidSimplex.sig, impl_ValidSimplex.F⟩, ⟨195, impl_compareSimplices.sig, impl_compareSimplices.F⟩, ⟨196, slices_ContainsFunc_LLint64_Lint64.sig, slices_ContainsFunc_LLint64_Lint64.F⟩, ⟨197, impl_facesOf.sig, impl_facesOf.F⟩], [impl_ValidComplex_1.clo], [], [], []⟩
noncomputable def cfg : Cfg := ⟨ctx, [], [], fun id => match id with | 2 => ([1, 6, 7, 8], [4]) | _ => ([], []), fun _ => []⟩
noncomputable def code : Code := (f104).body.getD .skip
noncomputable def fin := finK ctx sig [.tmp 2]
noncomputable def F (d : List (List Int) × Unit) : Option ((Bool × Unit) × (Unit)) := anyK (runFn cfg fin code (initSt sig.ps d 40))
noncomputable def l2 (k : Nat) (x2 : List (List Int)) (i3 : Int) (i4 : Int) (x5 : List (List Int)) : Option ((Bool × Unit) × (Unit)) :=
  Go.Vm.runT cfg fin k [.inLoop (sub [1, 0, 1, 0, 0] code), .inBlock 0, .code (sub [1, 1] code)]
    ⟨[.dead, .ref 4 (.root 0), .dead, .dead, .dead, .dead, .val false [⟨(.sl (.sl (.int .i64))), .sh, x2⟩], .val false [⟨(.int .i64), .sh, i3⟩], .val false [⟨(.int .i64), .sh, i4⟩]] ++ deads 31, [(4, ⟨true, [⟨(.sl (.sl (.int .i64))), .sh, x5⟩]⟩)]⟩
theorem l2_eq (k : Nat) (x2 : List (List Int)) (i3 : Int) (i4 : Int) (x5 : List (List Int)) : l2 (k + 1) x2 i3 i4 x5 =
  if (decide (i4 < i3)) = true then
    if 0 ≤ i4 ∧ i4 < (x2.length : Int) then
      (impl_ValidSimplex.F (x2.getD i4.toNat ([] : List Int), ())).bind fun r6 =>
        if (!(r6.1.1 : Bool)) = true then
          some ((false, ()), ())
        else
          if (decide (i4 > (0 : Int))) = true then
            if 0 ≤ (IntKind.i64.wrap (i4 - (1 : Int))) ∧ (IntKind.i64.wrap (i4 - (1 : Int))) < (x5.length : Int) then
              (impl_compareSimplices.F (x5.getD (IntKind.i64.wrap (i4 - (1 : Int))).toNat ([] : List Int), x2.getD i4.toNat ([] : List Int), ())).bind fun r7 =>
                if (decide ((r7.1.1 : Int) ≥ (0 : Int))) = true then
                  some ((false, ()), ())
                else
                  (impl_facesOf.F (x2.getD i4.toNat ([] : List Int), ())).bind fun r8 =>
                    (slices_ContainsFunc_LLint64_Lint64.F (r8.1.1, impl_ValidComplex_1.cloG (x5, i4, ()), ())).bind fun r9 =>
                      if (r9.1.1 : Bool) = true then
                        some ((false, ()), ())
                      else
                        l2 k x2 i3 (IntKind.i64.wrap (i4 + (1 : Int))) x5
            else
              none
          else
            (impl_facesOf.F (x2.getD i4.toNat ([] : List Int), ())).bind fun r10 =>
              (slices_ContainsFunc_LLint64_Lint64.F (r10.1.1, impl_ValidComplex_1.cloG (x5, i4, ()), ())).bind fun r11 =>
                if (r11.1.1 : Bool) = true then
                  some ((false, ()), ())
                else
                  l2 k x2 i3 (IntKind.i64.wrap (i4 + (1 : Int))) x5
    else
      none
  else
    some ((decide ((x5.length : Int) ≤ (48 : Int)), ()), ()) := by kernel_rfl
noncomputable def T (k : Nat) (c_1 : List (List Int)) : Option ((Bool × Unit) × (Unit)) :=
  l2 k c_1 (c_1.length : Int) (0 : Int) c_1
theorem of (c_1 : List (List Int)) {r : (Bool × Unit) × (Unit)} (h : Ev (fun k => T k c_1) r) : F (c_1, ()) = some r := Ev.run (fun k => by kernel_rfl) h
theorem ok : CtxOK prog ctx := ⟨nilM, mixed_ok, tab_ok tab_good, consM ⟨impl_ValidSimplex.S, consM ⟨impl_compareSimplices.S, consM ⟨slices_ContainsFunc_LLint64_Lint64.S, consM ⟨impl_facesOf.S, nilM⟩⟩⟩⟩, consM ⟨impl_ValidComplex_1.cloS, nilM⟩, nilM⟩
theorem S : Sound prog ⟨104, sig, F⟩ := sound_k (res := [.tmp 2]) func104 ok
end impl_ValidComplex
namespace impl_size_int64
noncomputable def sig : Sig := ⟨[.val false (.sl (.int .i64))], [(.val false, (.int .i64), .deep)]⟩
noncomputable def ctx : Ctx := ⟨tabOf tabl, [], [], [], [], []⟩
noncomputable def cfg : Cfg := ⟨ctx, [], [], fun _ => ([], []), fun _ => []⟩
noncomputable def code : Code := (f161).body.getD .skip
noncomputable def fin := finK ctx sig [.tmp 2]
noncomputable def F (d : List Int × Unit) : Option ((Int × Unit) × (Unit)) := anyK (runFn cfg fin code (initSt sig.ps d 5))
noncomputable def T (list_1 : List Int) : Option ((Int × Unit) × (Unit)) :=
  some (((list_1.length : Int), ()), ())
theorem eq (list_1 : List Int) : F (list_1, ()) = T list_1 := eq_any fun k => by kernel_rfl
theorem ok : CtxOK prog ctx := ⟨nilM, mixed_ok, tab_ok tab_good, nilM, nilM, nilM⟩
theorem S : Sound prog ⟨161, sig, F⟩ := sound_k (res := [.tmp 2]) func161 ok
end impl_size_int64
namespace impl_simplicesOf
noncomputable def sig : Sig := ⟨[.val true (.sl (.sl (.int .i64))), .val false (.int .i64)], [(.val false, (.sl (.int .i64)), .deep)]⟩
noncomputable def ctx : Ctx := ⟨tabOf tabl, [⟨161, impl_size_int64.sig, impl_size_int64.F⟩], [], [], [], []⟩
noncomputable def cfg : Cfg := ⟨ctx, [], [], fun id => match id with | 3 => ([1, 5, 9, 10, 11], [20]) | _ => ([], []), fun _ => []⟩
noncomputable def code : Code := (f79).body.getD .skip
noncomputable def fin := finK ctx sig [.tmp 4]
noncomputable def F (d : List (List Int) × Int × Unit) : Option ((List Int × Unit) × (Unit)) := anyK (runFn cfg fin code (initSt sig.ps d 27))
noncomputable def l3 (k : Nat) (i3 : Int) (x4 : List (List Int)) (i5 : Int) (i6 : Int) (x7 : List Int) : Option ((List Int × Unit) × (Unit)) :=
  Go.Vm.runT cfg fin k [.inLoop (sub [1, 1, 0, 1, 0, 0] code), .inBlock 0, .code (sub [1, 1, 1] code)]
    ⟨[.dead, .val false [⟨(.int .i64), .sh, i3⟩], .dead, .dead, .dead, .view 20 (.root 0) 1 false, .dead, .dead, .dead, .val false [⟨(.sl (.sl (.int .i64))), .sh, x4⟩], .val false [⟨(.int .i64), .sh, i5⟩], .val false [⟨(.int .i64), .sh, i6⟩]] ++ deads 15, [(20, ⟨false, [⟨(.sl (.int .i64)), .deep, x7⟩]⟩)]⟩
theorem l3_eq (k : Nat) (i3 : Int) (x4 : List (List Int)) (i5 : Int) (i6 : Int) (x7 : List Int) : l3 (k + 1) i3 x4 i5 i6 x7 =
  if (decide (i6 < i5)) = true then
    if 0 ≤ i6 ∧ i6 < (x4.length : Int) then
      (impl_size_int64.F (x4.getD i6.toNat ([] : List Int), ())).bind fun r8 =>
        if ((r8.1.1 : Int) == (IntKind.i64.wrap (i3 + (1 : Int)))) = true then
          if x7.length + ([i6] : List Int).length ≤ bigA then
            l3 k i3 x4 i5 (IntKind.i64.wrap (i6 + (1 : Int))) (x7 ++ ([i6]))
          else
            none
        else
          l3 k i3 x4 i5 (IntKind.i64.wrap (i6 + (1 : Int))) x7
    else
      none
  else
    some ((x7, ()), ()) := by kernel_rfl
noncomputable def T (k : Nat) (c_1 : List (List Int)) (dimension_2 : Int) : Option ((List Int × Unit) × (Unit)) :=
  l3 k dimension_2 c_1 (c_1.length : Int) (0 : Int) ([])
theorem of (c_1 : List (List Int)) (dimension_2 : Int) {r : (List Int × Unit) × (Unit)} (h : Ev (fun k => T k c_1 dimension_2) r) : F (c_1, dimension_2, ()) = some r := Ev.run (fun k => by kernel_rfl) h
theorem ok : CtxOK prog ctx := ⟨nilM, mixed_ok, tab_ok tab_good, consM ⟨impl_size_int64.S, nilM⟩, nilM, nilM⟩
theorem S : Sound prog ⟨79, sig, F⟩ := sound_k (res := [.tmp 4]) func79 ok
end impl_simplicesOf
namespace impl_stalkSum
noncomputable def sig : Sig := ⟨[.val true TSheaf, .val false (.int .i64)], [(.val false, (.int .i64), .deep)]⟩
noncomputable def ctx : Ctx := ⟨tabOf tabl, [⟨79, impl_simplicesOf.sig, impl_simplicesOf.F⟩], [], [], [], []⟩
noncomputable def cfg : Cfg := ⟨ctx, [], [], fun id => match id with | 3 => ([2, 5, 11, 12, 13], [8, 44]) | _ => ([], []), fun _ => []⟩
noncomputable def code : Code := (f68).body.getD .skip
noncomputable def fin := finK ctx sig [.tmp 4]
noncomputable def F (d : (List (List Int) × Int × List Int × List (Int × Int × Int × List Int)) × Int × Unit) : Option ((Int × Unit) × (Unit)) := anyK (runFn cfg fin code (initSt sig.ps d 26))
noncomputable def l3 (k : Nat) (i7 : Int) (i8 : Int) (i9 : Int) (x10 : List (List Int)) (i11 : Int) (x12 : List Int) (x13 : List (Int × Int × Int × List Int)) (x14 : List Int) : Option ((Int × Unit) × (Unit)) :=
  Go.Vm.runT cfg fin k [.inLoop (sub [1, 1, 0, 1, 0, 0] code), .inBlock 0, .code (sub [1, 1, 1] code)]
    ⟨[.dead, .dead, .ref 8 (.root 0), .dead, .dead, .val false [⟨(.int .i64), .sh, i7⟩], .dead, .dead, .dead, .dead, .dead, .view 44 (.root 0) 1 false, .val false [⟨(.int .i64), .sh, i8⟩], .val false [⟨(.int .i64), .sh, i9⟩]] ++ deads 12, [(8, ⟨true, [⟨(.sl (.sl (.int .i64))), .sh, x10⟩, ⟨(.int .i64), .sh, i11⟩, ⟨(.sl (.int .i64)), .sh, x12⟩, ⟨(.sl TMatrix), .sh, x13⟩]⟩), (44, ⟨false, [⟨(.sl (.int .i64)), .deep, x14⟩]⟩)]⟩
theorem l3_eq (k : Nat) (i7 : Int) (i8 : Int) (i9 : Int) (x10 : List (List Int)) (i11 : Int) (x12 : List Int) (x13 : List (Int × Int × Int × List Int)) (x14 : List Int) : l3 (k + 1) i7 i8 i9 x10 i11 x12 x13 x14 =
  if (decide (i9 < i8)) = true then
    if 0 ≤ i9 ∧ i9 < (x14.length : Int) then
      if 0 ≤ (x14.getD i9.toNat 0 : Int) ∧ (x14.getD i9.toNat 0 : Int) < (x12.length : Int) then
        l3 k (IntKind.i64.wrap (i7 + (x12.getD (x14.getD i9.toNat 0 : Int).toNat 0))) i8 (IntKind.i64.wrap (i9 + (1 : Int))) x10 i11 x12 x13 x14
      else
        none
    else
      none
  else
    some ((i7, ()), ()) := by kernel_rfl
noncomputable def T (k : Nat) (s_1 : List (List Int)) (s_2 : Int) (s_3 : List Int) (s_4 : List (Int × Int × Int × List Int)) (k_5 : Int) : Option ((Int × Unit) × (Unit)) :=
  (impl_simplicesOf.F (s_1, k_5, ())).bind fun r6 =>
    l3 k (0 : Int) (r6.1.1.length : Int) (0 : Int) s_1 s_2 s_3 s_4 r6.1.1
theorem of (s_1 : List (List Int)) (s_2 : Int) (s_3 : List Int) (s_4 : List (Int × Int × Int × List Int)) (k_5 : Int) {r : (Int × Unit) × (Unit)} (h : Ev (fun k => T k s_1 s_2 s_3 s_4 k_5) r) : F ((s_1, (s_2, (s_3, s_4))), k_5, ()) = some r := Ev.run (fun k => by kernel_rfl) h
theorem ok : CtxOK prog ctx := ⟨nilM, mixed_ok, tab_ok tab_good, consM ⟨impl_simplicesOf.S, nilM⟩, nilM, nilM⟩
theorem S : Sound prog ⟨68, sig, F⟩ := sound_k (res := [.tmp 4]) func68 ok
end impl_stalkSum
namespace impl_areStalks_1
noncomputable def sig : Sig := ⟨[.val false (.int .i64)], [(.val false, .bool, .deep)]⟩
noncomputable def ctx : Ctx := ⟨tabOf tabl, [⟨121, impl_within.sig, impl_within.F⟩], [], [], [], []⟩
noncomputable def cfg : Cfg := ⟨ctx, [], [], fun _ => ([], []), fun _ => []⟩
noncomputable def code : Code := (f220).body.getD .skip
noncomputable def fin := finK ctx sig [.tmp 2]
noncomputable def F (d : Int × Unit) : Option ((Bool × Unit) × (Unit)) := anyK (runFn cfg fin code (initSt sig.ps d 6))
noncomputable def T (n_1 : Int) : Option ((Bool × Unit) × (Unit)) :=
  (impl_within.F (n_1, (0 : Int), (3 : Int), ())).bind fun r2 =>
    some ((!(r2.1.1 : Bool), ()), ())
theorem eq (n_1 : Int) : F (n_1, ()) = T n_1 := eq_any fun k => by kernel_rfl
theorem ok : CtxOK prog ctx := ⟨nilM, mixed_ok, tab_ok tab_good, consM ⟨impl_within.S, nilM⟩, nilM, nilM⟩
theorem S : Sound prog ⟨220, sig, F⟩ := sound_k (res := [.tmp 2]) func220 ok
noncomputable def cloG (y : Unit) (d : Int × Unit) : Option (Bool × Unit) := (F (joinIns [] [(false, (.int .i64))] d y)).map (·.1)
noncomputable def clo : Clo := ⟨220, ⟨[(false, (.int .i64))], [(.val false, .bool, .deep)]⟩, [], cloG⟩
theorem cloS : SoundClo prog clo := sound_clo (s := ⟨[(false, (.int .i64))], [(.val false, .bool, .deep)]⟩) (caps := []) rfl S
end impl_areStalks_1
namespace impl_areStalks
noncomputable def sig : Sig := ⟨[.val true (.sl (.sl (.int .i64))), .val false (.sl (.int .i64))], [(.val false, .bool, .deep)]⟩
noncomputable def ctx : Ctx := ⟨tabOf tabl, [⟨68, impl_stalkSum.sig, impl_stalkSum.F⟩, ⟨119, slices_ContainsFunc_Lint64_int64.sig, slices_ContainsFunc_Lint64_int64.F⟩], [impl_areStalks_1.clo], [], [], []⟩
noncomputable def cfg : Cfg := ⟨ctx, [], [], fun id => match id with | 4 => ([1, 2, 16], [8]) | _ => ([], []), fun _ => []⟩
noncomputable def code : Code := (f133).body.getD .skip
noncomputable def fin := finK ctx sig [.tmp 4]
noncomputable def F (d : List (List Int) × List Int × Unit) : Option ((Bool × Unit) × (Unit)) := anyK (runFn cfg fin code (initSt sig.ps d 26))
noncomputable def l4 (k : Nat) (x4 : List Int) (i5 : Int) (x6 : List (List Int)) : Option ((Bool × Unit) × (Unit)) :=
  Go.Vm.runT cfg fin k [.inLoop (sub [1, 1, 0, 1, 0, 0] code), .inBlock 0, .code (sub [1, 1, 1] code)]
    ⟨[.dead, .val false [⟨(.sl (.int .i64)), .sh, x4⟩], .ref 8 (.root 0), .dead, .dead, .dead, .dead, .dead, .dead, .dead, .dead, .dead, .dead, .dead, .dead, .dead, .val false [⟨(.int .i64), .sh, i5⟩]] ++ deads 9, [(8, ⟨true, [⟨(.sl (.sl (.int .i64))), .sh, x6⟩]⟩)]⟩
theorem l4_eq (k : Nat) (x4 : List Int) (i5 : Int) (x6 : List (List Int)) : l4 (k + 1) x4 i5 x6 =
  if (decide (i5 < (4 : Int))) = true then
    (impl_stalkSum.F ((x6, (0, (x4, []))), i5, ())).bind fun r7 =>
      if (decide ((r7.1.1 : Int) > (32 : Int))) = true then
        some ((false, ()), ())
      else
        l4 k x4 (IntKind.i64.wrap (i5 + (1 : Int))) x6
  else
    some ((true, ()), ()) := by kernel_rfl
noncomputable def T (k : Nat) (c_1 : List (List Int)) (stalks_2 : List Int) : Option ((Bool × Unit) × (Unit)) :=
  if ((stalks_2.length : Int) != (c_1.length : Int)) = true then
    some ((false, ()), ())
  else
    (slices_ContainsFunc_Lint64_int64.F (stalks_2, impl_areStalks_1.cloG (()), ())).bind fun r3 =>
      if (r3.1.1 : Bool) = true then
        some ((false, ()), ())
      else
        l4 k stalks_2 (0 : Int) c_1
theorem of (c_1 : List (List Int)) (stalks_2 : List Int) {r : (Bool × Unit) × (Unit)} (h : Ev (fun k => T k c_1 stalks_2) r) : F (c_1, stalks_2, ()) = some r := Ev.run (fun k => by kernel_rfl) h
theorem ok : CtxOK prog ctx := ⟨nilM, mixed_ok, tab_ok tab_good, consM ⟨impl_stalkSum.S, consM ⟨slices_ContainsFunc_Lint64_int64.S, nilM⟩⟩, consM ⟨impl_areStalks_1.cloS, nilM⟩, nilM⟩
theorem S : Sound prog ⟨133, sig, F⟩ := sound_k (res := [.tmp 4]) func133 ok
end impl_areStalks
namespace impl_ValidPrime
noncomputable def sig : Sig := ⟨[.val false (.int .i64)], [(.val false, .bool, .deep)]⟩
noncomputable def ctx : Ctx := ⟨tabOf tabl, [⟨121, impl_within.sig, impl_within.F⟩], [], [], [], []⟩
noncomputable def cfg : Cfg := ⟨ctx, [], [], fun id => match id with | 4 => ([0, 3], []) | _ => ([], []), fun _ => []⟩
noncomputable def code : Code := (f178).body.getD .skip
noncomputable def fin := finK ctx sig [.tmp 2]
noncomputable def F (d : Int × Unit) : Option ((Bool × Unit) × (Unit)) := anyK (runFn cfg fin code (initSt sig.ps d 18))
noncomputable def l4 (k : Nat) (i3 : Int) (i4 : Int) : Option ((Bool × Unit) × (Unit)) :=
  Go.Vm.runT cfg fin k [.inLoop (sub [1, 1, 0, 1, 0, 0] code), .inBlock 0, .code (sub [1, 1, 1] code)]
    ⟨[.val false [⟨(.int .i64), .sh, i3⟩], .dead, .dead, .val false [⟨(.int .i64), .sh, i4⟩]] ++ deads 14, []⟩
theorem l4_eq (k : Nat) (i3 : Int) (i4 : Int) : l4 (k + 1) i3 i4 =
  if (decide ((IntKind.i64.wrap (i4 * i4)) ≤ i3)) = true then
    if i4 = 0 then
      none
    else
      if ((i3.tmod i4) == (0 : Int)) = true then
        some ((false, ()), ())
      else
        l4 k i3 (IntKind.i64.wrap (i4 + (1 : Int)))
  else
    some ((true, ()), ()) := by kernel_rfl
noncomputable def T (k : Nat) (p_1 : Int) : Option ((Bool × Unit) × (Unit)) :=
  (impl_within.F (p_1, (2 : Int), (251 : Int), ())).bind fun r2 =>
    if (!(r2.1.1 : Bool)) = true then
      some ((false, ()), ())
    else
      l4 k p_1 (2 : Int)
theorem of (p_1 : Int) {r : (Bool × Unit) × (Unit)} (h : Ev (fun k => T k p_1) r) : F (p_1, ()) = some r := Ev.run (fun k => by kernel_rfl) h
theorem ok : CtxOK prog ctx := ⟨nilM, mixed_ok, tab_ok tab_good, consM ⟨impl_within.S, nilM⟩, nilM, nilM⟩
theorem S : Sound prog ⟨178, sig, F⟩ := sound_k (res := [.tmp 2]) func178 ok
end impl_ValidPrime
namespace impl_faceIndices
noncomputable def sig : Sig := ⟨[.val true (.sl (.sl (.int .i64))), .val false (.int .i64)], [(.val false, (.sl (.int .i64)), .deep)]⟩
noncomputable def ctx : Ctx := ⟨tabOf tabl, [⟨107, impl_indexOf.sig, impl_indexOf.F⟩, ⟨197, impl_facesOf.sig, impl_facesOf.F⟩], [], [], [], []⟩
noncomputable def cfg : Cfg := ⟨ctx, [], [], fun id => match id with | 3 => ([2, 5, 13, 14, 15], [8, 20, 52]) | _ => ([], []), fun _ => []⟩
noncomputable def code : Code := (f162).body.getD .skip
noncomputable def fin := finK ctx sig [.tmp 4]
noncomputable def F (d : List (List Int) × Int × Unit) : Option ((List Int × Unit) × (Unit)) := anyK (runFn cfg fin code (initSt sig.ps d 27))
noncomputable def l3 (k : Nat) (i4 : Int) (i5 : Int) (x6 : List (List Int)) (x7 : List Int) (x8 : List (List Int)) : Option ((List Int × Unit) × (Unit)) :=
  Go.Vm.runT cfg fin k [.inLoop (sub [1, 1, 0, 1, 0, 0] code), .inBlock 0, .code (sub [1, 1, 1] code)]
    ⟨[.dead, .dead, .ref 8 (.root 0), .dead, .dead, .view 20 (.root 0) 1 false, .dead, .dead, .dead, .dead, .dead, .dead, .dead, .view 52 (.root 0) 1 false, .val false [⟨(.int .i64), .sh, i4⟩], .val false [⟨(.int .i64), .sh, i5⟩]] ++ deads 11, [(8, ⟨true, [⟨(.sl (.sl (.int .i64))), .sh, x6⟩]⟩), (20, ⟨false, [⟨(.sl (.int .i64)), .deep, x7⟩]⟩), (52, ⟨false, [⟨(.sl (.sl (.int .i64))), .deep, x8⟩]⟩)]⟩
theorem l3_eq (k : Nat) (i4 : Int) (i5 : Int) (x6 : List (List Int)) (x7 : List Int) (x8 : List (List Int)) : l3 (k + 1) i4 i5 x6 x7 x8 =
  if (decide (i5 < i4)) = true then
    if 0 ≤ i5 ∧ i5 < (x8.length : Int) then
      (impl_indexOf.F (x6, x8.getD i5.toNat ([] : List Int), ())).bind fun r9 =>
        if x7.length + ([(r9.1.1 : Int)] : List Int).length ≤ bigA then
          l3 k i4 (IntKind.i64.wrap (i5 + (1 : Int))) x6 (x7 ++ ([(r9.1.1 : Int)])) x8
        else
          none
    else
      none
  else
    some ((x7, ()), ()) := by kernel_rfl
noncomputable def T (k : Nat) (c_1 : List (List Int)) (k_2 : Int) : Option ((List Int × Unit) × (Unit)) :=
  if 0 ≤ k_2 ∧ k_2 < (c_1.length : Int) then
    (impl_facesOf.F (c_1.getD k_2.toNat ([] : List Int), ())).bind fun r3 =>
      l3 k (r3.1.1.length : Int) (0 : Int) c_1 ([]) r3.1.1
  else
    none
theorem of (c_1 : List (List Int)) (k_2 : Int) {r : (List Int × Unit) × (Unit)} (h : Ev (fun k => T k c_1 k_2) r) : F (c_1, k_2, ()) = some r := Ev.run (fun k => by kernel_rfl) h
theorem ok : CtxOK prog ctx := ⟨nilM, mixed_ok, tab_ok tab_good, consM ⟨impl_indexOf.S, consM ⟨impl_facesOf.S, nilM⟩⟩, nilM, nilM⟩
theorem S : Sound prog ⟨162, sig, F⟩ := sound_k (res := [.tmp 4]) func162 ok
end impl_faceIndices
namespace impl_size_Lint64
noncomputable def sig : Sig := ⟨[.val false (.sl (.sl (.int .i64)))], [(.val false, (.int .i64), .deep)]⟩
noncomputable def ctx : Ctx := ⟨tabOf tabl, [], [], [], [], []⟩
noncomputable def cfg : Cfg := ⟨ctx, [], [], fun _ => ([], []), fun _ => []⟩
noncomputable def code : Code := (f224).body.getD .skip
noncomputable def fin := finK ctx sig [.tmp 2]
noncomputable def F (d : List (List Int) × Unit) : Option ((Int × Unit) × (Unit)) := anyK (runFn cfg fin code (initSt sig.ps d 5))
noncomputable def T (list_1 : List (List Int)) : Option ((Int × Unit) × (Unit)) :=
  some (((list_1.length : Int), ()), ())
theorem eq (list_1 : List (List Int)) : F (list_1, ()) = T list_1 := eq_any fun k => by kernel_rfl
theorem ok : CtxOK prog ctx := ⟨nilM, mixed_ok, tab_ok tab_good, nilM, nilM, nilM⟩
theorem S : Sound prog ⟨224, sig, F⟩ := sound_k (res := [.tmp 2]) func224 ok
end impl_size_Lint64
namespace impl_arrows
noncomputable def sig : Sig := ⟨[.val true (.sl (.sl (.int .i64)))], [(.val false, (.sl TEdge), .deep)]⟩
noncomputable def ctx : Ctx := ⟨tabOf tabl, [⟨162, impl_faceIndices.sig, impl_faceIndices.F⟩, ⟨224, impl_size_Lint64.sig, impl_size_Lint64.F⟩], [], [], [], []⟩
noncomputable def cfg : Cfg := ⟨ctx, [], [], fun id => match id with | 3 => ([1, 3, 9, 10], [4, 12]) | 6 => ([1, 3, 4, 9, 10, 15, 16, 17], [4, 12, 60]) | _ => ([], []), fun _ => []⟩
noncomputable def code : Code := (f210).body.getD .skip
noncomputable def fin := finK ctx sig [.tmp 2]
noncomputable def F (d : List (List Int) × Unit) : Option ((List (Int × Int × Int) × Unit) × (Unit)) := anyK (runFn cfg fin code (initSt sig.ps d 32))
noncomputable def l3 (k : Nat) (i3 : Int) (i4 : Int) (x5 : List (List Int)) (x6 : List (Int × Int × Int)) : Option ((List (Int × Int × Int) × Unit) × (Unit)) :=
  Go.Vm.runT cfg fin k [.inLoop (sub [1, 1, 0, 1, 0, 0] code), .inBlock 0, .code (sub [1, 1, 1] code)]
    ⟨[.dead, .ref 4 (.root 0), .dead, .view 12 (.root 0) 1 false, .dead, .dead, .dead, .dead, .dead, .val false [⟨(.int .i64), .sh, i3⟩], .val false [⟨(.int .i64), .sh, i4⟩]] ++ deads 21, [(4, ⟨true, [⟨(.sl (.sl (.int .i64))), .sh, x5⟩]⟩), (12, ⟨false, [⟨(.sl TEdge), .deep, x6⟩]⟩)]⟩
noncomputable def l6 (k : Nat) (i8 : Int) (i9 : Int) (i10 : Int) (i11 : Int) (i12 : Int) (x13 : List (List Int)) (x14 : List (Int × Int × Int)) (x15 : List Int) : Option ((List (Int × Int × Int) × Unit) × (Unit)) :=
  Go.Vm.runT cfg fin k [.inLoop (sub [1, 1, 0, 1, 0, 0, 1, 1, 0, 0, 1, 1, 0, 0] code), .inBlock 2, .inBlock 1, .code (sub [1, 1, 0, 1, 0, 0, 1, 1, 1] code), .inLoop (sub [1, 1, 0, 1, 0, 0] code), .inBlock 0, .code (sub [1, 1, 1] code)]
    ⟨[.dead, .ref 4 (.root 0), .dead, .view 12 (.root 0) 1 false, .val false [⟨(.int .i64), .sh, i8⟩], .dead, .dead, .dead, .dead, .val false [⟨(.int .i64), .sh, i9⟩], .val false [⟨(.int .i64), .sh, i10⟩], .dead, .dead, .dead, .dead, .view 60 (.root 0) 1 false, .val false [⟨(.int .i64), .sh, i11⟩], .val false [⟨(.int .i64), .sh, i12⟩]] ++ deads 14, [(4, ⟨true, [⟨(.sl (.sl (.int .i64))), .sh, x13⟩]⟩), (12, ⟨false, [⟨(.sl TEdge), .deep, x14⟩]⟩), (60, ⟨false, [⟨(.sl (.int .i64)), .deep, x15⟩]⟩)]⟩
theorem l3_eq (k : Nat) (i3 : Int) (i4 : Int) (x5 : List (List Int)) (x6 : List (Int × Int × Int)) : l3 (k + 1) i3 i4 x5 x6 =
  if (decide (i4 < i3)) = true then
    (impl_faceIndices.F (x5, i4, ())).bind fun r7 =>
      l6 k i4 i3 i4 (r7.1.1.length : Int) (0 : Int) x5 x6 r7.1.1
  else
    some ((x6, ()), ()) := by kernel_rfl
theorem l6_eq (k : Nat) (i8 : Int) (i9 : Int) (i10 : Int) (i11 : Int) (i12 : Int) (x13 : List (List Int)) (x14 : List (Int × Int × Int)) (x15 : List Int) : l6 (k + 1) i8 i9 i10 i11 i12 x13 x14 x15 =
  if (decide (i12 < i11)) = true then
    if 0 ≤ i12 ∧ i12 < (x15.length : Int) then
      if x14.length + ([(i8, (i12, (x15.getD i12.toNat 0 : Int)))] : List (Int × Int × Int)).length ≤ bigA then
        l6 k i8 i9 i10 i11 (IntKind.i64.wrap (i12 + (1 : Int))) x13 (x14 ++ ([(i8, (i12, (x15.getD i12.toNat 0 : Int)))])) x15
      else
        none
    else
      none
  else
    l3 k i9 (IntKind.i64.wrap (i10 + (1 : Int))) x13 x14 := by kernel_rfl
noncomputable def T (k : Nat) (c_1 : List (List Int)) : Option ((List (Int × Int × Int) × Unit) × (Unit)) :=
  (impl_size_Lint64.F (c_1, ())).bind fun r2 =>
    l3 k (r2.1.1 : Int) (0 : Int) c_1 ([])
theorem of (c_1 : List (List Int)) {r : (List (Int × Int × Int) × Unit) × (Unit)} (h : Ev (fun k => T k c_1) r) : F (c_1, ()) = some r := Ev.run (fun k => by kernel_rfl) h
theorem ok : CtxOK prog ctx := ⟨nilM, mixed_ok, tab_ok tab_good, consM ⟨impl_faceIndices.S, consM ⟨impl_size_Lint64.S, nilM⟩⟩, nilM, nilM⟩
theorem S : Sound prog ⟨210, sig, F⟩ := sound_k (res := [.tmp 2]) func210 ok
end impl_arrows
namespace impl_isElement
noncomputable def sig : Sig := ⟨[.val false (.int .i64), .val false (.int .i64)], [(.val false, .bool, .deep)]⟩
noncomputable def ctx : Ctx := ⟨tabOf tabl, [⟨121, impl_within.sig, impl_within.F⟩], [], [], [], []⟩
noncomputable def cfg : Cfg := ⟨ctx, [], [], fun _ => ([], []), fun _ => []⟩
noncomputable def code : Code := (f275).body.getD .skip
noncomputable def fin := finK ctx sig [.tmp 4]
noncomputable def F (d : Int × Int × Unit) : Option ((Bool × Unit) × (Unit)) := anyK (runFn cfg fin code (initSt sig.ps d 9))
noncomputable def T (a_1 : Int) (p_2 : Int) : Option ((Bool × Unit) × (Unit)) :=
  (impl_within.F (a_1, (0 : Int), IntKind.i64.wrap (p_2 - (1 : Int)), ())).bind fun r3 =>
    some (((r3.1.1 : Bool), ()), ())
theorem eq (a_1 : Int) (p_2 : Int) : F (a_1, p_2, ()) = T a_1 p_2 := eq_any fun k => by kernel_rfl
theorem ok : CtxOK prog ctx := ⟨nilM, mixed_ok, tab_ok tab_good, consM ⟨impl_within.S, nilM⟩, nilM, nilM⟩
theorem S : Sound prog ⟨275, sig, F⟩ := sound_k (res := [.tmp 4]) func275 ok
end impl_isElement
namespace impl_areElements_1
noncomputable def sig : Sig := ⟨[.val false (.int .i64), .rptr (.int .i64)], [(.val false, .bool, .deep)]⟩
noncomputable def ctx : Ctx := ⟨tabOf tabl, [⟨275, impl_isElement.sig, impl_isElement.F⟩], [], [], [], []⟩
noncomputable def cfg : Cfg := ⟨ctx, [], [], fun _ => ([], []), fun _ => []⟩
noncomputable def code : Code := (f274).body.getD .skip
noncomputable def fin := finK ctx sig [.tmp 3]
noncomputable def F (d : Int × Int × Unit) : Option ((Bool × Unit) × (Unit)) := anyK (runFn cfg fin code (initSt sig.ps d 8))
noncomputable def T (a_1 : Int) (a_2 : Int) : Option ((Bool × Unit) × (Unit)) :=
  (impl_isElement.F (a_1, a_2, ())).bind fun r3 =>
    some ((!(r3.1.1 : Bool), ()), ())
theorem eq (a_1 : Int) (a_2 : Int) : F (a_1, a_2, ()) = T a_1 a_2 := eq_any fun k => by kernel_rfl
theorem ok : CtxOK prog ctx := ⟨nilM, mixed_ok, tab_ok tab_good, consM ⟨impl_isElement.S, nilM⟩, nilM, nilM⟩
theorem S : Sound prog ⟨274, sig, F⟩ := sound_k (res := [.tmp 3]) func274 ok
noncomputable def cloG (y : Int × Unit) (d : Int × Unit) : Option (Bool × Unit) := (F (joinIns [.rptr (.int .i64)] [(false, (.int .i64))] d y)).map (·.1)
noncomputable def clo : Clo := ⟨274, ⟨[(false, (.int .i64))], [(.val false, .bool, .deep)]⟩, [.rptr (.int .i64)], cloG⟩
theorem cloS : SoundClo prog clo := sound_clo (s := ⟨[(false, (.int .i64))], [(.val false, .bool, .deep)]⟩) (caps := [.rptr (.int .i64)]) rfl S
end impl_areElements_1
namespace impl_areElements
noncomputable def sig : Sig := ⟨[.val false (.sl (.int .i64)), .val false (.int .i64)], [(.val false, .bool, .deep)]⟩
noncomputable def ctx : Ctx := ⟨tabOf tabl, [⟨119, slices_ContainsFunc_Lint64_int64.sig, slices_ContainsFunc_Lint64_int64.F⟩], [impl_areElements_1.clo], [], [], []⟩
noncomputable def cfg : Cfg := ⟨ctx, [], [], fun _ => ([], []), fun _ => []⟩
noncomputable def code : Code := (f199).body.getD .skip
noncomputable def fin := finK ctx sig [.tmp 4]
noncomputable def F (d : List Int × Int × Unit) : Option ((Bool × Unit) × (Unit)) := anyK (runFn cfg fin code (initSt sig.ps d 9))
noncomputable def T (list_1 : List Int) (p_2 : Int) : Option ((Bool × Unit) × (Unit)) :=
  (slices_ContainsFunc_Lint64_int64.F (list_1, impl_areElements_1.cloG (p_2, ()), ())).bind fun r3 =>
    some ((!(r3.1.1 : Bool), ()), ())
theorem eq (list_1 : List Int) (p_2 : Int) : F (list_1, p_2, ()) = T list_1 p_2 := eq_any fun k => by kernel_rfl
theorem ok : CtxOK prog ctx := ⟨nilM, mixed_ok, tab_ok tab_good, consM ⟨slices_ContainsFunc_Lint64_int64.S, nilM⟩, consM ⟨impl_areElements_1.cloS, nilM⟩, nilM⟩
theorem S : Sound prog ⟨199, sig, F⟩ := sound_k (res := [.tmp 4]) func199 ok
end impl_areElements
namespace impl_isSide
noncomputable def sig : Sig := ⟨[.val false (.int .i64)], [(.val false, .bool, .deep)]⟩
noncomputable def ctx : Ctx := ⟨tabOf tabl, [⟨121, impl_within.sig, impl_within.F⟩], [], [], [], []⟩
noncomputable def cfg : Cfg := ⟨ctx, [], [], fun _ => ([], []), fun _ => []⟩
noncomputable def code : Code := (f284).body.getD .skip
noncomputable def fin := finK ctx sig [.tmp 2]
noncomputable def F (d : Int × Unit) : Option ((Bool × Unit) × (Unit)) := anyK (runFn cfg fin code (initSt sig.ps d 5))
noncomputable def T (n_1 : Int) : Option ((Bool × Unit) × (Unit)) :=
  (impl_within.F (n_1, (0 : Int), (32 : Int), ())).bind fun r2 =>
    some (((r2.1.1 : Bool), ()), ())
theorem eq (n_1 : Int) : F (n_1, ()) = T n_1 := eq_any fun k => by kernel_rfl
theorem ok : CtxOK prog ctx := ⟨nilM, mixed_ok, tab_ok tab_good, consM ⟨impl_within.S, nilM⟩, nilM, nilM⟩
theorem S : Sound prog ⟨284, sig, F⟩ := sound_k (res := [.tmp 2]) func284 ok
end impl_isSide
namespace impl_ValidMatrix
noncomputable def sig : Sig := ⟨[.val true TMatrix], [(.val false, .bool, .deep)]⟩
noncomputable def ctx : Ctx := ⟨tabOf tabl, [⟨161, impl_size_int64.sig, impl_size_int64.F⟩, ⟨178, impl_ValidPrime.sig, impl_ValidPrime.F⟩, ⟨199, impl_areElements.sig, impl_areElements.F⟩, ⟨284, impl_isSide.sig, impl_isSide.F⟩], [], [], [], []⟩
noncomputable def cfg : Cfg := ⟨ctx, [], [], fun _ => ([], []), fun _ => []⟩
noncomputable def code : Code := (f238).body.getD .skip
noncomputable def fin := finK ctx sig [.tmp 2]
noncomputable def F (d : (Int × Int × Int × List Int) × Unit) : Option ((Bool × Unit) × (Unit)) := anyK (runFn cfg fin code (initSt sig.ps d 34))
noncomputable def T (m_1 : Int) (m_2 : Int) (m_3 : Int) (m_4 : List Int) : Option ((Bool × Unit) × (Unit)) :=
  (impl_ValidPrime.F (m_1, ())).bind fun r5 =>
    if (r5.1.1 : Bool) = true then
      (impl_isSide.F (m_2, ())).bind fun r6 =>
        if (r6.1.1 : Bool) = true then
          (impl_isSide.F (m_3, ())).bind fun r7 =>
            if (r7.1.1 : Bool) = true then
              (impl_size_int64.F (m_4, ())).bind fun r8 =>
                if ((r8.1.1 : Int) == (IntKind.i64.wrap (m_2 * m_3))) = true then
                  (impl_areElements.F (m_4, m_1, ())).bind fun r9 =>
                    some (((r9.1.1 : Bool), ()), ())
                else
                  some ((false, ()), ())
            else
              some ((false, ()), ())
        else
          some ((false, ()), ())
    else
      some ((false, ()), ())
theorem eq (m_1 : Int) (m_2 : Int) (m_3 : Int) (m_4 : List Int) : F ((m_1, (m_2, (m_3, m_4))), ()) = T m_1 m_2 m_3 m_4 := eq_any fun k => by kernel_rfl
theorem ok : CtxOK prog ctx := ⟨nilM, mixed_ok, tab_ok tab_good, consM ⟨impl_size_int64.S, consM ⟨impl_ValidPrime.S, consM ⟨impl_areElements.S, consM ⟨impl_isSide.S, nilM⟩⟩⟩⟩, nilM, nilM⟩
theorem S : Sound prog ⟨238, sig, F⟩ := sound_k (res := [.tmp 2]) func238 ok
end impl_ValidMatrix
namespace impl_isBetween
noncomputable def sig : Sig := ⟨[.val true TMatrix, .val false (.int .i64), .val false (.int .i64), .val false (.int .i64)], [(.val false, .bool, .deep)]⟩
noncomputable def ctx : Ctx := ⟨tabOf tabl, [⟨238, impl_ValidMatrix.sig, impl_ValidMatrix.F⟩], [], [], [], []⟩
noncomputable def cfg : Cfg := ⟨ctx, [], [], fun _ => ([], []), fun _ => []⟩
noncomputable def code : Code := (f264).body.getD .skip
noncomputable def fin := finK ctx sig [.tmp 8]
noncomputable def F (d : (Int × Int × Int × List Int) × Int × Int × Int × Unit) : Option ((Bool × Unit) × (Unit)) := anyK (runFn cfg fin code (initSt sig.ps d 29))
noncomputable def T (m_1 : Int) (m_2 : Int) (m_3 : Int) (m_4 : List Int) (p_5 : Int) (from_6 : Int) (to_7 : Int) : Option ((Bool × Unit) × (Unit)) :=
  (impl_ValidMatrix.F ((m_1, (m_2, (m_3, m_4))), ())).bind fun r8 =>
    if (r8.1.1 : Bool) = true then
      if (m_1 == p_5) = true then
        if (m_2 == to_7) = true then
          some ((m_3 == from_6, ()), ())
        else
          some ((false, ()), ())
      else
        some ((false, ()), ())
    else
      some ((false, ()), ())
theorem eq (m_1 : Int) (m_2 : Int) (m_3 : Int) (m_4 : List Int) (p_5 : Int) (from_6 : Int) (to_7 : Int) : F ((m_1, (m_2, (m_3, m_4))), p_5, from_6, to_7, ()) = T m_1 m_2 m_3 m_4 p_5 from_6 to_7 := eq_any fun k => by kernel_rfl
theorem ok : CtxOK prog ctx := ⟨nilM, mixed_ok, tab_ok tab_good, consM ⟨impl_ValidMatrix.S, nilM⟩, nilM, nilM⟩
theorem S : Sound prog ⟨264, sig, F⟩ := sound_k (res := [.tmp 8]) func264 ok
end impl_isBetween
namespace impl_ValidSheaf
noncomputable def sig : Sig := ⟨[.val true TSheaf], [(.val false, .bool, .deep)]⟩
noncomputable def ctx : Ctx := ⟨tabOf tabl, [⟨104, impl_ValidComplex.sig, impl_ValidComplex.F⟩, ⟨133, impl_areStalks.sig, impl_areStalks.F⟩, ⟨178, impl_ValidPrime.sig, impl_ValidPrime.F⟩, ⟨210, impl_arrows.sig, impl_arrows.F⟩, ⟨264, impl_isBetween.sig, impl_isBetween.F⟩], [], [], [], []⟩
noncomputable def cfg : Cfg := ⟨ctx, [], [], fun id => match id with | 5 => ([1, 3, 27, 28, 29], [4, 12]) | _ => ([], []), fun _ => []⟩
noncomputable def code : Code := (f192).body.getD .skip
noncomputable def fin := finK ctx sig [.tmp 2]
noncomputable def F (d : (List (List Int) × Int × List Int × List (Int × Int × Int × List Int)) × Unit) : Option ((Bool × Unit) × (Unit)) := anyK (runFn cfg fin code (initSt sig.ps d 69))
noncomputable def l5 (k : Nat) (i9 : Int) (i10 : Int) (x11 : List (List Int)) (i12 : Int) (x13 : List Int) (x14 : List (Int × Int × Int × List Int)) (x15 : List (Int × Int × Int)) : Option ((Bool × Unit) × (Unit)) :=
  Go.Vm.runT cfg fin k [.inLoop (sub [1, 1, 1, 0, 1, 0, 0] code), .inBlock 0, .code (sub [1, 1, 1, 1] code)]
    ⟨[.dead, .ref 4 (.root 0), .dead, .view 12 (.root 0) 1 false, .dead, .dead, .dead, .dead, .dead, .dead, .dead, .dead, .dead, .dead, .dead, .dead, .dead, .dead, .dead, .dead, .dead, .dead, .dead, .dead, .dead, .dead, .dead, .view 12 (.root 0) 1 false, .val false [⟨(.int .i64), .sh, i9⟩], .val false [⟨(.int .i64), .sh, i10⟩]] ++ deads 39, [(4, ⟨true, [⟨(.sl (.sl (.int .i64))), .sh, x11⟩, ⟨(.int .i64), .sh, i12⟩, ⟨(.sl (.int .i64)), .sh, x13⟩, ⟨(.sl TMatrix), .sh, x14⟩]⟩), (12, ⟨false, [⟨(.sl TEdge), .deep, x15⟩]⟩)]⟩
theorem l5_eq (k : Nat) (i9 : Int) (i10 : Int) (x11 : List (List Int)) (i12 : Int) (x13 : List Int) (x14 : List (Int × Int × Int × List Int)) (x15 : List (Int × Int × Int)) : l5 (k + 1) i9 i10 x11 i12 x13 x14 x15 =
  if (decide (i10 < i9)) = true then
    if 0 ≤ i10 ∧ i10 < (x15.length : Int) then
      if (decide (i10 ≥ (x14.length : Int))) = true then
        some ((false, ()), ())
      else
        if 0 ≤ i10 ∧ i10 < (x14.length : Int) then
          if 0 ≤ (((x15.getD i10.toNat (0, 0, 0)).2).2 : Int) ∧ (((x15.getD i10.toNat (0, 0, 0)).2).2 : Int) < (x13.length : Int) then
            if 0 ≤ ((x15.getD i10.toNat (0, 0, 0)).1 : Int) ∧ ((x15.getD i10.toNat (0, 0, 0)).1 : Int) < (x13.length : Int) then
              (impl_isBetween.F (x14.getD i10.toNat (0, 0, 0, ([] : List Int)), i12, x13.getD (((x15.getD i10.toNat (0, 0, 0)).2).2 : Int).toNat 0, x13.getD ((x15.getD i10.toNat (0, 0, 0)).1 : Int).toNat 0, ())).bind fun r16 =>
                if (!(r16.1.1 : Bool)) = true then
                  some ((false, ()), ())
                else
                  l5 k i9 (IntKind.i64.wrap (i10 + (1 : Int))) x11 i12 x13 x14 x15
            else
              none
          else
            none
        else
          none
    else
      none
  else
    some (((x15.length : Int) == (x14.length : Int), ()), ()) := by kernel_rfl
noncomputable def T (k : Nat) (toArray_1 : List (List Int)) (toArray_2 : Int) (toArray_3 : List Int) (toArray_4 : List (Int × Int × Int × List Int)) : Option ((Bool × Unit) × (Unit)) :=
  (impl_ValidComplex.F (toArray_1, ())).bind fun r5 =>
    if (!(r5.1.1 : Bool)) = true then
      some ((false, ()), ())
    else
      (impl_ValidPrime.F (toArray_2, ())).bind fun r6 =>
        if (!(r6.1.1 : Bool)) = true then
          some ((false, ()), ())
        else
          (impl_areStalks.F (toArray_1, toArray_3, ())).bind fun r7 =>
            if (!(r7.1.1 : Bool)) = true then
              some ((false, ()), ())
            else
              (impl_arrows.F (toArray_1, ())).bind fun r8 =>
                l5 k (r8.1.1.length : Int) (0 : Int) toArray_1 toArray_2 toArray_3 toArray_4 r8.1.1
theorem of (toArray_1 : List (List Int)) (toArray_2 : Int) (toArray_3 : List Int) (toArray_4 : List (Int × Int × Int × List Int)) {r : (Bool × Unit) × (Unit)} (h : Ev (fun k => T k toArray_1 toArray_2 toArray_3 toArray_4) r) : F ((toArray_1, (toArray_2, (toArray_3, toArray_4))), ()) = some r := Ev.run (fun k => by kernel_rfl) h
theorem ok : CtxOK prog ctx := ⟨nilM, mixed_ok, tab_ok tab_good, consM ⟨impl_ValidComplex.S, consM ⟨impl_areStalks.S, consM ⟨impl_ValidPrime.S, consM ⟨impl_arrows.S, consM ⟨impl_isBetween.S, nilM⟩⟩⟩⟩⟩, nilM, nilM⟩
theorem S : Sound prog ⟨192, sig, F⟩ := sound_k (res := [.tmp 2]) func192 ok
end impl_ValidSheaf
namespace impl_firstMap
noncomputable def sig : Sig := ⟨[.val true TSheaf, .val false (.int .i64)], [(.val false, (.int .i64), .deep)]⟩
noncomputable def ctx : Ctx := ⟨tabOf tabl, [⟨161, impl_size_int64.sig, impl_size_int64.F⟩], [], [], [], []⟩
noncomputable def cfg : Cfg := ⟨ctx, [], [], fun id => match id with | 3 => ([5, 12, 13, 14], []) | _ => ([], []), fun _ => []⟩
noncomputable def code : Code := (f212).body.getD .skip
noncomputable def fin := finK ctx sig [.tmp 4]
noncomputable def F (d : (List (List Int) × Int × List Int × List (Int × Int × Int × List Int)) × Int × Unit) : Option ((Int × Unit) × (Unit)) := anyK (runFn cfg fin code (initSt sig.ps d 27))
noncomputable def l3 (k : Nat) (i6 : Int) (x7 : List (List Int)) (i8 : Int) (i9 : Int) : Option ((Int × Unit) × (Unit)) :=
  Go.Vm.runT cfg fin k [.inLoop (sub [1, 1, 0, 1, 0, 0] code), .inBlock 0, .code (sub [1, 1, 1] code)]
    ⟨[.dead, .dead, .dead, .dead, .dead, .val false [⟨(.int .i64), .sh, i6⟩], .dead, .dead, .dead, .dead, .dead, .dead, .val false [⟨(.sl (.sl (.int .i64))), .sh, x7⟩], .val false [⟨(.int .i64), .sh, i8⟩], .val false [⟨(.int .i64), .sh, i9⟩]] ++ deads 12, []⟩
theorem l3_eq (k : Nat) (i6 : Int) (x7 : List (List Int)) (i8 : Int) (i9 : Int) : l3 (k + 1) i6 x7 i8 i9 =
  if (decide (i9 < i8)) = true then
    if 0 ≤ i9 ∧ i9 < (x7.length : Int) then
      if (decide (((x7.getD i9.toNat ([] : List Int)).length : Int) > (1 : Int))) = true then
        (impl_size_int64.F (x7.getD i9.toNat ([] : List Int), ())).bind fun r10 =>
          l3 k (IntKind.i64.wrap (i6 + (r10.1.1 : Int))) x7 i8 (IntKind.i64.wrap (i9 + (1 : Int)))
      else
        l3 k i6 x7 i8 (IntKind.i64.wrap (i9 + (1 : Int)))
    else
      none
  else
    some ((i6, ()), ()) := by kernel_rfl
noncomputable def T (k : Nat) (s_1 : List (List Int)) (s_2 : Int) (s_3 : List Int) (s_4 : List (Int × Int × Int × List Int)) (simplex_5 : Int) : Option ((Int × Unit) × (Unit)) :=
  if 0 ≤ (0 : Int) ∧ (0 : Int) ≤ simplex_5 ∧ simplex_5 ≤ (s_1.length : Int) then
    l3 k (0 : Int) (cutL s_1 (0 : Int) simplex_5) ((cutL s_1 (0 : Int) simplex_5).length : Int) (0 : Int)
  else
    none
theorem of (s_1 : List (List Int)) (s_2 : Int) (s_3 : List Int) (s_4 : List (Int × Int × Int × List Int)) (simplex_5 : Int) {r : (Int × Unit) × (Unit)} (h : Ev (fun k => T k s_1 s_2 s_3 s_4 simplex_5) r) : F ((s_1, (s_2, (s_3, s_4))), simplex_5, ()) = some r := Ev.run (fun k => by kernel_rfl) h
theorem ok : CtxOK prog ctx := ⟨nilM, mixed_ok, tab_ok tab_good, consM ⟨impl_size_int64.S, nilM⟩, nilM, nilM⟩
theorem S : Sound prog ⟨212, sig, F⟩ := sound_k (res := [.tmp 4]) func212 ok
end impl_firstMap
namespace impl_direct
noncomputable def sig : Sig := ⟨[.val true TSheaf, .val false (.int .i64), .val false (.int .i64)], [(.val true, TMatrix, .sh)]⟩
noncomputable def ctx : Ctx := ⟨tabOf tabl, [⟨212, impl_firstMap.sig, impl_firstMap.F⟩], [], [], [], []⟩
noncomputable def cfg : Cfg := ⟨ctx, [], [], fun _ => ([], []), fun _ => []⟩
noncomputable def code : Code := (f124).body.getD .skip
noncomputable def fin := finK ctx sig [.cell 6 87]
noncomputable def F (d : (List (List Int) × Int × List Int × List (Int × Int × Int × List Int)) × Int × Int × Unit) : Option (((Int × Int × Int × List Int) × Unit) × (Unit)) := anyK (runFn cfg fin code (initSt sig.ps d 16))
noncomputable def T (s_1 : List (List Int)) (s_2 : Int) (s_3 : List Int) (s_4 : List (Int × Int × Int × List Int)) (simplex_5 : Int) (place_6 : Int) : Option (((Int × Int × Int × List Int) × Unit) × (Unit)) :=
  (impl_firstMap.F ((s_1, (s_2, (s_3, s_4))), simplex_5, ())).bind fun r7 =>
    if 0 ≤ (IntKind.i64.wrap ((r7.1.1 : Int) + place_6)) ∧ (IntKind.i64.wrap ((r7.1.1 : Int) + place_6)) < (s_4.length : Int) then
      let y8 : Int := (s_4.getD (IntKind.i64.wrap ((r7.1.1 : Int) + place_6)).toNat (0, 0, 0, ([] : List Int))).1
      let y9 : Int := ((s_4.getD (IntKind.i64.wrap ((r7.1.1 : Int) + place_6)).toNat (0, 0, 0, ([] : List Int))).2).1
      let y10 : Int := (((s_4.getD (IntKind.i64.wrap ((r7.1.1 : Int) + place_6)).toNat (0, 0, 0, ([] : List Int))).2).2).1
      let y11 : List Int := (((s_4.getD (IntKind.i64.wrap ((r7.1.1 : Int) + place_6)).toNat (0, 0, 0, ([] : List Int))).2).2).2
      some (((y8, (y9, (y10, y11))), ()), ())
    else
      none
theorem eq (s_1 : List (List Int)) (s_2 : Int) (s_3 : List Int) (s_4 : List (Int × Int × Int × List Int)) (simplex_5 : Int) (place_6 : Int) : F ((s_1, (s_2, (s_3, s_4))), simplex_5, place_6, ()) = T s_1 s_2 s_3 s_4 simplex_5 place_6 := eq_any fun k => by kernel_rfl
theorem ok : CtxOK prog ctx := ⟨nilM, mixed_ok, tab_ok tab_good, consM ⟨impl_firstMap.S, nilM⟩, nilM, nilM⟩
theorem S : Sound prog ⟨124, sig, F⟩ := sound_k (res := [.cell 6 87]) func124 ok
end impl_direct
namespace impl_filled
noncomputable def sig : Sig := ⟨[.val false (.int .i64), .val false (.int .i64), .val false (.int .i64), .fnx ⟨[(false, (.int .i64)), (false, (.int .i64))], [(.val false, (.int .i64), .deep)]⟩], [(.val true, TMatrix, .deep)]⟩
noncomputable def ctx : Ctx := ⟨tabOf tabl, [], [], [], [], []⟩
noncomputable def cfg : Cfg := ⟨ctx, [], [], fun id => match id with | 3 => ([2, 3, 8, 9, 16, 17], [32, 36]) | 6 => ([2, 3, 8, 9, 10, 16, 17, 20, 21], [32, 36]) | _ => ([], []), fun _ => []⟩
noncomputable def code : Code := (f135).body.getD .skip
noncomputable def fin := finK ctx sig [.cell 8 87]
noncomputable def F (d : Int × Int × Int × ((Int × Int × Unit) → Option (Int × Unit)) × Unit) : Option (((Int × Int × Int × List Int) × Unit) × (Unit)) := anyK (runFn cfg fin code (initSt sig.ps d 36))
noncomputable def l3 (k : Nat) (i5 : Int) (f6 : (Int × Int × Unit) → Option (Int × Unit)) (i7 : Int) (i8 : Int) (i9 : Int) (i10 : Int) (i11 : Int) (x12 : List Int) (i13 : Int) (i14 : Int) (i15 : Int) (x16 : List Int) : Option (((Int × Int × Int × List Int) × Unit) × (Unit)) :=
  Go.Vm.runT cfg fin k [.inLoop (sub [1, 1, 0, 1, 0, 0] code), .inBlock 0, .code (sub [1, 1, 1] code)]
    ⟨[.dead, .dead, .val false [⟨(.int .i64), .sh, i5⟩], .fnx ⟨[(false, (.int .i64)), (false, (.int .i64))], [(.val false, (.int .i64), .deep)]⟩ f6, .dead, .dead, .dead, .dead, .ref 32 (.root 0), .ref 36 (.root 0), .dead, .dead, .dead, .dead, .dead, .dead, .val false [⟨(.int .i64), .sh, i7⟩], .val false [⟨(.int .i64), .sh, i8⟩]] ++ deads 18, [(32, ⟨true, [⟨(.int .i64), .sh, i9⟩, ⟨(.int .i64), .sh, i10⟩, ⟨(.int .i64), .sh, i11⟩, ⟨(.sl (.int .i64)), .deep, x12⟩]⟩), (36, ⟨true, [⟨(.int .i64), .sh, i13⟩, ⟨(.int .i64), .sh, i14⟩, ⟨(.int .i64), .sh, i15⟩, ⟨(.sl (.int .i64)), .deep, x16⟩]⟩)]⟩
noncomputable def l6 (k : Nat) (i17 : Int) (f18 : (Int × Int × Unit) → Option (Int × Unit)) (i19 : Int) (i20 : Int) (i21 : Int) (i22 : Int) (i23 : Int) (i24 : Int) (i25 : Int) (i26 : Int) (x27 : List Int) (i28 : Int) (i29 : Int) (i30 : Int) (x31 : List Int) : Option (((Int × Int × Int × List Int) × Unit) × (Unit)) :=
  Go.Vm.runT cfg fin k [.inLoop (sub [1, 1, 0, 1, 0, 0, 1, 1, 0, 0, 1, 1, 0, 0] code), .inBlock 2, .inBlock 1, .code (sub [1, 1, 0, 1, 0, 0, 1, 1, 1] code), .inLoop (sub [1, 1, 0, 1, 0, 0] code), .inBlock 0, .code (sub [1, 1, 1] code)]
    ⟨[.dead, .dead, .val false [⟨(.int .i64), .sh, i17⟩], .fnx ⟨[(false, (.int .i64)), (false, (.int .i64))], [(.val false, (.int .i64), .deep)]⟩ f18, .dead, .dead, .dead, .dead, .ref 32 (.root 0), .ref 36 (.root 0), .val false [⟨(.int .i64), .sh, i19⟩], .dead, .dead, .dead, .dead, .dead, .val false [⟨(.int .i64), .sh, i20⟩], .val false [⟨(.int .i64), .sh, i21⟩], .dead, .dead, .val false [⟨(.int .i64), .sh, i22⟩], .val false [⟨(.int .i64), .sh, i23⟩]] ++ deads 14, [(32, ⟨true, [⟨(.int .i64), .sh, i24⟩, ⟨(.int .i64), .sh, i25⟩, ⟨(.int .i64), .sh, i26⟩, ⟨(.sl (.int .i64)), .deep, x27⟩]⟩), (36, ⟨true, [⟨(.int .i64), .sh, i28⟩, ⟨(.int .i64), .sh, i29⟩, ⟨(.int .i64), .sh, i30⟩, ⟨(.sl (.int .i64)), .deep, x31⟩]⟩)]⟩
theorem l3_eq (k : Nat) (i5 : Int) (f6 : (Int × Int × Unit) → Option (Int × Unit)) (i7 : Int) (i8 : Int) (i9 : Int) (i10 : Int) (i11 : Int) (x12 : List Int) (i13 : Int) (i14 : Int) (i15 : Int) (x16 : List Int) : l3 (k + 1) i5 f6 i7 i8 i9 i10 i11 x12 i13 i14 i15 x16 =
  if (decide (i8 < i7)) = true then
    l6 k i5 f6 i8 i7 i8 i5 (0 : Int) i9 i10 i11 x12 i13 i14 i15 x16
  else
    some (((i13, (i14, (i15, x16))), ()), ()) := by kernel_rfl
theorem l6_eq (k : Nat) (i17 : Int) (f18 : (Int × Int × Unit) → Option (Int × Unit)) (i19 : Int) (i20 : Int) (i21 : Int) (i22 : Int) (i23 : Int) (i24 : Int) (i25 : Int) (i26 : Int) (x27 : List Int) (i28 : Int) (i29 : Int) (i30 : Int) (x31 : List Int) : l6 (k + 1) i17 f18 i19 i20 i21 i22 i23 i24 i25 i26 x27 i28 i29 i30 x31 =
  if (decide (i23 < i22)) = true then
    (f18 (i19, i23, ())).bind fun r32 =>
      if x31.length + ([(r32.1 : Int)] : List Int).length ≤ bigA then
        l6 k i17 f18 i19 i20 i21 i22 (IntKind.i64.wrap (i23 + (1 : Int))) i24 i25 i26 x27 i28 i29 i30 (x31 ++ ([(r32.1 : Int)]))
      else
        none
  else
    l3 k i17 f18 i20 (IntKind.i64.wrap (i21 + (1 : Int))) i24 i25 i26 x27 i28 i29 i30 x31 := by kernel_rfl
noncomputable def T (k : Nat) (p_1 : Int) (rows_2 : Int) (columns_3 : Int) (f_4 : (Int × Int × Unit) → Option (Int × Unit)) : Option (((Int × Int × Int × List Int) × Unit) × (Unit)) :=
  l3 k columns_3 f_4 rows_2 (0 : Int) 0 0 0 ([]) p_1 rows_2 columns_3 ([])
theorem of (p_1 : Int) (rows_2 : Int) (columns_3 : Int) (f_4 : (Int × Int × Unit) → Option (Int × Unit)) {r : ((Int × Int × Int × List Int) × Unit) × (Unit)} (h : Ev (fun k => T k p_1 rows_2 columns_3 f_4) r) : F (p_1, rows_2, columns_3, f_4, ()) = some r := Ev.run (fun k => by kernel_rfl) h
theorem ok : CtxOK prog ctx := ⟨nilM, mixed_ok, tab_ok tab_good, nilM, nilM, nilM⟩
theorem S : Sound prog ⟨135, sig, F⟩ := sound_k (res := [.cell 8 87]) func135 ok
end impl_filled
namespace slices_Clone_Lint64_int64
noncomputable def sig : Sig := ⟨[.val false (.sl (.int .i64))], [(.val false, (.sl (.int .i64)), .deep)]⟩
noncomputable def ctx : Ctx := ⟨tabOf tabl, [], [], [], [], []⟩
noncomputable def cfg : Cfg := ⟨ctx, [], [], fun _ => ([], []), fun _ => []⟩
noncomputable def code : Code := (f157).body.getD .skip
noncomputable def fin := finK ctx sig [.tmp 2]
noncomputable def F (d : List Int × Unit) : Option ((List Int × Unit) × (Unit)) := anyK (runFn cfg fin code (initSt sig.ps d 8))
noncomputable def T (s_1 : List Int) : Option ((List Int × Unit) × (Unit)) :=
  if 0 < s_1.length then
    if ([] : List Int).length + s_1.length ≤ bigA then
      some ((([] : List Int) ++ s_1, ()), ())
    else
      none
  else
    both (
      some (([], ()), ())
    ) (
      if ([] : List Int).length + s_1.length ≤ bigA then
        some ((([] : List Int) ++ s_1, ()), ())
      else
        none
    )
theorem eq (s_1 : List Int) : F (s_1, ()) = T s_1 := eq_any fun k => by kernel_rfl
theorem ok : CtxOK prog ctx := ⟨nilM, mixed_ok, tab_ok tab_good, nilM, nilM, nilM⟩
theorem S : Sound prog ⟨157, sig, F⟩ := sound_k (res := [.tmp 2]) func157 ok
end slices_Clone_Lint64_int64
namespace impl_Matrix_row
noncomputable def sig : Sig := ⟨[.val true TMatrix, .val false (.int .i64)], [(.val false, (.sl (.int .i64)), .sh)]⟩
noncomputable def ctx : Ctx := ⟨tabOf tabl, [], [], [], [], []⟩
noncomputable def cfg : Cfg := ⟨ctx, [], [], fun _ => ([], []), fun _ => []⟩
noncomputable def code : Code := (f174).body.getD .skip
noncomputable def fin := finK ctx sig [.tmp 4]
noncomputable def F (d : (Int × Int × Int × List Int) × Int × Unit) : Option ((List Int × Unit) × (Unit)) := anyK (runFn cfg fin code (initSt sig.ps d 17))
noncomputable def T (m_1 : Int) (m_2 : Int) (m_3 : Int) (m_4 : List Int) (i_5 : Int) : Option ((List Int × Unit) × (Unit)) :=
  if 0 ≤ (IntKind.i64.wrap (i_5 * m_3)) ∧ (IntKind.i64.wrap (i_5 * m_3)) ≤ (IntKind.i64.wrap ((IntKind.i64.wrap (i_5 + (1 : Int))) * m_3)) ∧ (IntKind.i64.wrap ((IntKind.i64.wrap (i_5 + (1 : Int))) * m_3)) ≤ (m_4.length : Int) then
    some ((cutL m_4 (IntKind.i64.wrap (i_5 * m_3)) (IntKind.i64.wrap ((IntKind.i64.wrap (i_5 + (1 : Int))) * m_3)), ()), ())
  else
    none
theorem eq (m_1 : Int) (m_2 : Int) (m_3 : Int) (m_4 : List Int) (i_5 : Int) : F ((m_1, (m_2, (m_3, m_4))), i_5, ()) = T m_1 m_2 m_3 m_4 i_5 := eq_any fun k => by kernel_rfl
theorem ok : CtxOK prog ctx := ⟨nilM, mixed_ok, tab_ok tab_good, nilM, nilM, nilM⟩
theorem S : Sound prog ⟨174, sig, F⟩ := sound_k (res := [.tmp 4]) func174 ok
end impl_Matrix_row
namespace impl_rowsOf
noncomputable def sig : Sig := ⟨[.val true TMatrix], [(.val false, (.sl (.sl (.int .i64))), .deep)]⟩
noncomputable def ctx : Ctx := ⟨tabOf tabl, [⟨157, slices_Clone_Lint64_int64.sig, slices_Clone_Lint64_int64.F⟩, ⟨174, impl_Matrix_row.sig, impl_Matrix_row.F⟩], [], [], [], []⟩
noncomputable def cfg : Cfg := ⟨ctx, [], [], fun id => match id with | 3 => ([1, 3, 6, 7], [4, 12]) | _ => ([], []), fun _ => []⟩
noncomputable def code : Code := (f160).body.getD .skip
noncomputable def fin := finK ctx sig [.tmp 2]
noncomputable def F (d : (Int × Int × Int × List Int) × Unit) : Option ((List (List Int) × Unit) × (Unit)) := anyK (runFn cfg fin code (initSt sig.ps d 19))
noncomputable def l3 (k : Nat) (i5 : Int) (i6 : Int) (i7 : Int) (i8 : Int) (i9 : Int) (x10 : List Int) (x11 : List (List Int)) : Option ((List (List Int) × Unit) × (Unit)) :=
  Go.Vm.runT cfg fin k [.inLoop (sub [1, 1, 0, 1, 0, 0] code), .inBlock 0, .code (sub [1, 1, 1] code)]
    ⟨[.dead, .ref 4 (.root 0), .dead, .view 12 (.root 0) 1 false, .dead, .dead, .val false [⟨(.int .i64), .sh, i5⟩], .val false [⟨(.int .i64), .sh, i6⟩]] ++ deads 11, [(4, ⟨true, [⟨(.int .i64), .sh, i7⟩, ⟨(.int .i64), .sh, i8⟩, ⟨(.int .i64), .sh, i9⟩, ⟨(.sl (.int .i64)), .sh, x10⟩]⟩), (12, ⟨false, [⟨(.sl (.sl (.int .i64))), .deep, x11⟩]⟩)]⟩
theorem l3_eq (k : Nat) (i5 : Int) (i6 : Int) (i7 : Int) (i8 : Int) (i9 : Int) (x10 : List Int) (x11 : List (List Int)) : l3 (k + 1) i5 i6 i7 i8 i9 x10 x11 =
  if (decide (i6 < i5)) = true then
    (impl_Matrix_row.F ((i7, (i8, (i9, x10))), i6, ())).bind fun r12 =>
      (slices_Clone_Lint64_int64.F (r12.1.1, ())).bind fun r13 =>
        if x11.length + ([r13.1.1] : List (List Int)).length ≤ bigA then
          l3 k i5 (IntKind.i64.wrap (i6 + (1 : Int))) i7 i8 i9 x10 (x11 ++ ([r13.1.1]))
        else
          none
  else
    some ((x11, ()), ()) := by kernel_rfl
noncomputable def T (k : Nat) (m_1 : Int) (m_2 : Int) (m_3 : Int) (m_4 : List Int) : Option ((List (List Int) × Unit) × (Unit)) :=
  l3 k m_2 (0 : Int) m_1 m_2 m_3 m_4 ([])
theorem of (m_1 : Int) (m_2 : Int) (m_3 : Int) (m_4 : List Int) {r : (List (List Int) × Unit) × (Unit)} (h : Ev (fun k => T k m_1 m_2 m_3 m_4) r) : F ((m_1, (m_2, (m_3, m_4))), ()) = some r := Ev.run (fun k => by kernel_rfl) h
theorem ok : CtxOK prog ctx := ⟨nilM, mixed_ok, tab_ok tab_good, consM ⟨slices_Clone_Lint64_int64.S, consM ⟨impl_Matrix_row.S, nilM⟩⟩, nilM, nilM⟩
theorem S : Sound prog ⟨160, sig, F⟩ := sound_k (res := [.tmp 2]) func160 ok
end impl_rowsOf
namespace impl_Matrix_at
noncomputable def sig : Sig := ⟨[.val true TMatrix, .val false (.int .i64), .val false (.int .i64)], [(.val false, (.int .i64), .deep)]⟩
noncomputable def ctx : Ctx := ⟨tabOf tabl, [], [], [], [], []⟩
noncomputable def cfg : Cfg := ⟨ctx, [], [], fun _ => ([], []), fun _ => []⟩
noncomputable def code : Code := (f137).body.getD .skip
noncomputable def fin := finK ctx sig [.tmp 6]
noncomputable def F (d : (Int × Int × Int × List Int) × Int × Int × Unit) : Option ((Int × Unit) × (Unit)) := anyK (runFn cfg fin code (initSt sig.ps d 17))
noncomputable def T (m_1 : Int) (m_2 : Int) (m_3 : Int) (m_4 : List Int) (i_5 : Int) (j_6 : Int) : Option ((Int × Unit) × (Unit)) :=
  if 0 ≤ (IntKind.i64.wrap ((IntKind.i64.wrap (i_5 * m_3)) + j_6)) ∧ (IntKind.i64.wrap ((IntKind.i64.wrap (i_5 * m_3)) + j_6)) < (m_4.length : Int) then
    some (((m_4.getD (IntKind.i64.wrap ((IntKind.i64.wrap (i_5 * m_3)) + j_6)).toNat 0 : Int), ()), ())
  else
    none
theorem eq (m_1 : Int) (m_2 : Int) (m_3 : Int) (m_4 : List Int) (i_5 : Int) (j_6 : Int) : F ((m_1, (m_2, (m_3, m_4))), i_5, j_6, ()) = T m_1 m_2 m_3 m_4 i_5 j_6 := eq_any fun k => by kernel_rfl
theorem ok : CtxOK prog ctx := ⟨nilM, mixed_ok, tab_ok tab_good, nilM, nilM, nilM⟩
theorem S : Sound prog ⟨137, sig, F⟩ := sound_k (res := [.tmp 6]) func137 ok
end impl_Matrix_at
namespace impl_transpose_1
noncomputable def sig : Sig := ⟨[.val false (.int .i64), .val false (.int .i64), .rptr TMatrix], [(.val false, (.int .i64), .deep)]⟩
noncomputable def ctx : Ctx := ⟨tabOf tabl, [⟨137, impl_Matrix_at.sig, impl_Matrix_at.F⟩], [], [], [], []⟩
noncomputable def cfg : Cfg := ⟨ctx, [], [], fun _ => ([], []), fun _ => []⟩
noncomputable def code : Code := (f279).body.getD .skip
noncomputable def fin := finK ctx sig [.tmp 5]
noncomputable def F (d : Int × Int × (Int × Int × Int × List Int) × Unit) : Option ((Int × Unit) × (Unit)) := anyK (runFn cfg fin code (initSt sig.ps d 10))
noncomputable def T (i_1 : Int) (j_2 : Int) (a_3 : Int) (a_4 : Int) (a_5 : Int) (a_6 : List Int) : Option ((Int × Unit) × (Unit)) :=
  (impl_Matrix_at.F ((a_3, (a_4, (a_5, a_6))), j_2, i_1, ())).bind fun r7 =>
    some (((r7.1.1 : Int), ()), ())
theorem eq (i_1 : Int) (j_2 : Int) (a_3 : Int) (a_4 : Int) (a_5 : Int) (a_6 : List Int) : F (i_1, j_2, (a_3, (a_4, (a_5, a_6))), ()) = T i_1 j_2 a_3 a_4 a_5 a_6 := eq_any fun k => by kernel_rfl
theorem ok : CtxOK prog ctx := ⟨nilM, mixed_ok, tab_ok tab_good, consM ⟨impl_Matrix_at.S, nilM⟩, nilM, nilM⟩
theorem S : Sound prog ⟨279, sig, F⟩ := sound_k (res := [.tmp 5]) func279 ok
noncomputable def cloG (y : (Int × Int × Int × List Int) × Unit) (d : Int × Int × Unit) : Option (Int × Unit) := (F (joinIns [.rptr TMatrix] [(false, (.int .i64)), (false, (.int .i64))] d y)).map (·.1)
noncomputable def clo : Clo := ⟨279, ⟨[(false, (.int .i64)), (false, (.int .i64))], [(.val false, (.int .i64), .deep)]⟩, [.rptr TMatrix], cloG⟩
theorem cloS : SoundClo prog clo := sound_clo (s := ⟨[(false, (.int .i64)), (false, (.int .i64))], [(.val false, (.int .i64), .deep)]⟩) (caps := [.rptr TMatrix]) rfl S
end impl_transpose_1
namespace impl_transpose
noncomputable def sig : Sig := ⟨[.val true TMatrix], [(.val true, TMatrix, .deep)]⟩
noncomputable def ctx : Ctx := ⟨tabOf tabl, [⟨135, impl_filled.sig, impl_filled.F⟩], [impl_transpose_1.clo], [], [], []⟩
noncomputable def cfg : Cfg := ⟨ctx, [], [], fun _ => ([], []), fun _ => []⟩
noncomputable def code : Code := (f223).body.getD .skip
noncomputable def fin := finK ctx sig [.cell 2 87]
noncomputable def F (d : (Int × Int × Int × List Int) × Unit) : Option (((Int × Int × Int × List Int) × Unit) × (Unit)) := anyK (runFn cfg fin code (initSt sig.ps d 11))
noncomputable def T (m_1 : Int) (m_2 : Int) (m_3 : Int) (m_4 : List Int) : Option (((Int × Int × Int × List Int) × Unit) × (Unit)) :=
  (impl_filled.F (m_1, m_3, m_2, impl_transpose_1.cloG ((m_1, (m_2, (m_3, m_4))), ()), ())).bind fun r5 =>
    some ((r5.1.1, ()), ())
theorem eq (m_1 : Int) (m_2 : Int) (m_3 : Int) (m_4 : List Int) : F ((m_1, (m_2, (m_3, m_4))), ()) = T m_1 m_2 m_3 m_4 := eq_any fun k => by kernel_rfl
theorem ok : CtxOK prog ctx := ⟨nilM, mixed_ok, tab_ok tab_good, consM ⟨impl_filled.S, nilM⟩, consM ⟨impl_transpose_1.cloS, nilM⟩, nilM⟩
theorem S : Sound prog ⟨223, sig, F⟩ := sound_k (res := [.cell 2 87]) func223 ok
end impl_transpose
namespace impl_columnsOf
noncomputable def sig : Sig := ⟨[.val true TMatrix], [(.val false, (.sl (.sl (.int .i64))), .deep)]⟩
noncomputable def ctx : Ctx := ⟨tabOf tabl, [⟨160, impl_rowsOf.sig, impl_rowsOf.F⟩, ⟨223, impl_transpose.sig, impl_transpose.F⟩], [], [], [], []⟩
noncomputable def cfg : Cfg := ⟨ctx, [], [], fun _ => ([], []), fun _ => []⟩
noncomputable def code : Code := (f143).body.getD .skip
noncomputable def fin := finK ctx sig [.tmp 2]
noncomputable def F (d : (Int × Int × Int × List Int) × Unit) : Option ((List (List Int) × Unit) × (Unit)) := anyK (runFn cfg fin code (initSt sig.ps d 6))
noncomputable def T (m_1 : Int) (m_2 : Int) (m_3 : Int) (m_4 : List Int) : Option ((List (List Int) × Unit) × (Unit)) :=
  (impl_transpose.F ((m_1, (m_2, (m_3, m_4))), ())).bind fun r5 =>
    (impl_rowsOf.F (r5.1.1, ())).bind fun r6 =>
      some ((r6.1.1, ()), ())
theorem eq (m_1 : Int) (m_2 : Int) (m_3 : Int) (m_4 : List Int) : F ((m_1, (m_2, (m_3, m_4))), ()) = T m_1 m_2 m_3 m_4 := eq_any fun k => by kernel_rfl
theorem ok : CtxOK prog ctx := ⟨nilM, mixed_ok, tab_ok tab_good, consM ⟨impl_rowsOf.S, consM ⟨impl_transpose.S, nilM⟩⟩, nilM, nilM⟩
theorem S : Sound prog ⟨143, sig, F⟩ := sound_k (res := [.tmp 2]) func143 ok
end impl_columnsOf
namespace impl_dot
noncomputable def sig : Sig := ⟨[.val false (.sl (.int .i64)), .val false (.sl (.int .i64)), .val false (.int .i64)], [(.val false, (.int .i64), .deep)]⟩
noncomputable def ctx : Ctx := ⟨tabOf tabl, [], [], [], [], []⟩
noncomputable def cfg : Cfg := ⟨ctx, [], [], fun id => match id with | 3 => ([0, 1, 2, 7, 10, 11], []) | _ => ([], []), fun _ => []⟩
noncomputable def code : Code := (f173).body.getD .skip
noncomputable def fin := finK ctx sig [.tmp 6]
noncomputable def F (d : List Int × List Int × Int × Unit) : Option ((Int × Unit) × (Unit)) := anyK (runFn cfg fin code (initSt sig.ps d 29))
noncomputable def l3 (k : Nat) (x4 : List Int) (x5 : List Int) (i6 : Int) (i7 : Int) (i8 : Int) (i9 : Int) : Option ((Int × Unit) × (Unit)) :=
  Go.Vm.runT cfg fin k [.inLoop (sub [1, 1, 0, 1, 0, 0] code), .inBlock 0, .code (sub [1, 1, 1] code)]
    ⟨[.val false [⟨(.sl (.int .i64)), .sh, x4⟩], .val false [⟨(.sl (.int .i64)), .sh, x5⟩], .val false [⟨(.int .i64), .sh, i6⟩], .dead, .dead, .dead, .dead, .val false [⟨(.int .i64), .sh, i7⟩], .dead, .dead, .val false [⟨(.int .i64), .sh, i8⟩], .val false [⟨(.int .i64), .sh, i9⟩]] ++ deads 17, []⟩
theorem l3_eq (k : Nat) (x4 : List Int) (x5 : List Int) (i6 : Int) (i7 : Int) (i8 : Int) (i9 : Int) : l3 (k + 1) x4 x5 i6 i7 i8 i9 =
  if (decide (i9 < i8)) = true then
    if 0 ≤ i9 ∧ i9 < (x4.length : Int) then
      if 0 ≤ i9 ∧ i9 < (x5.length : Int) then
        if i6 = 0 then
          none
        else
          l3 k x4 x5 i6 ((IntKind.i64.wrap (i7 + (IntKind.i64.wrap ((x4.getD i9.toNat 0 : Int) * (x5.getD i9.toNat 0 : Int))))).tmod i6) i8 (IntKind.i64.wrap (i9 + (1 : Int)))
      else
        none
    else
      none
  else
    some ((i7, ()), ()) := by kernel_rfl
noncomputable def T (k : Nat) (a_1 : List Int) (b_2 : List Int) (p_3 : Int) : Option ((Int × Unit) × (Unit)) :=
  l3 k a_1 b_2 p_3 (0 : Int) (a_1.length : Int) (0 : Int)
theorem of (a_1 : List Int) (b_2 : List Int) (p_3 : Int) {r : (Int × Unit) × (Unit)} (h : Ev (fun k => T k a_1 b_2 p_3) r) : F (a_1, b_2, p_3, ()) = some r := Ev.run (fun k => by kernel_rfl) h
theorem ok : CtxOK prog ctx := ⟨nilM, mixed_ok, tab_ok tab_good, nilM, nilM, nilM⟩
theorem S : Sound prog ⟨173, sig, F⟩ := sound_k (res := [.tmp 6]) func173 ok
end impl_dot
namespace impl_product_1
noncomputable def sig : Sig := ⟨[.val false (.int .i64), .val false (.int .i64), .rptr TMatrix, .rptr (.sl (.sl (.int .i64)))], [(.val false, (.int .i64), .deep)]⟩
noncomputable def ctx : Ctx := ⟨tabOf tabl, [⟨173, impl_dot.sig, impl_dot.F⟩, ⟨174, impl_Matrix_row.sig, impl_Matrix_row.F⟩], [], [], [], []⟩
noncomputable def cfg : Cfg := ⟨ctx, [], [], fun _ => ([], []), fun _ => []⟩
noncomputable def code : Code := (f290).body.getD .skip
noncomputable def fin := finK ctx sig [.tmp 6]
noncomputable def F (d : Int × Int × (Int × Int × Int × List Int) × List (List Int) × Unit) : Option ((Int × Unit) × (Unit)) := anyK (runFn cfg fin code (initSt sig.ps d 17))
noncomputable def T (i_1 : Int) (j_2 : Int) (a_3 : Int) (a_4 : Int) (a_5 : Int) (a_6 : List Int) (a_7 : List (List Int)) : Option ((Int × Unit) × (Unit)) :=
  (impl_Matrix_row.F ((a_3, (a_4, (a_5, a_6))), i_1, ())).bind fun r8 =>
    if 0 ≤ j_2 ∧ j_2 < (a_7.length : Int) then
      (impl_dot.F (r8.1.1, a_7.getD j_2.toNat ([] : List Int), a_3, ())).bind fun r9 =>
        some (((r9.1.1 : Int), ()), ())
    else
      none
theorem eq (i_1 : Int) (j_2 : Int) (a_3 : Int) (a_4 : Int) (a_5 : Int) (a_6 : List Int) (a_7 : List (List Int)) : F (i_1, j_2, (a_3, (a_4, (a_5, a_6))), a_7, ()) = T i_1 j_2 a_3 a_4 a_5 a_6 a_7 := eq_any fun k => by kernel_rfl
theorem ok : CtxOK prog ctx := ⟨nilM, mixed_ok, tab_ok tab_good, consM ⟨impl_dot.S, consM ⟨impl_Matrix_row.S, nilM⟩⟩, nilM, nilM⟩
theorem S : Sound prog ⟨290, sig, F⟩ := sound_k (res := [.tmp 6]) func290 ok
noncomputable def cloG (y : (Int × Int × Int × List Int) × List (List Int) × Unit) (d : Int × Int × Unit) : Option (Int × Unit) := (F (joinIns [.rptr TMatrix, .rptr (.sl (.sl (.int .i64)))] [(false, (.int .i64)), (false, (.int .i64))] d y)).map (·.1)
noncomputable def clo : Clo := ⟨290, ⟨[(false, (.int .i64)), (false, (.int .i64))], [(.val false, (.int .i64), .deep)]⟩, [.rptr TMatrix, .rptr (.sl (.sl (.int .i64)))], cloG⟩
theorem cloS : SoundClo prog clo := sound_clo (s := ⟨[(false, (.int .i64)), (false, (.int .i64))], [(.val false, (.int .i64), .deep)]⟩) (caps := [.rptr TMatrix, .rptr (.sl (.sl (.int .i64)))]) rfl S
end impl_product_1
namespace impl_product
noncomputable def sig : Sig := ⟨[.val true TMatrix, .val true TMatrix], [(.val true, TMatrix, .deep)]⟩
noncomputable def ctx : Ctx := ⟨tabOf tabl, [⟨135, impl_filled.sig, impl_filled.F⟩, ⟨143, impl_columnsOf.sig, impl_columnsOf.F⟩], [impl_product_1.clo], [], [], []⟩
noncomputable def cfg : Cfg := ⟨ctx, [], [], fun _ => ([], []), fun _ => []⟩
noncomputable def code : Code := (f265).body.getD .skip
noncomputable def fin := finK ctx sig [.cell 4 87]
noncomputable def F (d : (Int × Int × Int × List Int) × (Int × Int × Int × List Int) × Unit) : Option (((Int × Int × Int × List Int) × Unit) × (Unit)) := anyK (runFn cfg fin code (initSt sig.ps d 16))
noncomputable def T (a_1 : Int) (a_2 : Int) (a_3 : Int) (a_4 : List Int) (b_5 : Int) (b_6 : Int) (b_7 : Int) (b_8 : List Int) : Option (((Int × Int × Int × List Int) × Unit) × (Unit)) :=
  (impl_columnsOf.F ((b_5, (b_6, (b_7, b_8))), ())).bind fun r9 =>
    (impl_filled.F (a_1, a_2, b_7, impl_product_1.cloG ((a_1, (a_2, (a_3, a_4))), r9.1.1, ()), ())).bind fun r10 =>
      some ((r10.1.1, ()), ())
theorem eq (a_1 : Int) (a_2 : Int) (a_3 : Int) (a_4 : List Int) (b_5 : Int) (b_6 : Int) (b_7 : Int) (b_8 : List Int) : F ((a_1, (a_2, (a_3, a_4))), (b_5, (b_6, (b_7, b_8))), ()) = T a_1 a_2 a_3 a_4 b_5 b_6 b_7 b_8 := eq_any fun k => by kernel_rfl
theorem ok : CtxOK prog ctx := ⟨nilM, mixed_ok, tab_ok tab_good, consM ⟨impl_filled.S, consM ⟨impl_columnsOf.S, nilM⟩⟩, consM ⟨impl_product_1.cloS, nilM⟩, nilM⟩
theorem S : Sound prog ⟨265, sig, F⟩ := sound_k (res := [.cell 4 87]) func265 ok
end impl_product
namespace slices_Equal_Lint64_int64
noncomputable def sig : Sig := ⟨[.val false (.sl (.int .i64)), .val false (.sl (.int .i64))], [(.val false, .bool, .deep)]⟩
noncomputable def ctx : Ctx := ⟨tabOf tabl, [], [], [], [], []⟩
noncomputable def cfg : Cfg := ⟨ctx, [], [], fun id => match id with | 4 => ([0, 1, 12, 13], []) | _ => ([], []), fun _ => []⟩
noncomputable def code : Code := (f259).body.getD .skip
noncomputable def fin := finK ctx sig [.tmp 4]
noncomputable def F (d : List Int × List Int × Unit) : Option ((Bool × Unit) × (Unit)) := anyK (runFn cfg fin code (initSt sig.ps d 26))
noncomputable def l4 (k : Nat) (x3 : List Int) (x4 : List Int) (i5 : Int) (i6 : Int) : Option ((Bool × Unit) × (Unit)) :=
  Go.Vm.runT cfg fin k [.inLoop (sub [1, 1, 0, 1, 0, 0] code), .inBlock 0, .code (sub [1, 1, 1] code)]
    ⟨[.val false [⟨(.sl (.int .i64)), .sh, x3⟩], .val false [⟨(.sl (.int .i64)), .sh, x4⟩], .dead, .dead, .dead, .dead, .dead, .dead, .dead, .dead, .dead, .dead, .val false [⟨(.int .i64), .sh, i5⟩], .val false [⟨(.int .i64), .sh, i6⟩]] ++ deads 12, []⟩
theorem l4_eq (k : Nat) (x3 : List Int) (x4 : List Int) (i5 : Int) (i6 : Int) : l4 (k + 1) x3 x4 i5 i6 =
  if (decide (i6 < i5)) = true then
    if 0 ≤ i6 ∧ i6 < (x3.length : Int) then
      if 0 ≤ i6 ∧ i6 < (x4.length : Int) then
        if ((x3.getD i6.toNat 0 : Int) != (x4.getD i6.toNat 0 : Int)) = true then
          some ((false, ()), ())
        else
          l4 k x3 x4 i5 (IntKind.i64.wrap (i6 + (1 : Int)))
      else
        none
    else
      none
  else
    some ((true, ()), ()) := by kernel_rfl
noncomputable def T (k : Nat) (s1_1 : List Int) (s2_2 : List Int) : Option ((Bool × Unit) × (Unit)) :=
  if ((s1_1.length : Int) != (s2_2.length : Int)) = true then
    some ((false, ()), ())
  else
    l4 k s1_1 s2_2 (s1_1.length : Int) (0 : Int)
theorem of (s1_1 : List Int) (s2_2 : List Int) {r : (Bool × Unit) × (Unit)} (h : Ev (fun k => T k s1_1 s2_2) r) : F (s1_1, s2_2, ()) = some r := Ev.run (fun k => by kernel_rfl) h
theorem ok : CtxOK prog ctx := ⟨nilM, mixed_ok, tab_ok tab_good, nilM, nilM, nilM⟩
theorem S : Sound prog ⟨259, sig, F⟩ := sound_k (res := [.tmp 4]) func259 ok
noncomputable def cloG (y : Unit) (d : List Int × List Int × Unit) : Option (Bool × Unit) := (F (joinIns [] [(false, (.sl (.int .i64))), (false, (.sl (.int .i64)))] d y)).map (·.1)
noncomputable def clo : Clo := ⟨259, ⟨[(false, (.sl (.int .i64))), (false, (.sl (.int .i64)))], [(.val false, .bool, .deep)]⟩, [], cloG⟩
theorem cloS : SoundClo prog clo := sound_clo (s := ⟨[(false, (.sl (.int .i64))), (false, (.sl (.int .i64)))], [(.val false, .bool, .deep)]⟩) (caps := []) rfl S
end slices_Equal_Lint64_int64
end Go.Proofs.YtjimdbbeilfkfaaGreat
