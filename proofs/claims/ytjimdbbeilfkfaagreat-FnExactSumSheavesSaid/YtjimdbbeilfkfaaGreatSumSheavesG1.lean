/- The functions, as the machine runs them. -/
import Derived.Test.YtjimdbbeilfkfaaGreatVm3
import Derived.Test.YtjimdbbeilfkfaaGreatProg
import Derived.KernelRfl
import Derived.WalkKit
import Derived.Lib.Walk
import Derived.Lib.AppendZeros
import Derived.Sort.WalkA
import Derived.Sort.WalkB2
import Derived.Sort.WalkB12
import Derived.Deep.LoopGhost
import Derived.Shelf.RegionOpenPlain
import Derived.Lib.SliceRun
namespace Go.Proofs.YtjimdbbeilfkfaaGreat
open Go Go.Vm
set_option linter.unusedVariables false
set_option linter.unusedSimpArgs false
open Go.Proofs.Tryz
abbrev TMatrix_2 : Ty := .pair (.int .i64) (.sl (.int .i64))
abbrev TMatrix_1 : Ty := .pair (.int .i64) TMatrix_2
abbrev TMatrix : Ty := .pair (.int .i64) TMatrix_1
abbrev TSheaf_2 : Ty := .pair (.sl (.int .i64)) (.sl TMatrix)
abbrev TSheaf_1 : Ty := .pair (.int .i64) TSheaf_2
abbrev TSheaf : Ty := .pair (.sl (.sl (.int .i64))) TSheaf_1
abbrev TEdge_1 : Ty := .pair (.int .i64) (.int .i64)
abbrev TEdge : Ty := .pair (.int .i64) TEdge_1
def tabl : List (Nat × TInfo) := [
  (2, ⟨false, (.int .i64), 0, []⟩),
  (3, ⟨false, (.int .i64), 0, []⟩),
  (4, ⟨false, .bool, 0, []⟩),
  (22, ⟨false, (.sl (.sl (.int .i64))), 25, []⟩),
  (24, ⟨true, (.sl (.sl (.int .i64))), 0, [(0, 1, false)]⟩),
  (25, ⟨false, (.sl (.int .i64)), 2, []⟩),
  (26, ⟨false, (.sl TMatrix), 90, []⟩),
  (32, ⟨true, (.sl (.sl (.int .i64))), 0, [(0, 1, false)]⟩),
  (33, ⟨false, (.sl TMatrix), 87, []⟩),
  (42, ⟨true, TSheaf, 0, [(0, 1, true), (1, 1, false), (2, 1, false), (3, 1, false)]⟩),
  (46, ⟨true, TSheaf, 0, [(0, 1, true), (1, 1, false), (2, 1, false), (3, 1, false)]⟩),
  (87, ⟨true, TMatrix, 0, [(0, 1, false), (1, 1, false), (2, 1, false), (3, 1, false)]⟩),
  (90, ⟨true, TMatrix, 0, [(0, 1, false), (1, 1, false), (2, 1, false), (3, 1, false)]⟩),
  (138, ⟨true, TEdge, 0, [(0, 1, false), (1, 1, false), (2, 1, false)]⟩),
  (197, ⟨false, (.sl TEdge), 138, []⟩),
  (202, ⟨false, (.sl TSheaf), 46, []⟩),
  (235, ⟨false, (.int .u64), 0, []⟩),
  (242, ⟨false, (.sl (.int .i64)), 3, []⟩)]
theorem tab_good : tabB Go.Proofs.Tryz.prog tabl = true := by kernel_rfl
theorem tab_open : openB Go.Proofs.Tryz.prog tabl = true := by kernel_rfl
theorem mixed_ok : Go.Proofs.Tryz.prog.follows .mixedOrders = true := by kernel_rfl
set_option maxHeartbeats 2000000 in
set_option maxRecDepth 100000 in
theorem slices_Grow_Lint64_int64.grow0 (w : World) : Calls Go.Proofs.Tryz.prog 293 #[.slice none 0 0, .int .i64 ((0 : Nat) : Int)] w fun e w' => e = .returned (.slice none 0 0) ∧ w' = w := by
  have h2 : Go.RowKit.wrap64 (((0 : Nat) : Int) - ((0 : Nat) : Int)) = 0 := by unfold Go.RowKit.wrap64; omega
  go_enter Go.Proofs.Tryz.func293, Go.Proofs.Tryz.ntmps293
  go_wp2
  go_ret
  exact ⟨rfl, rfl⟩
set_option maxHeartbeats 4000000 in
set_option maxRecDepth 100000 in
theorem slices_Grow_Lint64_int64.grow1 (w : World) (n : Nat) (h0 : 0 < n) (hn : n ≤ 1099511627776) (i : TypeInfo) (z : Value) (hi : Go.Proofs.Tryz.prog.info? 2 = some i) (hz : i.zero = some z) (hs : 0 < i.size) (hb : i.bytes ≤ 256) :
    Calls Go.Proofs.Tryz.prog 293 #[.slice none 0 0, .int .i64 (n : Int)] w fun e w' => ∃ G, n ≤ G ∧ G ≤ 9223372036854775807 ∧ e = .returned (.slice (some ⟨w.heap.size, 0, none⟩) 0 G) ∧ w' = w.drew.alloc (.cells (Builtin.zeroCells z.cells n ++ Builtin.zeroCells z.cells (G - n)) 2) := by
  have h1 : ¬ ((n : Int) < 0) := by omega
  have h2 : Go.RowKit.wrap64 (((0 : Nat) : Int) - ((0 : Nat) : Int)) = 0 := by unfold Go.RowKit.wrap64; omega
  have h3 : Go.RowKit.wrap64 ((n : Int) - 0) = (n : Int) := by unfold Go.RowKit.wrap64; omega
  have h4 : (n : Int) > 0 := by omega
  have hm : n * i.bytes ≤ 1099511627776 * 256 := Nat.mul_le_mul hn hb
  have hrz : ∀ ty, (Builtin.append_ #[25, 3] ty #[.slice none 0 0, .int .i64 (n : Int)]).run Go.Proofs.Tryz.prog w =
      .ok (.slice (some ⟨w.heap.size, 0, none⟩) n (grownCap w n 0 2)) (w.drew.alloc (.cells (Builtin.zeroCells z.cells n ++ Builtin.zeroCells z.cells (grownCap w n 0 2 - n)) 2)) := fun ty =>
    Lib.run_append_nil_zeros (P := Go.Proofs.Tryz.prog) w 25 3 ty 2 i z .i64 .i64 (by kernel_rfl) (by kernel_rfl) hi hz n h0 hs (by omega) (by omega)
  have hGn : n ≤ grownCap w n 0 2 := grownCap_ge w _ _ _
  obtain ⟨G, hG⟩ : ∃ G, G = grownCap w n 0 2 := ⟨_, rfl⟩
  have hG63 : G ≤ 9223372036854775807 := by
    have := grownCap_le_maxLen w n 0 2 (by unfold maxLen; omega)
    rw [← hG] at this
    unfold maxLen at this
    omega
  rw [← hG] at hrz hGn
  clear hG
  refine Calls.mono (R := fun e w' => e = .returned (.slice (some ⟨w.heap.size, 0, none⟩) 0 G) ∧ w' = w.drew.alloc (.cells (Builtin.zeroCells z.cells n ++ Builtin.zeroCells z.cells (G - n)) 2)) ?_ fun e w' h => ⟨G, hGn, hG63, h.1, h.2⟩
  clear hi hz hs hb hm
  go_enter Go.Proofs.Tryz.func293, Go.Proofs.Tryz.ntmps293
  go_wp2_with (at_builtin; refine Lib.wpList_append_run _ rfl _ _ _ _ rfl _ _ rfl rfl _ _ (hrz _) ?_)
  all_goals (go_ret; exact ⟨rfl, rfl⟩)
theorem slices_Grow_Lint64_int64.growOK : GrowOK Go.Proofs.Tryz.prog (293, (.int .i64)) := by
  have hT : tabOf tabl 2 = some ⟨false, (.int .i64), 0, []⟩ := by kernel_rfl
  obtain ⟨inf, h1, h2, h3, h4, h5⟩ := (tab_ok tab_good).info 2 _ hT
  exact growOK_of ⟨Go.Proofs.Tryz.f293, Go.Proofs.Tryz.func293, by kernel_rfl, by kernel_rfl⟩ (zero_size (tab_ok tab_good) hT) slices_Grow_Lint64_int64.grow0 fun w n a b => slices_Grow_Lint64_int64.grow1 w n a b inf _ h1 h5 (by rw [h2]; exact sz_pos _) h4
namespace laws_szInt64S
noncomputable def sig : Sig := ⟨[.val false (.sl (.int .i64)), .val false (.int .i64)], [(.val false, (.int .i64), .deep)]⟩
noncomputable def ctx : Ctx := ⟨tabOf tabl, [], [], [], [], []⟩
noncomputable def cfg : Cfg := ⟨ctx, [], [], fun _ => ([], []), fun _ => []⟩
noncomputable def code : Code := (f62).body.getD .skip
noncomputable def fin := finK ctx sig [.tmp 4]
noncomputable def F (d : List Int × Int × Unit) : Option ((Int × Unit) × (Unit)) := anyK (runFn cfg fin code (initSt sig.ps d 12))
noncomputable def T (a_1 : List Int) (left_2 : Int) : Option ((Int × Unit) × (Unit)) :=
  if (decide ((IntKind.i64.wrap (left_2 - (a_1.length : Int))) < (0 : Int))) = true then
    some (((-1 : Int), ()), ())
  else
    some ((IntKind.i64.wrap (left_2 - (a_1.length : Int)), ()), ())
theorem eq (a_1 : List Int) (left_2 : Int) : F (a_1, left_2, ()) = T a_1 left_2 := eq_any fun k => by kernel_rfl
theorem ok : CtxOK prog ctx := ⟨nilM, mixed_ok, tab_ok tab_good, nilM, nilM, nilM⟩
theorem S : Sound prog ⟨62, sig, F⟩ := sound_k (res := [.tmp 4]) func62 ok
end laws_szInt64S
namespace laws_szMatrix
noncomputable def sig : Sig := ⟨[.val true TMatrix, .val false (.int .i64)], [(.val false, (.int .i64), .deep)]⟩
noncomputable def ctx : Ctx := ⟨tabOf tabl, [⟨62, laws_szInt64S.sig, laws_szInt64S.F⟩], [], [], [], []⟩
noncomputable def cfg : Cfg := ⟨ctx, [], [], fun _ => ([], []), fun _ => []⟩
noncomputable def code : Code := (f71).body.getD .skip
noncomputable def fin := finK ctx sig [.tmp 4]
noncomputable def F (d : (Int × Int × Int × List Int) × Int × Unit) : Option ((Int × Unit) × (Unit)) := anyK (runFn cfg fin code (initSt sig.ps d 12))
noncomputable def T (a_1 : Int) (a_2 : Int) (a_3 : Int) (a_4 : List Int) (left_5 : Int) : Option ((Int × Unit) × (Unit)) :=
  (laws_szInt64S.F (a_4, left_5, ())).bind fun r6 =>
    if (decide ((r6.1.1 : Int) < (0 : Int))) = true then
      some (((-1 : Int), ()), ())
    else
      some (((r6.1.1 : Int), ()), ())
theorem eq (a_1 : Int) (a_2 : Int) (a_3 : Int) (a_4 : List Int) (left_5 : Int) : F ((a_1, (a_2, (a_3, a_4))), left_5, ()) = T a_1 a_2 a_3 a_4 left_5 := eq_any fun k => by kernel_rfl
theorem ok : CtxOK prog ctx := ⟨nilM, mixed_ok, tab_ok tab_good, consM ⟨laws_szInt64S.S, nilM⟩, nilM, nilM⟩
theorem S : Sound prog ⟨71, sig, F⟩ := sound_k (res := [.tmp 4]) func71 ok
end laws_szMatrix
namespace laws_szMatrixS
noncomputable def sig : Sig := ⟨[.val false (.sl TMatrix), .val false (.int .i64)], [(.val false, (.int .i64), .deep)]⟩
noncomputable def ctx : Ctx := ⟨tabOf tabl, [⟨71, laws_szMatrix.sig, laws_szMatrix.F⟩], [], [], [], []⟩
noncomputable def cfg : Cfg := ⟨ctx, [], [], fun id => match id with | 5 => ([0, 1, 5], []) | _ => ([], []), fun _ => []⟩
noncomputable def code : Code := (f25).body.getD .skip
noncomputable def fin := finK ctx sig [.tmp 4]
noncomputable def F (d : List (Int × Int × Int × List Int) × Int × Unit) : Option ((Int × Unit) × (Unit)) := anyK (runFn cfg fin code (initSt sig.ps d 27))
noncomputable def l5 (k : Nat) (x3 : List (Int × Int × Int × List Int)) (i4 : Int) (i5 : Int) : Option ((Int × Unit) × (Unit)) :=
  Go.Vm.runT cfg fin k [.inLoop (sub [1, 1, 1, 0, 1, 0, 0] code), .inBlock 0, .code (sub [1, 1, 1, 1] code)]
    ⟨[.val false [⟨(.sl TMatrix), .sh, x3⟩], .val false [⟨(.int .i64), .sh, i4⟩], .dead, .dead, .dead, .val false [⟨(.int .i64), .sh, i5⟩]] ++ deads 21, []⟩
theorem l5_eq (k : Nat) (x3 : List (Int × Int × Int × List Int)) (i4 : Int) (i5 : Int) : l5 (k + 1) x3 i4 i5 =
  if (decide (i5 < (x3.length : Int))) = true then
    if 0 ≤ i5 ∧ i5 < (x3.length : Int) then
      (laws_szMatrix.F (x3.getD i5.toNat (0, 0, 0, ([] : List Int)), i4, ())).bind fun r6 =>
        if (decide ((r6.1.1 : Int) < (0 : Int))) = true then
          some (((-1 : Int), ()), ())
        else
          l5 k x3 (r6.1.1 : Int) (IntKind.i64.wrap (i5 + (1 : Int)))
    else
      none
  else
    some ((i4, ()), ()) := by kernel_rfl
noncomputable def T (k : Nat) (a_1 : List (Int × Int × Int × List Int)) (left_2 : Int) : Option ((Int × Unit) × (Unit)) :=
  if (decide ((IntKind.i64.wrap (left_2 - (a_1.length : Int))) < (0 : Int))) = true then
    some (((-1 : Int), ()), ())
  else
    l5 k a_1 (IntKind.i64.wrap (left_2 - (a_1.length : Int))) (0 : Int)
theorem of (a_1 : List (Int × Int × Int × List Int)) (left_2 : Int) {r : (Int × Unit) × (Unit)} (h : Ev (fun k => T k a_1 left_2) r) : F (a_1, left_2, ()) = some r := Ev.run (fun k => by kernel_rfl) h
theorem ok : CtxOK prog ctx := ⟨nilM, mixed_ok, tab_ok tab_good, consM ⟨laws_szMatrix.S, nilM⟩, nilM, nilM⟩
theorem S : Sound prog ⟨25, sig, F⟩ := sound_k (res := [.tmp 4]) func25 ok
end laws_szMatrixS
namespace laws_szInt64SS
noncomputable def sig : Sig := ⟨[.val false (.sl (.sl (.int .i64))), .val false (.int .i64)], [(.val false, (.int .i64), .deep)]⟩
noncomputable def ctx : Ctx := ⟨tabOf tabl, [⟨62, laws_szInt64S.sig, laws_szInt64S.F⟩], [], [], [], []⟩
noncomputable def cfg : Cfg := ⟨ctx, [], [], fun id => match id with | 5 => ([0, 1, 5], []) | _ => ([], []), fun _ => []⟩
noncomputable def code : Code := (f83).body.getD .skip
noncomputable def fin := finK ctx sig [.tmp 4]
noncomputable def F (d : List (List Int) × Int × Unit) : Option ((Int × Unit) × (Unit)) := anyK (runFn cfg fin code (initSt sig.ps d 27))
noncomputable def l5 (k : Nat) (x3 : List (List Int)) (i4 : Int) (i5 : Int) : Option ((Int × Unit) × (Unit)) :=
  Go.Vm.runT cfg fin k [.inLoop (sub [1, 1, 1, 0, 1, 0, 0] code), .inBlock 0, .code (sub [1, 1, 1, 1] code)]
    ⟨[.val false [⟨(.sl (.sl (.int .i64))), .sh, x3⟩], .val false [⟨(.int .i64), .sh, i4⟩], .dead, .dead, .dead, .val false [⟨(.int .i64), .sh, i5⟩]] ++ deads 21, []⟩
theorem l5_eq (k : Nat) (x3 : List (List Int)) (i4 : Int) (i5 : Int) : l5 (k + 1) x3 i4 i5 =
  if (decide (i5 < (x3.length : Int))) = true then
    if 0 ≤ i5 ∧ i5 < (x3.length : Int) then
      (laws_szInt64S.F (x3.getD i5.toNat ([] : List Int), i4, ())).bind fun r6 =>
        if (decide ((r6.1.1 : Int) < (0 : Int))) = true then
          some (((-1 : Int), ()), ())
        else
          l5 k x3 (r6.1.1 : Int) (IntKind.i64.wrap (i5 + (1 : Int)))
    else
      none
  else
    some ((i4, ()), ()) := by kernel_rfl
noncomputable def T (k : Nat) (a_1 : List (List Int)) (left_2 : Int) : Option ((Int × Unit) × (Unit)) :=
  if (decide ((IntKind.i64.wrap (left_2 - (a_1.length : Int))) < (0 : Int))) = true then
    some (((-1 : Int), ()), ())
  else
    l5 k a_1 (IntKind.i64.wrap (left_2 - (a_1.length : Int))) (0 : Int)
theorem of (a_1 : List (List Int)) (left_2 : Int) {r : (Int × Unit) × (Unit)} (h : Ev (fun k => T k a_1 left_2) r) : F (a_1, left_2, ()) = some r := Ev.run (fun k => by kernel_rfl) h
theorem ok : CtxOK prog ctx := ⟨nilM, mixed_ok, tab_ok tab_good, consM ⟨laws_szInt64S.S, nilM⟩, nilM, nilM⟩
theorem S : Sound prog ⟨83, sig, F⟩ := sound_k (res := [.tmp 4]) func83 ok
end laws_szInt64SS
namespace laws_szComplex
noncomputable def sig : Sig := ⟨[.val true (.sl (.sl (.int .i64))), .val false (.int .i64)], [(.val false, (.int .i64), .deep)]⟩
noncomputable def ctx : Ctx := ⟨tabOf tabl, [⟨83, laws_szInt64SS.sig, laws_szInt64SS.F⟩], [], [], [], []⟩
noncomputable def cfg : Cfg := ⟨ctx, [], [], fun _ => ([], []), fun _ => []⟩
noncomputable def code : Code := (f35).body.getD .skip
noncomputable def fin := finK ctx sig [.tmp 4]
noncomputable def F (d : List (List Int) × Int × Unit) : Option ((Int × Unit) × (Unit)) := anyK (runFn cfg fin code (initSt sig.ps d 12))
noncomputable def T (a_1 : List (List Int)) (left_2 : Int) : Option ((Int × Unit) × (Unit)) :=
  (laws_szInt64SS.F (a_1, left_2, ())).bind fun r3 =>
    if (decide ((r3.1.1 : Int) < (0 : Int))) = true then
      some (((-1 : Int), ()), ())
    else
      some (((r3.1.1 : Int), ()), ())
theorem eq (a_1 : List (List Int)) (left_2 : Int) : F (a_1, left_2, ()) = T a_1 left_2 := eq_any fun k => by kernel_rfl
theorem ok : CtxOK prog ctx := ⟨nilM, mixed_ok, tab_ok tab_good, consM ⟨laws_szInt64SS.S, nilM⟩, nilM, nilM⟩
theorem S : Sound prog ⟨35, sig, F⟩ := sound_k (res := [.tmp 4]) func35 ok
end laws_szComplex
namespace laws_szSheaf
noncomputable def sig : Sig := ⟨[.val true TSheaf, .val false (.int .i64)], [(.val false, (.int .i64), .deep)]⟩
noncomputable def ctx : Ctx := ⟨tabOf tabl, [⟨25, laws_szMatrixS.sig, laws_szMatrixS.F⟩, ⟨35, laws_szComplex.sig, laws_szComplex.F⟩, ⟨62, laws_szInt64S.sig, laws_szInt64S.F⟩], [], [], [], []⟩
noncomputable def cfg : Cfg := ⟨ctx, [], [], fun _ => ([], []), fun _ => []⟩
noncomputable def code : Code := (f24).body.getD .skip
noncomputable def fin := finK ctx sig [.tmp 4]
noncomputable def F (d : (List (List Int) × Int × List Int × List (Int × Int × Int × List Int)) × Int × Unit) : Option ((Int × Unit) × (Unit)) := anyK (runFn cfg fin code (initSt sig.ps d 24))
noncomputable def T (a_1 : List (List Int)) (a_2 : Int) (a_3 : List Int) (a_4 : List (Int × Int × Int × List Int)) (left_5 : Int) : Option ((Int × Unit) × (Unit)) :=
  (laws_szComplex.F (a_1, left_5, ())).bind fun r6 =>
    if (decide ((r6.1.1 : Int) < (0 : Int))) = true then
      some (((-1 : Int), ()), ())
    else
      (laws_szInt64S.F (a_3, (r6.1.1 : Int), ())).bind fun r7 =>
        if (decide ((r7.1.1 : Int) < (0 : Int))) = true then
          some (((-1 : Int), ()), ())
        else
          (laws_szMatrixS.F (a_4, (r7.1.1 : Int), ())).bind fun r8 =>
            if (decide ((r8.1.1 : Int) < (0 : Int))) = true then
              some (((-1 : Int), ()), ())
            else
              some (((r8.1.1 : Int), ()), ())
theorem eq (a_1 : List (List Int)) (a_2 : Int) (a_3 : List Int) (a_4 : List (Int × Int × Int × List Int)) (left_5 : Int) : F ((a_1, (a_2, (a_3, a_4))), left_5, ()) = T a_1 a_2 a_3 a_4 left_5 := eq_any fun k => by kernel_rfl
theorem ok : CtxOK prog ctx := ⟨nilM, mixed_ok, tab_ok tab_good, consM ⟨laws_szMatrixS.S, consM ⟨laws_szComplex.S, consM ⟨laws_szInt64S.S, nilM⟩⟩⟩, nilM, nilM⟩
theorem S : Sound prog ⟨24, sig, F⟩ := sound_k (res := [.tmp 4]) func24 ok
end laws_szSheaf
namespace laws_toInt64S
noncomputable def sig : Sig := ⟨[.val false (.sl (.int .i64))], [(.val false, (.sl (.int .i64)), .deep)]⟩
noncomputable def ctx : Ctx := ⟨tabOf tabl, [], [], [], [], []⟩
noncomputable def cfg : Cfg := ⟨ctx, [], [], fun id => match id with | 3 => ([0, 3, 4], [12]) | _ => ([], []), fun _ => []⟩
noncomputable def code : Code := (f29).body.getD .skip
noncomputable def fin := finK ctx sig [.tmp 2]
noncomputable def F (d : List Int × Unit) : Option ((List Int × Unit) × (Unit)) := anyK (runFn cfg fin code (initSt sig.ps d 22))
noncomputable def l3 (k : Nat) (x2 : List Int) (i3 : Int) (x4 : List Int) : Option ((List Int × Unit) × (Unit)) :=
  Go.Vm.runT cfg fin k [.inLoop (sub [1, 1, 0, 1, 0, 0] code), .inBlock 0, .code (sub [1, 1, 1] code)]
    ⟨[.val false [⟨(.sl (.int .i64)), .sh, x2⟩], .dead, .dead, .view 12 (.root 0) 1 false, .val false [⟨(.int .i64), .sh, i3⟩]] ++ deads 17, [(12, ⟨false, [⟨(.sl (.int .i64)), .deep, x4⟩]⟩)]⟩
theorem l3_eq (k : Nat) (x2 : List Int) (i3 : Int) (x4 : List Int) : l3 (k + 1) x2 i3 x4 =
  if (decide (i3 < (x2.length : Int))) = true then
    if 0 ≤ i3 ∧ i3 < (x2.length : Int) then
      if 0 ≤ i3 ∧ i3 < (x4.length : Int) then
        l3 k x2 (IntKind.i64.wrap (i3 + (1 : Int))) (x4.set i3.toNat (x2.getD i3.toNat 0 : Int))
      else
        none
    else
      none
  else
    some ((x4, ()), ()) := by kernel_rfl
noncomputable def T (k : Nat) (a_1 : List Int) : Option ((List Int × Unit) × (Unit)) :=
  if 0 ≤ (a_1.length : Int) ∧ (a_1.length : Int) ≤ (bigN : Int) then
    l3 k a_1 (0 : Int) (List.replicate (a_1.length : Int).toNat 0)
  else
    none
theorem of (a_1 : List Int) {r : (List Int × Unit) × (Unit)} (h : Ev (fun k => T k a_1) r) : F (a_1, ()) = some r := Ev.run (fun k => by kernel_rfl) h
theorem ok : CtxOK prog ctx := ⟨nilM, mixed_ok, tab_ok tab_good, nilM, nilM, nilM⟩
theorem S : Sound prog ⟨29, sig, F⟩ := sound_k (res := [.tmp 2]) func29 ok
end laws_toInt64S
namespace laws_toMatrix
noncomputable def sig : Sig := ⟨[.val true TMatrix], [(.val true, TMatrix, .deep)]⟩
noncomputable def ctx : Ctx := ⟨tabOf tabl, [⟨29, laws_toInt64S.sig, laws_toInt64S.F⟩], [], [], [], []⟩
noncomputable def cfg : Cfg := ⟨ctx, [], [], fun _ => ([], []), fun _ => []⟩
noncomputable def code : Code := (f76).body.getD .skip
noncomputable def fin := finK ctx sig [.cell 2 87]
noncomputable def F (d : (Int × Int × Int × List Int) × Unit) : Option (((Int × Int × Int × List Int) × Unit) × (Unit)) := anyK (runFn cfg fin code (initSt sig.ps d 18))
noncomputable def T (a_1 : Int) (a_2 : Int) (a_3 : Int) (a_4 : List Int) : Option (((Int × Int × Int × List Int) × Unit) × (Unit)) :=
  (laws_toInt64S.F (a_4, ())).bind fun r5 =>
    some (((a_1, (a_2, (a_3, r5.1.1))), ()), ())
theorem eq (a_1 : Int) (a_2 : Int) (a_3 : Int) (a_4 : List Int) : F ((a_1, (a_2, (a_3, a_4))), ()) = T a_1 a_2 a_3 a_4 := eq_any fun k => by kernel_rfl
theorem ok : CtxOK prog ctx := ⟨nilM, mixed_ok, tab_ok tab_good, consM ⟨laws_toInt64S.S, nilM⟩, nilM, nilM⟩
theorem S : Sound prog ⟨76, sig, F⟩ := sound_k (res := [.cell 2 87]) func76 ok
end laws_toMatrix
namespace laws_toMatrixS
noncomputable def sig : Sig := ⟨[.val false (.sl TMatrix)], [(.val false, (.sl TMatrix), .deep)]⟩
noncomputable def ctx : Ctx := ⟨tabOf tabl, [⟨76, laws_toMatrix.sig, laws_toMatrix.F⟩], [], [], [], []⟩
noncomputable def cfg : Cfg := ⟨ctx, [], [], fun id => match id with | 3 => ([0, 3, 4], [12]) | _ => ([], []), fun _ => []⟩
noncomputable def code : Code := (f28).body.getD .skip
noncomputable def fin := finK ctx sig [.tmp 2]
noncomputable def F (d : List (Int × Int × Int × List Int) × Unit) : Option ((List (Int × Int × Int × List Int) × Unit) × (Unit)) := anyK (runFn cfg fin code (initSt sig.ps d 23))
noncomputable def l3 (k : Nat) (x2 : List (Int × Int × Int × List Int)) (i3 : Int) (x4 : List (Int × Int × Int × List Int)) : Option ((List (Int × Int × Int × List Int) × Unit) × (Unit)) :=
  Go.Vm.runT cfg fin k [.inLoop (sub [1, 1, 0, 1, 0, 0] code), .inBlock 0, .code (sub [1, 1, 1] code)]
    ⟨[.val false [⟨(.sl TMatrix), .sh, x2⟩], .dead, .dead, .view 12 (.root 0) 1 false, .val false [⟨(.int .i64), .sh, i3⟩]] ++ deads 18, [(12, ⟨false, [⟨(.sl TMatrix), .deep, x4⟩]⟩)]⟩
theorem l3_eq (k : Nat) (x2 : List (Int × Int × Int × List Int)) (i3 : Int) (x4 : List (Int × Int × Int × List Int)) : l3 (k + 1) x2 i3 x4 =
  if (decide (i3 < (x2.length : Int))) = true then
    if 0 ≤ i3 ∧ i3 < (x2.length : Int) then
      (laws_toMatrix.F (x2.getD i3.toNat (0, 0, 0, ([] : List Int)), ())).bind fun r5 =>
        if 0 ≤ i3 ∧ i3 < (x4.length : Int) then
          l3 k x2 (IntKind.i64.wrap (i3 + (1 : Int))) (x4.set i3.toNat r5.1.1)
        else
          none
    else
      none
  else
    some ((x4, ()), ()) := by kernel_rfl
noncomputable def T (k : Nat) (a_1 : List (Int × Int × Int × List Int)) : Option ((List (Int × Int × Int × List Int) × Unit) × (Unit)) :=
  if 0 ≤ (a_1.length : Int) ∧ (a_1.length : Int) ≤ (bigN : Int) then
    l3 k a_1 (0 : Int) (List.replicate (a_1.length : Int).toNat (0, 0, 0, ([] : List Int)))
  else
    none
theorem of (a_1 : List (Int × Int × Int × List Int)) {r : (List (Int × Int × Int × List Int) × Unit) × (Unit)} (h : Ev (fun k => T k a_1) r) : F (a_1, ()) = some r := Ev.run (fun k => by kernel_rfl) h
theorem ok : CtxOK prog ctx := ⟨nilM, mixed_ok, tab_ok tab_good, consM ⟨laws_toMatrix.S, nilM⟩, nilM, nilM⟩
theorem S : Sound prog ⟨28, sig, F⟩ := sound_k (res := [.tmp 2]) func28 ok
end laws_toMatrixS
namespace laws_toInt64SS
noncomputable def sig : Sig := ⟨[.val false (.sl (.sl (.int .i64)))], [(.val false, (.sl (.sl (.int .i64))), .deep)]⟩
noncomputable def ctx : Ctx := ⟨tabOf tabl, [⟨29, laws_toInt64S.sig, laws_toInt64S.F⟩], [], [], [], []⟩
noncomputable def cfg : Cfg := ⟨ctx, [], [], fun id => match id with | 3 => ([0, 3, 4], [12]) | _ => ([], []), fun _ => []⟩
noncomputable def code : Code := (f86).body.getD .skip
noncomputable def fin := finK ctx sig [.tmp 2]
noncomputable def F (d : List (List Int) × Unit) : Option ((List (List Int) × Unit) × (Unit)) := anyK (runFn cfg fin code (initSt sig.ps d 23))
noncomputable def l3 (k : Nat) (x2 : List (List Int)) (i3 : Int) (x4 : List (List Int)) : Option ((List (List Int) × Unit) × (Unit)) :=
  Go.Vm.runT cfg fin k [.inLoop (sub [1, 1, 0, 1, 0, 0] code), .inBlock 0, .code (sub [1, 1, 1] code)]
    ⟨[.val false [⟨(.sl (.sl (.int .i64))), .sh, x2⟩], .dead, .dead, .view 12 (.root 0) 1 false, .val false [⟨(.int .i64), .sh, i3⟩]] ++ deads 18, [(12, ⟨false, [⟨(.sl (.sl (.int .i64))), .deep, x4⟩]⟩)]⟩
theorem l3_eq (k : Nat) (x2 : List (List Int)) (i3 : Int) (x4 : List (List Int)) : l3 (k + 1) x2 i3 x4 =
  if (decide (i3 < (x2.length : Int))) = true then
    if 0 ≤ i3 ∧ i3 < (x2.length : Int) then
      (laws_toInt64S.F (x2.getD i3.toNat ([] : List Int), ())).bind fun r5 =>
        if 0 ≤ i3 ∧ i3 < (x4.length : Int) then
          l3 k x2 (IntKind.i64.wrap (i3 + (1 : Int))) (x4.set i3.toNat r5.1.1)
        else
          none
    else
      none
  else
    some ((x4, ()), ()) := by kernel_rfl
noncomputable def T (k : Nat) (a_1 : List (List Int)) : Option ((List (List Int) × Unit) × (Unit)) :=
  if 0 ≤ (a_1.length : Int) ∧ (a_1.length : Int) ≤ (bigN : Int) then
    l3 k a_1 (0 : Int) (List.replicate (a_1.length : Int).toNat ([] : List Int))
  else
    none
theorem of (a_1 : List (List Int)) {r : (List (List Int) × Unit) × (Unit)} (h : Ev (fun k => T k a_1) r) : F (a_1, ()) = some r := Ev.run (fun k => by kernel_rfl) h
theorem ok : CtxOK prog ctx := ⟨nilM, mixed_ok, tab_ok tab_good, consM ⟨laws_toInt64S.S, nilM⟩, nilM, nilM⟩
theorem S : Sound prog ⟨86, sig, F⟩ := sound_k (res := [.tmp 2]) func86 ok
end laws_toInt64SS
namespace laws_toComplex
noncomputable def sig : Sig := ⟨[.val true (.sl (.sl (.int .i64)))], [(.val true, (.sl (.sl (.int .i64))), .deep)]⟩
noncomputable def ctx : Ctx := ⟨tabOf tabl, [⟨86, laws_toInt64SS.sig, laws_toInt64SS.F⟩], [], [], [], []⟩
noncomputable def cfg : Cfg := ⟨ctx, [], [], fun _ => ([], []), fun _ => []⟩
noncomputable def code : Code := (f37).body.getD .skip
noncomputable def fin := finK ctx sig [.cell 2 32]
noncomputable def F (d : List (List Int) × Unit) : Option ((List (List Int) × Unit) × (Unit)) := anyK (runFn cfg fin code (initSt sig.ps d 9))
noncomputable def T (a_1 : List (List Int)) : Option ((List (List Int) × Unit) × (Unit)) :=
  (laws_toInt64SS.F (a_1, ())).bind fun r2 =>
    some ((r2.1.1, ()), ())
theorem eq (a_1 : List (List Int)) : F (a_1, ()) = T a_1 := eq_any fun k => by kernel_rfl
theorem ok : CtxOK prog ctx := ⟨nilM, mixed_ok, tab_ok tab_good, consM ⟨laws_toInt64SS.S, nilM⟩, nilM, nilM⟩
theorem S : Sound prog ⟨37, sig, F⟩ := sound_k (res := [.cell 2 32]) func37 ok
end laws_toComplex
namespace laws_toSheaf
noncomputable def sig : Sig := ⟨[.val true TSheaf], [(.val true, TSheaf, .deep)]⟩
noncomputable def ctx : Ctx := ⟨tabOf tabl, [⟨28, laws_toMatrixS.sig, laws_toMatrixS.F⟩, ⟨29, laws_toInt64S.sig, laws_toInt64S.F⟩, ⟨37, laws_toComplex.sig, laws_toComplex.F⟩], [], [], [], []⟩
noncomputable def cfg : Cfg := ⟨ctx, [], [], fun _ => ([], []), fun _ => []⟩
noncomputable def code : Code := (f27).body.getD .skip
noncomputable def fin := finK ctx sig [.cell 2 46]
noncomputable def F (d : (List (List Int) × Int × List Int × List (Int × Int × Int × List Int)) × Unit) : Option (((List (List Int) × Int × List Int × List (Int × Int × Int × List Int)) × Unit) × (Unit)) := anyK (runFn cfg fin code (initSt sig.ps d 20))
noncomputable def T (a_1 : List (List Int)) (a_2 : Int) (a_3 : List Int) (a_4 : List (Int × Int × Int × List Int)) : Option (((List (List Int) × Int × List Int × List (Int × Int × Int × List Int)) × Unit) × (Unit)) :=
  (laws_toComplex.F (a_1, ())).bind fun r5 =>
    (laws_toInt64S.F (a_3, ())).bind fun r6 =>
      (laws_toMatrixS.F (a_4, ())).bind fun r7 =>
        some (((r5.1.1, (a_2, (r6.1.1, r7.1.1))), ()), ())
theorem eq (a_1 : List (List Int)) (a_2 : Int) (a_3 : List Int) (a_4 : List (Int × Int × Int × List Int)) : F ((a_1, (a_2, (a_3, a_4))), ()) = T a_1 a_2 a_3 a_4 := eq_any fun k => by kernel_rfl
theorem ok : CtxOK prog ctx := ⟨nilM, mixed_ok, tab_ok tab_good, consM ⟨laws_toMatrixS.S, consM ⟨laws_toInt64S.S, consM ⟨laws_toComplex.S, nilM⟩⟩⟩, nilM, nilM⟩
theorem S : Sound prog ⟨27, sig, F⟩ := sound_k (res := [.cell 2 46]) func27 ok
end laws_toSheaf
namespace laws_eqInt64S
noncomputable def sig : Sig := ⟨[.val false (.sl (.int .i64)), .val false (.sl (.int .i64))], [(.val false, .bool, .deep)]⟩
noncomputable def ctx : Ctx := ⟨tabOf tabl, [], [], [], [], []⟩
noncomputable def cfg : Cfg := ⟨ctx, [], [], fun id => match id with | 4 => ([0, 1, 5], []) | _ => ([], []), fun _ => []⟩
noncomputable def code : Code := (f19).body.getD .skip
noncomputable def fin := finK ctx sig [.tmp 4]
noncomputable def F (d : List Int × List Int × Unit) : Option ((Bool × Unit) × (Unit)) := anyK (runFn cfg fin code (initSt sig.ps d 26))
noncomputable def l4 (k : Nat) (x3 : List Int) (x4 : List Int) (i5 : Int) : Option ((Bool × Unit) × (Unit)) :=
  Go.Vm.runT cfg fin k [.inLoop (sub [1, 1, 0, 1, 0, 0] code), .inBlock 0, .code (sub [1, 1, 1] code)]
    ⟨[.val false [⟨(.sl (.int .i64)), .sh, x3⟩], .val false [⟨(.sl (.int .i64)), .sh, x4⟩], .dead, .dead, .dead, .val false [⟨(.int .i64), .sh, i5⟩]] ++ deads 20, []⟩
theorem l4_eq (k : Nat) (x3 : List Int) (x4 : List Int) (i5 : Int) : l4 (k + 1) x3 x4 i5 =
  if (decide (i5 < (x3.length : Int))) = true then
    if 0 ≤ i5 ∧ i5 < (x3.length : Int) then
      if 0 ≤ i5 ∧ i5 < (x4.length : Int) then
        if ((x3.getD i5.toNat 0 : Int) != (x4.getD i5.toNat 0 : Int)) = true then
          some ((false, ()), ())
        else
          l4 k x3 x4 (IntKind.i64.wrap (i5 + (1 : Int)))
      else
        none
    else
      none
  else
    some ((true, ()), ()) := by kernel_rfl
noncomputable def T (k : Nat) (a_1 : List Int) (b_2 : List Int) : Option ((Bool × Unit) × (Unit)) :=
  if ((a_1.length : Int) != (b_2.length : Int)) = true then
    some ((false, ()), ())
  else
    l4 k a_1 b_2 (0 : Int)
theorem of (a_1 : List Int) (b_2 : List Int) {r : (Bool × Unit) × (Unit)} (h : Ev (fun k => T k a_1 b_2) r) : F (a_1, b_2, ()) = some r := Ev.run (fun k => by kernel_rfl) h
theorem ok : CtxOK prog ctx := ⟨nilM, mixed_ok, tab_ok tab_good, nilM, nilM, nilM⟩
theorem S : Sound prog ⟨19, sig, F⟩ := sound_k (res := [.tmp 4]) func19 ok
end laws_eqInt64S
namespace laws_eqMatrix
noncomputable def sig : Sig := ⟨[.val true TMatrix, .val true TMatrix], [(.val false, .bool, .deep)]⟩
noncomputable def ctx : Ctx := ⟨tabOf tabl, [⟨19, laws_eqInt64S.sig, laws_eqInt64S.F⟩], [], [], [], []⟩
noncomputable def cfg : Cfg := ⟨ctx, [], [], fun _ => ([], []), fun _ => []⟩
noncomputable def code : Code := (f82).body.getD .skip
noncomputable def fin := finK ctx sig [.tmp 4]
noncomputable def F (d : (Int × Int × Int × List Int) × (Int × Int × Int × List Int) × Unit) : Option ((Bool × Unit) × (Unit)) := anyK (runFn cfg fin code (initSt sig.ps d 26))
noncomputable def T (a_1 : Int) (a_2 : Int) (a_3 : Int) (a_4 : List Int) (b_5 : Int) (b_6 : Int) (b_7 : Int) (b_8 : List Int) : Option ((Bool × Unit) × (Unit)) :=
  if (a_1 != b_5) = true then
    some ((false, ()), ())
  else
    if (a_2 != b_6) = true then
      some ((false, ()), ())
    else
      if (a_3 != b_7) = true then
        some ((false, ()), ())
      else
        (laws_eqInt64S.F (a_4, b_8, ())).bind fun r9 =>
          if (!(r9.1.1 : Bool)) = true then
            some ((false, ()), ())
          else
            some ((true, ()), ())
theorem eq (a_1 : Int) (a_2 : Int) (a_3 : Int) (a_4 : List Int) (b_5 : Int) (b_6 : Int) (b_7 : Int) (b_8 : List Int) : F ((a_1, (a_2, (a_3, a_4))), (b_5, (b_6, (b_7, b_8))), ()) = T a_1 a_2 a_3 a_4 b_5 b_6 b_7 b_8 := eq_any fun k => by kernel_rfl
theorem ok : CtxOK prog ctx := ⟨nilM, mixed_ok, tab_ok tab_good, consM ⟨laws_eqInt64S.S, nilM⟩, nilM, nilM⟩
theorem S : Sound prog ⟨82, sig, F⟩ := sound_k (res := [.tmp 4]) func82 ok
end laws_eqMatrix
namespace laws_eqMatrixS
noncomputable def sig : Sig := ⟨[.val false (.sl TMatrix), .val false (.sl TMatrix)], [(.val false, .bool, .deep)]⟩
noncomputable def ctx : Ctx := ⟨tabOf tabl, [⟨82, laws_eqMatrix.sig, laws_eqMatrix.F⟩], [], [], [], []⟩
noncomputable def cfg : Cfg := ⟨ctx, [], [], fun id => match id with | 4 => ([0, 1, 5], []) | _ => ([], []), fun _ => []⟩
noncomputable def code : Code := (f32).body.getD .skip
noncomputable def fin := finK ctx sig [.tmp 4]
noncomputable def F (d : List (Int × Int × Int × List Int) × List (Int × Int × Int × List Int) × Unit) : Option ((Bool × Unit) × (Unit)) := anyK (runFn cfg fin code (initSt sig.ps d 27))
noncomputable def l4 (k : Nat) (x3 : List (Int × Int × Int × List Int)) (x4 : List (Int × Int × Int × List Int)) (i5 : Int) : Option ((Bool × Unit) × (Unit)) :=
  Go.Vm.runT cfg fin k [.inLoop (sub [1, 1, 0, 1, 0, 0] code), .inBlock 0, .code (sub [1, 1, 1] code)]
    ⟨[.val false [⟨(.sl TMatrix), .sh, x3⟩], .val false [⟨(.sl TMatrix), .sh, x4⟩], .dead, .dead, .dead, .val false [⟨(.int .i64), .sh, i5⟩]] ++ deads 21, []⟩
theorem l4_eq (k : Nat) (x3 : List (Int × Int × Int × List Int)) (x4 : List (Int × Int × Int × List Int)) (i5 : Int) : l4 (k + 1) x3 x4 i5 =
  if (decide (i5 < (x3.length : Int))) = true then
    if 0 ≤ i5 ∧ i5 < (x3.length : Int) then
      if 0 ≤ i5 ∧ i5 < (x4.length : Int) then
        (laws_eqMatrix.F (x3.getD i5.toNat (0, 0, 0, ([] : List Int)), x4.getD i5.toNat (0, 0, 0, ([] : List Int)), ())).bind fun r6 =>
          if (!(r6.1.1 : Bool)) = true then
            some ((false, ()), ())
          else
            l4 k x3 x4 (IntKind.i64.wrap (i5 + (1 : Int)))
      else
        none
    else
      none
  else
    some ((true, ()), ()) := by kernel_rfl
noncomputable def T (k : Nat) (a_1 : List (Int × Int × Int × List Int)) (b_2 : List (Int × Int × Int × List Int)) : Option ((Bool × Unit) × (Unit)) :=
  if ((a_1.length : Int) != (b_2.length : Int)) = true then
    some ((false, ()), ())
  else
    l4 k a_1 b_2 (0 : Int)
theorem of (a_1 : List (Int × Int × Int × List Int)) (b_2 : List (Int × Int × Int × List Int)) {r : (Bool × Unit) × (Unit)} (h : Ev (fun k => T k a_1 b_2) r) : F (a_1, b_2, ()) = some r := Ev.run (fun k => by kernel_rfl) h
theorem ok : CtxOK prog ctx := ⟨nilM, mixed_ok, tab_ok tab_good, consM ⟨laws_eqMatrix.S, nilM⟩, nilM, nilM⟩
theorem S : Sound prog ⟨32, sig, F⟩ := sound_k (res := [.tmp 4]) func32 ok
end laws_eqMatrixS
namespace laws_eqInt64SS
noncomputable def sig : Sig := ⟨[.val false (.sl (.sl (.int .i64))), .val false (.sl (.sl (.int .i64)))], [(.val false, .bool, .deep)]⟩
noncomputable def ctx : Ctx := ⟨tabOf tabl, [⟨19, laws_eqInt64S.sig, laws_eqInt64S.F⟩], [], [], [], []⟩
noncomputable def cfg : Cfg := ⟨ctx, [], [], fun id => match id with | 4 => ([0, 1, 5], []) | _ => ([], []), fun _ => []⟩
noncomputable def code : Code := (f89).body.getD .skip
noncomputable def fin := finK ctx sig [.tmp 4]
noncomputable def F (d : List (List Int) × List (List Int) × Unit) : Option ((Bool × Unit) × (Unit)) := anyK (runFn cfg fin code (initSt sig.ps d 27))
noncomputable def l4 (k : Nat) (x3 : List (List Int)) (x4 : List (List Int)) (i5 : Int) : Option ((Bool × Unit) × (Unit)) :=
  Go.Vm.runT cfg fin k [.inLoop (sub [1, 1, 0, 1, 0, 0] code), .inBlock 0, .code (sub [1, 1, 1] code)]
    ⟨[.val false [⟨(.sl (.sl (.int .i64))), .sh, x3⟩], .val false [⟨(.sl (.sl (.int .i64))), .sh, x4⟩], .dead, .dead, .dead, .val false [⟨(.int .i64), .sh, i5⟩]] ++ deads 21, []⟩
theorem l4_eq (k : Nat) (x3 : List (List Int)) (x4 : List (List Int)) (i5 : Int) : l4 (k + 1) x3 x4 i5 =
  if (decide (i5 < (x3.length : Int))) = true then
    if 0 ≤ i5 ∧ i5 < (x3.length : Int) then
      if 0 ≤ i5 ∧ i5 < (x4.length : Int) then
        (laws_eqInt64S.F (x3.getD i5.toNat ([] : List Int), x4.getD i5.toNat ([] : List Int), ())).bind fun r6 =>
          if (!(r6.1.1 : Bool)) = true then
            some ((false, ()), ())
          else
            l4 k x3 x4 (IntKind.i64.wrap (i5 + (1 : Int)))
      else
        none
    else
      none
  else
    some ((true, ()), ()) := by kernel_rfl
noncomputable def T (k : Nat) (a_1 : List (List Int)) (b_2 : List (List Int)) : Option ((Bool × Unit) × (Unit)) :=
  if ((a_1.length : Int) != (b_2.length : Int)) = true then
    some ((false, ()), ())
  else
    l4 k a_1 b_2 (0 : Int)
theorem of (a_1 : List (List Int)) (b_2 : List (List Int)) {r : (Bool × Unit) × (Unit)} (h : Ev (fun k => T k a_1 b_2) r) : F (a_1, b_2, ()) = some r := Ev.run (fun k => by kernel_rfl) h
theorem ok : CtxOK prog ctx := ⟨nilM, mixed_ok, tab_ok tab_good, consM ⟨laws_eqInt64S.S, nilM⟩, nilM, nilM⟩
theorem S : Sound prog ⟨89, sig, F⟩ := sound_k (res := [.tmp 4]) func89 ok
end laws_eqInt64SS
namespace laws_eqComplex
noncomputable def sig : Sig := ⟨[.val true (.sl (.sl (.int .i64))), .val true (.sl (.sl (.int .i64)))], [(.val false, .bool, .deep)]⟩
noncomputable def ctx : Ctx := ⟨tabOf tabl, [⟨89, laws_eqInt64SS.sig, laws_eqInt64SS.F⟩], [], [], [], []⟩
noncomputable def cfg : Cfg := ⟨ctx, [], [], fun _ => ([], []), fun _ => []⟩
noncomputable def code : Code := (f39).body.getD .skip
noncomputable def fin := finK ctx sig [.tmp 4]
noncomputable def F (d : List (List Int) × List (List Int) × Unit) : Option ((Bool × Unit) × (Unit)) := anyK (runFn cfg fin code (initSt sig.ps d 11))
noncomputable def T (a_1 : List (List Int)) (b_2 : List (List Int)) : Option ((Bool × Unit) × (Unit)) :=
  (laws_eqInt64SS.F (a_1, b_2, ())).bind fun r3 =>
    if (!(r3.1.1 : Bool)) = true then
      some ((false, ()), ())
    else
      some ((true, ()), ())
theorem eq (a_1 : List (List Int)) (b_2 : List (List Int)) : F (a_1, b_2, ()) = T a_1 b_2 := eq_any fun k => by kernel_rfl
theorem ok : CtxOK prog ctx := ⟨nilM, mixed_ok, tab_ok tab_good, consM ⟨laws_eqInt64SS.S, nilM⟩, nilM, nilM⟩
theorem S : Sound prog ⟨39, sig, F⟩ := sound_k (res := [.tmp 4]) func39 ok
end laws_eqComplex
namespace laws_eqSheaf
noncomputable def sig : Sig := ⟨[.val true TSheaf, .val true TSheaf], [(.val false, .bool, .deep)]⟩
noncomputable def ctx : Ctx := ⟨tabOf tabl, [⟨19, laws_eqInt64S.sig, laws_eqInt64S.F⟩, ⟨32, laws_eqMatrixS.sig, laws_eqMatrixS.F⟩, ⟨39, laws_eqComplex.sig, laws_eqComplex.F⟩], [], [], [], []⟩
noncomputable def cfg : Cfg := ⟨ctx, [], [], fun _ => ([], []), fun _ => []⟩
noncomputable def code : Code := (f31).body.getD .skip
noncomputable def fin := finK ctx sig [.tmp 4]
noncomputable def F (d : (List (List Int) × Int × List Int × List (Int × Int × Int × List Int)) × (List (List Int) × Int × List Int × List (Int × Int × Int × List Int)) × Unit) : Option ((Bool × Unit) × (Unit)) := anyK (runFn cfg fin code (initSt sig.ps d 28))
noncomputable def T (a_1 : List (List Int)) (a_2 : Int) (a_3 : List Int) (a_4 : List (Int × Int × Int × List Int)) (b_5 : List (List Int)) (b_6 : Int) (b_7 : List Int) (b_8 : List (Int × Int × Int × List Int)) : Option ((Bool × Unit) × (Unit)) :=
  (laws_eqComplex.F (a_1, b_5, ())).bind fun r9 =>
    if (!(r9.1.1 : Bool)) = true then
      some ((false, ()), ())
    else
      if (a_2 != b_6) = true then
        some ((false, ()), ())
      else
        (laws_eqInt64S.F (a_3, b_7, ())).bind fun r10 =>
          if (!(r10.1.1 : Bool)) = true then
            some ((false, ()), ())
          else
            (laws_eqMatrixS.F (a_4, b_8, ())).bind fun r11 =>
              if (!(r11.1.1 : Bool)) = true then
                some ((false, ()), ())
              else
                some ((true, ()), ())
theorem eq (a_1 : List (List Int)) (a_2 : Int) (a_3 : List Int) (a_4 : List (Int × Int × Int × List Int)) (b_5 : List (List Int)) (b_6 : Int) (b_7 : List Int) (b_8 : List (Int × Int × Int × List Int)) : F ((a_1, (a_2, (a_3, a_4))), (b_5, (b_6, (b_7, b_8))), ()) = T a_1 a_2 a_3 a_4 b_5 b_6 b_7 b_8 := eq_any fun k => by kernel_rfl
theorem ok : CtxOK prog ctx := ⟨nilM, mixed_ok, tab_ok tab_good, consM ⟨laws_eqInt64S.S, consM ⟨laws_eqMatrixS.S, consM ⟨laws_eqComplex.S, nilM⟩⟩⟩, nilM, nilM⟩
theorem S : Sound prog ⟨31, sig, F⟩ := sound_k (res := [.tmp 4]) func31 ok
end laws_eqSheaf
namespace laws_markInt64S
noncomputable def sig : Sig := ⟨[.wr false (.sl (.int .i64)) .deep, .val false (.int .i64)], [(.val false, (.int .i64), .deep)]⟩
noncomputable def ctx : Ctx := ⟨tabOf tabl, [], [], [], [], []⟩
noncomputable def cfg : Cfg := ⟨ctx, [0], [], fun id => match id with | 2 => ([0, 1, 5], [0]) | _ => ([], []), fun _ => []⟩
noncomputable def code : Code := (f22).body.getD .skip
noncomputable def fin := finK ctx sig [.tmp 4]
noncomputable def F (d : List Int × Int × Unit) : Option ((Int × Unit) × (List Int × Unit)) := anyK (runFn cfg fin code (initSt sig.ps d 19))
noncomputable def l2 (k : Nat) (i3 : Int) (i4 : Int) (x5 : List Int) : Option ((Int × Unit) × (List Int × Unit)) :=
  Go.Vm.runT cfg fin k [.inLoop (sub [1, 0, 1, 0, 0] code), .inBlock 0, .code (sub [1, 1] code)]
    ⟨[.view 0 (.root 0) 1 false, .val false [⟨(.int .i64), .sh, i3⟩], .dead, .dead, .dead, .val false [⟨(.int .i64), .sh, i4⟩]] ++ deads 13, [(0, ⟨false, [⟨(.sl (.int .i64)), .deep, x5⟩]⟩)]⟩
theorem l2_eq (k : Nat) (i3 : Int) (i4 : Int) (x5 : List Int) : l2 (k + 1) i3 i4 x5 =
  if (decide (i4 < (x5.length : Int))) = true then
    if 0 ≤ i4 ∧ i4 < (x5.length : Int) then
      l2 k (IntKind.i64.wrap (i3 + (1 : Int))) (IntKind.i64.wrap (i4 + (1 : Int))) (x5.set i4.toNat i3)
    else
      none
  else
    some ((i3, ()), (x5, ())) := by kernel_rfl
noncomputable def T (k : Nat) (a_1 : List Int) (k_2 : Int) : Option ((Int × Unit) × (List Int × Unit)) :=
  l2 k k_2 (0 : Int) a_1
theorem of (a_1 : List Int) (k_2 : Int) {r : (Int × Unit) × (List Int × Unit)} (h : Ev (fun k => T k a_1 k_2) r) : F (a_1, k_2, ()) = some r := Ev.run (fun k => by kernel_rfl) h
theorem ok : CtxOK prog ctx := ⟨nilM, mixed_ok, tab_ok tab_good, nilM, nilM, nilM⟩
theorem S : Sound prog ⟨22, sig, F⟩ := sound_k (res := [.tmp 4]) func22 ok
end laws_markInt64S
namespace laws_markMatrixS
noncomputable def sig : Sig := ⟨[.wr false (.sl TMatrix) .deep, .val false (.int .i64)], [(.val false, (.int .i64), .deep)]⟩
noncomputable def ctx : Ctx := ⟨tabOf tabl, [⟨22, laws_markInt64S.sig, laws_markInt64S.F⟩], [], [], [], []⟩
noncomputable def cfg : Cfg := ⟨ctx, [0], [], fun id => match id with | 2 => ([0, 1, 5], [0]) | _ => ([], []), fun _ => []⟩
noncomputable def code : Code := (f34).body.getD .skip
noncomputable def fin := finK ctx sig [.tmp 4]
noncomputable def F (d : List (Int × Int × Int × List Int) × Int × Unit) : Option ((Int × Unit) × (List (Int × Int × Int × List Int) × Unit)) := anyK (runFn cfg fin code (initSt sig.ps d 41))
noncomputable def l2 (k : Nat) (i3 : Int) (i4 : Int) (x5 : List (Int × Int × Int × List Int)) : Option ((Int × Unit) × (List (Int × Int × Int × List Int) × Unit)) :=
  Go.Vm.runT cfg fin k [.inLoop (sub [1, 0, 1, 0, 0] code), .inBlock 0, .code (sub [1, 1] code)]
    ⟨[.view 0 (.root 0) 1 false, .val false [⟨(.int .i64), .sh, i3⟩], .dead, .dead, .dead, .val false [⟨(.int .i64), .sh, i4⟩]] ++ deads 35, [(0, ⟨false, [⟨(.sl TMatrix), .deep, x5⟩]⟩)]⟩
theorem l2_eq (k : Nat) (i3 : Int) (i4 : Int) (x5 : List (Int × Int × Int × List Int)) : l2 (k + 1) i3 i4 x5 =
  if (decide (i4 < (x5.length : Int))) = true then
    if 0 ≤ i4 ∧ i4 < (x5.length : Int) then
      if 0 ≤ i4 ∧ i4 < ((x5.set i4.toNat (i3, (x5.getD i4.toNat (0, 0, 0, ([] : List Int))).2)).length : Int) then
        let y6 : List (Int × Int × Int × List Int) := (x5.set i4.toNat (i3, (x5.getD i4.toNat (0, 0, 0, ([] : List Int))).2)).set i4.toNat (((x5.set i4.toNat (i3, (x5.getD i4.toNat (0, 0, 0, ([] : List Int))).2)).getD i4.toNat (0, 0, 0, ([] : List Int))).1, (IntKind.i64.wrap (i3 + (1 : Int)), (((x5.set i4.toNat (i3, (x5.getD i4.toNat (0, 0, 0, ([] : List Int))).2)).getD i4.toNat (0, 0, 0, ([] : List Int))).2).2))
        if 0 ≤ i4 ∧ i4 < (y6.length : Int) then
          let y7 : List (Int × Int × Int × List Int) := y6.set i4.toNat ((y6.getD i4.toNat (0, 0, 0, ([] : List Int))).1, (((y6.getD i4.toNat (0, 0, 0, ([] : List Int))).2).1, (IntKind.i64.wrap ((IntKind.i64.wrap (i3 + (1 : Int))) + (1 : Int)), (((y6.getD i4.toNat (0, 0, 0, ([] : List Int))).2).2).2)))
          if 0 ≤ i4 ∧ i4 < (y7.length : Int) then
            (laws_markInt64S.F ((((y7.getD i4.toNat (0, 0, 0, ([] : List Int))).2).2).2, IntKind.i64.wrap ((IntKind.i64.wrap ((IntKind.i64.wrap (i3 + (1 : Int))) + (1 : Int))) + (1 : Int)), ())).bind fun r8 =>
              l2 k (r8.1.1 : Int) (IntKind.i64.wrap (i4 + (1 : Int))) (y7.set i4.toNat ((y7.getD i4.toNat (0, 0, 0, ([] : List Int))).1, (((y7.getD i4.toNat (0, 0, 0, ([] : List Int))).2).1, ((((y7.getD i4.toNat (0, 0, 0, ([] : List Int))).2).2).1, r8.2.1))))
          else
            none
        else
          none
      else
        none
    else
      none
  else
    some ((i3, ()), (x5, ())) := by kernel_rfl
noncomputable def T (k : Nat) (a_1 : List (Int × Int × Int × List Int)) (k_2 : Int) : Option ((Int × Unit) × (List (Int × Int × Int × List Int) × Unit)) :=
  l2 k k_2 (0 : Int) a_1
theorem of (a_1 : List (Int × Int × Int × List Int)) (k_2 : Int) {r : (Int × Unit) × (List (Int × Int × Int × List Int) × Unit)} (h : Ev (fun k => T k a_1 k_2) r) : F (a_1, k_2, ()) = some r := Ev.run (fun k => by kernel_rfl) h
theorem ok : CtxOK prog ctx := ⟨nilM, mixed_ok, tab_ok tab_good, consM ⟨laws_markInt64S.S, nilM⟩, nilM, nilM⟩
theorem S : Sound prog ⟨34, sig, F⟩ := sound_k (res := [.tmp 4]) func34 ok
end laws_markMatrixS
namespace laws_markInt64SS
noncomputable def sig : Sig := ⟨[.wr false (.sl (.sl (.int .i64))) .deep, .val false (.int .i64)], [(.val false, (.int .i64), .deep)]⟩
noncomputable def ctx : Ctx := ⟨tabOf tabl, [⟨22, laws_markInt64S.sig, laws_markInt64S.F⟩], [], [], [], []⟩
noncomputable def cfg : Cfg := ⟨ctx, [0], [], fun id => match id with | 2 => ([0, 1, 5], [0]) | _ => ([], []), fun _ => []⟩
noncomputable def code : Code := (f90).body.getD .skip
noncomputable def fin := finK ctx sig [.tmp 4]
noncomputable def F (d : List (List Int) × Int × Unit) : Option ((Int × Unit) × (List (List Int) × Unit)) := anyK (runFn cfg fin code (initSt sig.ps d 19))
noncomputable def l2 (k : Nat) (i3 : Int) (i4 : Int) (x5 : List (List Int)) : Option ((Int × Unit) × (List (List Int) × Unit)) :=
  Go.Vm.runT cfg fin k [.inLoop (sub [1, 0, 1, 0, 0] code), .inBlock 0, .code (sub [1, 1] code)]
    ⟨[.view 0 (.root 0) 1 false, .val false [⟨(.int .i64), .sh, i3⟩], .dead, .dead, .dead, .val false [⟨(.int .i64), .sh, i4⟩]] ++ deads 13, [(0, ⟨false, [⟨(.sl (.sl (.int .i64))), .deep, x5⟩]⟩)]⟩
theorem l2_eq (k : Nat) (i3 : Int) (i4 : Int) (x5 : List (List Int)) : l2 (k + 1) i3 i4 x5 =
  if (decide (i4 < (x5.length : Int))) = true then
    if 0 ≤ i4 ∧ i4 < (x5.length : Int) then
      (laws_markInt64S.F (x5.getD i4.toNat ([] : List Int), i3, ())).bind fun r6 =>
        l2 k (r6.1.1 : Int) (IntKind.i64.wrap (i4 + (1 : Int))) (x5.set i4.toNat r6.2.1)
    else
      none
  else
    some ((i3, ()), (x5, ())) := by kernel_rfl
noncomputable def T (k : Nat) (a_1 : List (List Int)) (k_2 : Int) : Option ((Int × Unit) × (List (List Int) × Unit)) :=
  l2 k k_2 (0 : Int) a_1
theorem of (a_1 : List (List Int)) (k_2 : Int) {r : (Int × Unit) × (List (List Int) × Unit)} (h : Ev (fun k => T k a_1 k_2) r) : F (a_1, k_2, ()) = some r := Ev.run (fun k => by kernel_rfl) h
theorem ok : CtxOK prog ctx := ⟨nilM, mixed_ok, tab_ok tab_good, consM ⟨laws_markInt64S.S, nilM⟩, nilM, nilM⟩
theorem S : Sound prog ⟨90, sig, F⟩ := sound_k (res := [.tmp 4]) func90 ok
end laws_markInt64SS
namespace laws_markComplex
noncomputable def sig : Sig := ⟨[.wr true (.sl (.sl (.int .i64))) .deep, .val false (.int .i64)], [(.val false, (.int .i64), .deep)]⟩
noncomputable def ctx : Ctx := ⟨tabOf tabl, [⟨90, laws_markInt64SS.sig, laws_markInt64SS.F⟩], [], [], [], []⟩
noncomputable def cfg : Cfg := ⟨ctx, [0], [], fun _ => ([], []), fun _ => []⟩
noncomputable def code : Code := (f40).body.getD .skip
noncomputable def fin := finK ctx sig [.tmp 4]
noncomputable def F (d : List (List Int) × Int × Unit) : Option ((Int × Unit) × (List (List Int) × Unit)) := anyK (runFn cfg fin code (initSt sig.ps d 10))
noncomputable def T (a_1 : List (List Int)) (k_2 : Int) : Option ((Int × Unit) × (List (List Int) × Unit)) :=
  (laws_markInt64SS.F (a_1, k_2, ())).bind fun r3 =>
    some (((r3.1.1 : Int), ()), (r3.2.1, ()))
theorem eq (a_1 : List (List Int)) (k_2 : Int) : F (a_1, k_2, ()) = T a_1 k_2 := eq_any fun k => by kernel_rfl
theorem ok : CtxOK prog ctx := ⟨nilM, mixed_ok, tab_ok tab_good, consM ⟨laws_markInt64SS.S, nilM⟩, nilM, nilM⟩
theorem S : Sound prog ⟨40, sig, F⟩ := sound_k (res := [.tmp 4]) func40 ok
end laws_markComplex
namespace laws_markSheaf
noncomputable def sig : Sig := ⟨[.wr true TSheaf .deep, .val false (.int .i64)], [(.val false, (.int .i64), .deep)]⟩
noncomputable def ctx : Ctx := ⟨tabOf tabl, [⟨22, laws_markInt64S.sig, laws_markInt64S.F⟩, ⟨34, laws_markMatrixS.sig, laws_markMatrixS.F⟩, ⟨40, laws_markComplex.sig, laws_markComplex.F⟩], [], [], [], []⟩
noncomputable def cfg : Cfg := ⟨ctx, [0], [], fun _ => ([], []), fun _ => []⟩
noncomputable def code : Code := (f33).body.getD .skip
noncomputable def fin := finK ctx sig [.tmp 4]
noncomputable def F (d : (List (List Int) × Int × List Int × List (Int × Int × Int × List Int)) × Int × Unit) : Option ((Int × Unit) × ((List (List Int) × Int × List Int × List (Int × Int × Int × List Int)) × Unit)) := anyK (runFn cfg fin code (initSt sig.ps d 18))
noncomputable def T (a_1 : List (List Int)) (a_2 : Int) (a_3 : List Int) (a_4 : List (Int × Int × Int × List Int)) (k_5 : Int) : Option ((Int × Unit) × ((List (List Int) × Int × List Int × List (Int × Int × Int × List Int)) × Unit)) :=
  (laws_markComplex.F (a_1, k_5, ())).bind fun r6 =>
    (laws_markInt64S.F (a_3, (r6.1.1 : Int), ())).bind fun r7 =>
      (laws_markMatrixS.F (a_4, (r7.1.1 : Int), ())).bind fun r8 =>
        some (((r8.1.1 : Int), ()), ((r6.2.1, (a_2, (r7.2.1, r8.2.1))), ()))
theorem eq (a_1 : List (List Int)) (a_2 : Int) (a_3 : List Int) (a_4 : List (Int × Int × Int × List Int)) (k_5 : Int) : F ((a_1, (a_2, (a_3, a_4))), k_5, ()) = T a_1 a_2 a_3 a_4 k_5 := eq_any fun k => by kernel_rfl
theorem ok : CtxOK prog ctx := ⟨nilM, mixed_ok, tab_ok tab_good, consM ⟨laws_markInt64S.S, consM ⟨laws_markMatrixS.S, consM ⟨laws_markComplex.S, nilM⟩⟩⟩, nilM, nilM⟩
theorem S : Sound prog ⟨33, sig, F⟩ := sound_k (res := [.tmp 4]) func33 ok
end laws_markSheaf
namespace laws_heldInt64S
noncomputable def sig : Sig := ⟨[.val false (.sl (.int .i64)), .val false (.int .i64)], [(.val false, (.int .i64), .deep)]⟩
noncomputable def ctx : Ctx := ⟨tabOf tabl, [], [], [], [], []⟩
noncomputable def cfg : Cfg := ⟨ctx, [], [], fun id => match id with | 2 => ([0, 1, 5], []) | _ => ([], []), fun _ => []⟩
noncomputable def code : Code := (f23).body.getD .skip
noncomputable def fin := finK ctx sig [.tmp 4]
noncomputable def F (d : List Int × Int × Unit) : Option ((Int × Unit) × (Unit)) := anyK (runFn cfg fin code (initSt sig.ps d 21))
noncomputable def l2 (k : Nat) (x3 : List Int) (i4 : Int) (i5 : Int) : Option ((Int × Unit) × (Unit)) :=
  Go.Vm.runT cfg fin k [.inLoop (sub [1, 0, 1, 0, 0] code), .inBlock 0, .code (sub [1, 1] code)]
    ⟨[.val false [⟨(.sl (.int .i64)), .sh, x3⟩], .val false [⟨(.int .i64), .sh, i4⟩], .dead, .dead, .dead, .val false [⟨(.int .i64), .sh, i5⟩]] ++ deads 15, []⟩
theorem l2_eq (k : Nat) (x3 : List Int) (i4 : Int) (i5 : Int) : l2 (k + 1) x3 i4 i5 =
  if (decide (i5 < (x3.length : Int))) = true then
    if 0 ≤ i5 ∧ i5 < (x3.length : Int) then
      if ((x3.getD i5.toNat 0 : Int) != i4) = true then
        some (((-1 : Int), ()), ())
      else
        l2 k x3 (IntKind.i64.wrap (i4 + (1 : Int))) (IntKind.i64.wrap (i5 + (1 : Int)))
    else
      none
  else
    some ((i4, ()), ()) := by kernel_rfl
noncomputable def T (k : Nat) (a_1 : List Int) (k_2 : Int) : Option ((Int × Unit) × (Unit)) :=
  l2 k a_1 k_2 (0 : Int)
theorem of (a_1 : List Int) (k_2 : Int) {r : (Int × Unit) × (Unit)} (h : Ev (fun k => T k a_1 k_2) r) : F (a_1, k_2, ()) = some r := Ev.run (fun k => by kernel_rfl) h
theorem ok : CtxOK prog ctx := ⟨nilM, mixed_ok, tab_ok tab_good, nilM, nilM, nilM⟩
theorem S : Sound prog ⟨23, sig, F⟩ := sound_k (res := [.tmp 4]) func23 ok
end laws_heldInt64S
namespace laws_heldInt64SS
noncomputable def sig : Sig := ⟨[.val false (.sl (.sl (.int .i64))), .val false (.int .i64)], [(.val false, (.int .i64), .deep)]⟩
noncomputable def ctx : Ctx := ⟨tabOf tabl, [⟨23, laws_heldInt64S.sig, laws_heldInt64S.F⟩], [], [], [], []⟩
noncomputable def cfg : Cfg := ⟨ctx, [], [], fun id => match id with | 2 => ([0, 1, 5], []) | _ => ([], []), fun _ => []⟩
noncomputable def code : Code := (f97).body.getD .skip
noncomputable def fin := finK ctx sig [.tmp 4]
noncomputable def F (d : List (List Int) × Int × Unit) : Option ((Int × Unit) × (Unit)) := anyK (runFn cfg fin code (initSt sig.ps d 21))
noncomputable def l2 (k : Nat) (x3 : List (List Int)) (i4 : Int) (i5 : Int) : Option ((Int × Unit) × (Unit)) :=
  Go.Vm.runT cfg fin k [.inLoop (sub [1, 0, 1, 0, 0] code), .inBlock 0, .code (sub [1, 1] code)]
    ⟨[.val false [⟨(.sl (.sl (.int .i64))), .sh, x3⟩], .val false [⟨(.int .i64), .sh, i4⟩], .dead, .dead, .dead, .val false [⟨(.int .i64), .sh, i5⟩]] ++ deads 15, []⟩
theorem l2_eq (k : Nat) (x3 : List (List Int)) (i4 : Int) (i5 : Int) : l2 (k + 1) x3 i4 i5 =
  if (decide (i5 < (x3.length : Int))) = true then
    if 0 ≤ i5 ∧ i5 < (x3.length : Int) then
      (laws_heldInt64S.F (x3.getD i5.toNat ([] : List Int), i4, ())).bind fun r6 =>
        if (decide ((r6.1.1 : Int) < (0 : Int))) = true then
          some (((-1 : Int), ()), ())
        else
          l2 k x3 (r6.1.1 : Int) (IntKind.i64.wrap (i5 + (1 : Int)))
    else
      none
  else
    some ((i4, ()), ()) := by kernel_rfl
noncomputable def T (k : Nat) (a_1 : List (List Int)) (k_2 : Int) : Option ((Int × Unit) × (Unit)) :=
  l2 k a_1 k_2 (0 : Int)
theorem of (a_1 : List (List Int)) (k_2 : Int) {r : (Int × Unit) × (Unit)} (h : Ev (fun k => T k a_1 k_2) r) : F (a_1, k_2, ()) = some r := Ev.run (fun k => by kernel_rfl) h
theorem ok : CtxOK prog ctx := ⟨nilM, mixed_ok, tab_ok tab_good, consM ⟨laws_heldInt64S.S, nilM⟩, nilM, nilM⟩
theorem S : Sound prog ⟨97, sig, F⟩ := sound_k (res := [.tmp 4]) func97 ok
end laws_heldInt64SS
namespace laws_heldComplex
noncomputable def sig : Sig := ⟨[.val true (.sl (.sl (.int .i64))), .val false (.int .i64)], [(.val false, (.int .i64), .deep)]⟩
noncomputable def ctx : Ctx := ⟨tabOf tabl, [⟨97, laws_heldInt64SS.sig, laws_heldInt64SS.F⟩], [], [], [], []⟩
noncomputable def cfg : Cfg := ⟨ctx, [], [], fun _ => ([], []), fun _ => []⟩
noncomputable def code : Code := (f44).body.getD .skip
noncomputable def fin := finK ctx sig [.tmp 4]
noncomputable def F (d : List (List Int) × Int × Unit) : Option ((Int × Unit) × (Unit)) := anyK (runFn cfg fin code (initSt sig.ps d 12))
noncomputable def T (a_1 : List (List Int)) (k_2 : Int) : Option ((Int × Unit) × (Unit)) :=
  (laws_heldInt64SS.F (a_1, k_2, ())).bind fun r3 =>
    if (decide ((r3.1.1 : Int) < (0 : Int))) = true then
      some (((-1 : Int), ()), ())
    else
      some (((r3.1.1 : Int), ()), ())
theorem eq (a_1 : List (List Int)) (k_2 : Int) : F (a_1, k_2, ()) = T a_1 k_2 := eq_any fun k => by kernel_rfl
theorem ok : CtxOK prog ctx := ⟨nilM, mixed_ok, tab_ok tab_good, consM ⟨laws_heldInt64SS.S, nilM⟩, nilM, nilM⟩
theorem S : Sound prog ⟨44, sig, F⟩ := sound_k (res := [.tmp 4]) func44 ok
end laws_heldComplex
namespace laws_heldMatrixS
noncomputable def sig : Sig := ⟨[.val false (.sl TMatrix), .val false (.int .i64)], [(.val false, (.int .i64), .deep)]⟩
noncomputable def ctx : Ctx := ⟨tabOf tabl, [⟨23, laws_heldInt64S.sig, laws_heldInt64S.F⟩], [], [], [], []⟩
noncomputable def cfg : Cfg := ⟨ctx, [], [], fun id => match id with | 2 => ([0, 1, 5], []) | _ => ([], []), fun _ => []⟩
noncomputable def code : Code := (f91).body.getD .skip
noncomputable def fin := finK ctx sig [.tmp 4]
noncomputable def F (d : List (Int × Int × Int × List Int) × Int × Unit) : Option ((Int × Unit) × (Unit)) := anyK (runFn cfg fin code (initSt sig.ps d 49))
noncomputable def l2 (k : Nat) (x3 : List (Int × Int × Int × List Int)) (i4 : Int) (i5 : Int) : Option ((Int × Unit) × (Unit)) :=
  Go.Vm.runT cfg fin k [.inLoop (sub [1, 0, 1, 0, 0] code), .inBlock 0, .code (sub [1, 1] code)]
    ⟨[.val false [⟨(.sl TMatrix), .sh, x3⟩], .val false [⟨(.int .i64), .sh, i4⟩], .dead, .dead, .dead, .val false [⟨(.int .i64), .sh, i5⟩]] ++ deads 43, []⟩
theorem l2_eq (k : Nat) (x3 : List (Int × Int × Int × List Int)) (i4 : Int) (i5 : Int) : l2 (k + 1) x3 i4 i5 =
  if (decide (i5 < (x3.length : Int))) = true then
    if 0 ≤ i5 ∧ i5 < (x3.length : Int) then
      if (((x3.getD i5.toNat (0, 0, 0, ([] : List Int))).1) != i4) = true then
        some (((-1 : Int), ()), ())
      else
        if 0 ≤ i5 ∧ i5 < (x3.length : Int) then
          if ((((x3.getD i5.toNat (0, 0, 0, ([] : List Int))).2).1) != (IntKind.i64.wrap (i4 + (1 : Int)))) = true then
            some (((-1 : Int), ()), ())
          else
            if 0 ≤ i5 ∧ i5 < (x3.length : Int) then
              if (((((x3.getD i5.toNat (0, 0, 0, ([] : List Int))).2).2).1) != (IntKind.i64.wrap ((IntKind.i64.wrap (i4 + (1 : Int))) + (1 : Int)))) = true then
                some (((-1 : Int), ()), ())
              else
                if 0 ≤ i5 ∧ i5 < (x3.length : Int) then
                  (laws_heldInt64S.F ((((x3.getD i5.toNat (0, 0, 0, ([] : List Int))).2).2).2, IntKind.i64.wrap ((IntKind.i64.wrap ((IntKind.i64.wrap (i4 + (1 : Int))) + (1 : Int))) + (1 : Int)), ())).bind fun r6 =>
                    if (decide ((r6.1.1 : Int) < (0 : Int))) = true then
                      some (((-1 : Int), ()), ())
                    else
                      l2 k x3 (r6.1.1 : Int) (IntKind.i64.wrap (i5 + (1 : Int)))
                else
                  none
            else
              none
        else
          none
    else
      none
  else
    some ((i4, ()), ()) := by kernel_rfl
noncomputable def T (k : Nat) (a_1 : List (Int × Int × Int × List Int)) (k_2 : Int) : Option ((Int × Unit) × (Unit)) :=
  l2 k a_1 k_2 (0 : Int)
theorem of (a_1 : List (Int × Int × Int × List Int)) (k_2 : Int) {r : (Int × Unit) × (Unit)} (h : Ev (fun k => T k a_1 k_2) r) : F (a_1, k_2, ()) = some r := Ev.run (fun k => by kernel_rfl) h
theorem ok : CtxOK prog ctx := ⟨nilM, mixed_ok, tab_ok tab_good, consM ⟨laws_heldInt64S.S, nilM⟩, nilM, nilM⟩
theorem S : Sound prog ⟨91, sig, F⟩ := sound_k (res := [.tmp 4]) func91 ok
end laws_heldMatrixS
namespace laws_heldSheaf
noncomputable def sig : Sig := ⟨[.val true TSheaf, .val false (.int .i64)], [(.val false, (.int .i64), .deep)]⟩
noncomputable def ctx : Ctx := ⟨tabOf tabl, [⟨23, laws_heldInt64S.sig, laws_heldInt64S.F⟩, ⟨44, laws_heldComplex.sig, laws_heldComplex.F⟩, ⟨91, laws_heldMatrixS.sig, laws_heldMatrixS.F⟩], [], [], [], []⟩
noncomputable def cfg : Cfg := ⟨ctx, [], [], fun _ => ([], []), fun _ => []⟩
noncomputable def code : Code := (f49).body.getD .skip
noncomputable def fin := finK ctx sig [.tmp 4]
noncomputable def F (d : (List (List Int) × Int × List Int × List (Int × Int × Int × List Int)) × Int × Unit) : Option ((Int × Unit) × (Unit)) := anyK (runFn cfg fin code (initSt sig.ps d 24))
noncomputable def T (a_1 : List (List Int)) (a_2 : Int) (a_3 : List Int) (a_4 : List (Int × Int × Int × List Int)) (k_5 : Int) : Option ((Int × Unit) × (Unit)) :=
  (laws_heldComplex.F (a_1, k_5, ())).bind fun r6 =>
    if (decide ((r6.1.1 : Int) < (0 : Int))) = true then
      some (((-1 : Int), ()), ())
    else
      (laws_heldInt64S.F (a_3, (r6.1.1 : Int), ())).bind fun r7 =>
        if (decide ((r7.1.1 : Int) < (0 : Int))) = true then
          some (((-1 : Int), ()), ())
        else
          (laws_heldMatrixS.F (a_4, (r7.1.1 : Int), ())).bind fun r8 =>
            if (decide ((r8.1.1 : Int) < (0 : Int))) = true then
              some (((-1 : Int), ()), ())
            else
              some (((r8.1.1 : Int), ()), ())
theorem eq (a_1 : List (List Int)) (a_2 : Int) (a_3 : List Int) (a_4 : List (Int × Int × Int × List Int)) (k_5 : Int) : F ((a_1, (a_2, (a_3, a_4))), k_5, ()) = T a_1 a_2 a_3 a_4 k_5 := eq_any fun k => by kernel_rfl
theorem ok : CtxOK prog ctx := ⟨nilM, mixed_ok, tab_ok tab_good, consM ⟨laws_heldInt64S.S, consM ⟨laws_heldComplex.S, consM ⟨laws_heldMatrixS.S, nilM⟩⟩⟩, nilM, nilM⟩
theorem S : Sound prog ⟨49, sig, F⟩ := sound_k (res := [.tmp 4]) func49 ok
end laws_heldSheaf
namespace spec_l00Same
noncomputable def sig : Sig := ⟨[.val false (.sl (.int .i64)), .val false (.sl (.int .i64))], [(.val false, .bool, .deep)]⟩
noncomputable def ctx : Ctx := ⟨tabOf tabl, [], [], [], [], []⟩
noncomputable def cfg : Cfg := ⟨ctx, [], [], fun id => match id with | 4 => ([0, 1, 5], []) | _ => ([], []), fun _ => []⟩
noncomputable def code : Code := (f191).body.getD .skip
noncomputable def fin := finK ctx sig [.tmp 4]
noncomputable def F (d : List Int × List Int × Unit) : Option ((Bool × Unit) × (Unit)) := anyK (runFn cfg fin code (initSt sig.ps d 26))
noncomputable def l4 (k : Nat) (x3 : List Int) (x4 : List Int) (i5 : Int) : Option ((Bool × Unit) × (Unit)) :=
  Go.Vm.runT cfg fin k [.inLoop (sub [1, 1, 0, 1, 0, 0] code), .inBlock 0, .code (sub [1, 1, 1] code)]
    ⟨[.val false [⟨(.sl (.int .i64)), .sh, x3⟩], .val false [⟨(.sl (.int .i64)), .sh, x4⟩], .dead, .dead, .dead, .val false [⟨(.int .i64), .sh, i5⟩]] ++ deads 20, []⟩
theorem l4_eq (k : Nat) (x3 : List Int) (x4 : List Int) (i5 : Int) : l4 (k + 1) x3 x4 i5 =
  if (decide (i5 < (x3.length : Int))) = true then
    if 0 ≤ i5 ∧ i5 < (x3.length : Int) then
      if 0 ≤ i5 ∧ i5 < (x4.length : Int) then
        if ((x3.getD i5.toNat 0 : Int) != (x4.getD i5.toNat 0 : Int)) = true then
          some ((false, ()), ())
        else
          l4 k x3 x4 (IntKind.i64.wrap (i5 + (1 : Int)))
      else
        none
    else
      none
  else
    some ((true, ()), ()) := by kernel_rfl
noncomputable def T (k : Nat) (a_1 : List Int) (b_2 : List Int) : Option ((Bool × Unit) × (Unit)) :=
  if ((a_1.length : Int) != (b_2.length : Int)) = true then
    some ((false, ()), ())
  else
    l4 k a_1 b_2 (0 : Int)
theorem of (a_1 : List Int) (b_2 : List Int) {r : (Bool × Unit) × (Unit)} (h : Ev (fun k => T k a_1 b_2) r) : F (a_1, b_2, ()) = some r := Ev.run (fun k => by kernel_rfl) h
theorem ok : CtxOK prog ctx := ⟨nilM, mixed_ok, tab_ok tab_good, nilM, nilM, nilM⟩
theorem S : Sound prog ⟨191, sig, F⟩ := sound_k (res := [.tmp 4]) func191 ok
end spec_l00Same
namespace spec_l05Find
noncomputable def sig : Sig := ⟨[.rptr (.sl (.sl (.int .i64))), .val false (.sl (.int .i64))], [(.val false, (.int .i64), .deep)]⟩
noncomputable def ctx : Ctx := ⟨tabOf tabl, [⟨191, spec_l00Same.sig, spec_l00Same.F⟩], [], [], [], []⟩
noncomputable def cfg : Cfg := ⟨ctx, [], [], fun id => match id with | 2 => ([0, 1, 5], []) | _ => ([], []), fun _ => []⟩
noncomputable def code : Code := (f101).body.getD .skip
noncomputable def fin := finK ctx sig [.tmp 4]
noncomputable def F (d : List (List Int) × List Int × Unit) : Option ((Int × Unit) × (Unit)) := anyK (runFn cfg fin code (initSt sig.ps d 25))
noncomputable def l2 (k : Nat) (x3 : List (List Int)) (x4 : List Int) (i5 : Int) : Option ((Int × Unit) × (Unit)) :=
  Go.Vm.runT cfg fin k [.inLoop (sub [1, 0, 1, 0, 0] code), .inBlock 0, .code (sub [1, 1] code)]
    ⟨[.rptr false [⟨(.sl (.sl (.int .i64))), .sh, x3⟩], .val false [⟨(.sl (.int .i64)), .sh, x4⟩], .dead, .dead, .dead, .val false [⟨(.int .i64), .sh, i5⟩]] ++ deads 19, []⟩
theorem l2_eq (k : Nat) (x3 : List (List Int)) (x4 : List Int) (i5 : Int) : l2 (k + 1) x3 x4 i5 =
  if (decide (i5 < (x3.length : Int))) = true then
    if 0 ≤ i5 ∧ i5 < (x3.length : Int) then
      (spec_l00Same.F (x3.getD i5.toNat ([] : List Int), x4, ())).bind fun r6 =>
        if (r6.1.1 : Bool) = true then
          some ((i5, ()), ())
        else
          l2 k x3 x4 (IntKind.i64.wrap (i5 + (1 : Int)))
    else
      none
  else
    some (((-1 : Int), ()), ()) := by kernel_rfl
noncomputable def T (k : Nat) (c_1 : List (List Int)) (s_2 : List Int) : Option ((Int × Unit) × (Unit)) :=
  l2 k c_1 s_2 (0 : Int)
theorem of (c_1 : List (List Int)) (s_2 : List Int) {r : (Int × Unit) × (Unit)} (h : Ev (fun k => T k c_1 s_2) r) : F (c_1, s_2, ()) = some r := Ev.run (fun k => by kernel_rfl) h
theorem ok : CtxOK prog ctx := ⟨nilM, mixed_ok, tab_ok tab_good, consM ⟨spec_l00Same.S, nilM⟩, nilM, nilM⟩
theorem S : Sound prog ⟨101, sig, F⟩ := sound_k (res := [.tmp 4]) func101 ok
end spec_l05Find
namespace spec_l00In
noncomputable def sig : Sig := ⟨[.val false (.int .i64), .val false (.int .i64), .val false (.int .i64)], [(.val false, .bool, .deep)]⟩
noncomputable def ctx : Ctx := ⟨tabOf tabl, [], [], [], [], []⟩
noncomputable def cfg : Cfg := ⟨ctx, [], [], fun _ => ([], []), fun _ => []⟩
noncomputable def code : Code := (f176).body.getD .skip
noncomputable def fin := finK ctx sig [.tmp 6]
noncomputable def F (d : Int × Int × Int × Unit) : Option ((Bool × Unit) × (Unit)) := anyK (runFn cfg fin code (initSt sig.ps d 15))
noncomputable def T (n_1 : Int) (low_2 : Int) (high_3 : Int) : Option ((Bool × Unit) × (Unit)) :=
  if (decide (n_1 ≥ low_2)) = true then
    some ((decide (n_1 ≤ high_3), ()), ())
  else
    some ((false, ()), ())
theorem eq (n_1 : Int) (low_2 : Int) (high_3 : Int) : F (n_1, low_2, high_3, ()) = T n_1 low_2 high_3 := eq_any fun k => by kernel_rfl
theorem ok : CtxOK prog ctx := ⟨nilM, mixed_ok, tab_ok tab_good, nilM, nilM, nilM⟩
theorem S : Sound prog ⟨176, sig, F⟩ := sound_k (res := [.tmp 6]) func176 ok
end spec_l00In
namespace spec_l00Rises
noncomputable def sig : Sig := ⟨[.val false (.sl (.int .i64)), .val false (.int .i64), .val false (.int .i64)], [(.val false, .bool, .deep)]⟩
noncomputable def ctx : Ctx := ⟨tabOf tabl, [⟨176, spec_l00In.sig, spec_l00In.F⟩], [], [], [], []⟩
noncomputable def cfg : Cfg := ⟨ctx, [], [], fun id => match id with | 2 => ([0, 1, 2, 7], []) | _ => ([], []), fun _ => []⟩
noncomputable def code : Code := (f253).body.getD .skip
noncomputable def fin := finK ctx sig [.tmp 6]
noncomputable def F (d : List Int × Int × Int × Unit) : Option ((Bool × Unit) × (Unit)) := anyK (runFn cfg fin code (initSt sig.ps d 38))
noncomputable def l2 (k : Nat) (x4 : List Int) (i5 : Int) (i6 : Int) (i7 : Int) : Option ((Bool × Unit) × (Unit)) :=
  Go.Vm.runT cfg fin k [.inLoop (sub [1, 0, 1, 0, 0] code), .inBlock 0, .code (sub [1, 1] code)]
    ⟨[.val false [⟨(.sl (.int .i64)), .sh, x4⟩], .val false [⟨(.int .i64), .sh, i5⟩], .val false [⟨(.int .i64), .sh, i6⟩], .dead, .dead, .dead, .dead, .val false [⟨(.int .i64), .sh, i7⟩]] ++ deads 30, []⟩
theorem l2_eq (k : Nat) (x4 : List Int) (i5 : Int) (i6 : Int) (i7 : Int) : l2 (k + 1) x4 i5 i6 i7 =
  if (decide (i7 < (x4.length : Int))) = true then
    if 0 ≤ i7 ∧ i7 < (x4.length : Int) then
      (spec_l00In.F ((x4.getD i7.toNat 0 : Int), i5, i6, ())).bind fun r8 =>
        if (!(r8.1.1 : Bool)) = true then
          some ((false, ()), ())
        else
          if (decide (i7 > (0 : Int))) = true then
            if 0 ≤ (IntKind.i64.wrap (i7 - (1 : Int))) ∧ (IntKind.i64.wrap (i7 - (1 : Int))) < (x4.length : Int) then
              if 0 ≤ i7 ∧ i7 < (x4.length : Int) then
                if (decide ((x4.getD (IntKind.i64.wrap (i7 - (1 : Int))).toNat 0) ≥ (x4.getD i7.toNat 0 : Int))) = true then
                  some ((false, ()), ())
                else
                  l2 k x4 i5 i6 (IntKind.i64.wrap (i7 + (1 : Int)))
              else
                none
            else
              none
          else
            l2 k x4 i5 i6 (IntKind.i64.wrap (i7 + (1 : Int)))
    else
      none
  else
    some ((true, ()), ()) := by kernel_rfl
noncomputable def T (k : Nat) (list_1 : List Int) (low_2 : Int) (high_3 : Int) : Option ((Bool × Unit) × (Unit)) :=
  l2 k list_1 low_2 high_3 (0 : Int)
theorem of (list_1 : List Int) (low_2 : Int) (high_3 : Int) {r : (Bool × Unit) × (Unit)} (h : Ev (fun k => T k list_1 low_2 high_3) r) : F (list_1, low_2, high_3, ()) = some r := Ev.run (fun k => by kernel_rfl) h
theorem ok : CtxOK prog ctx := ⟨nilM, mixed_ok, tab_ok tab_good, consM ⟨spec_l00In.S, nilM⟩, nilM, nilM⟩
theorem S : Sound prog ⟨253, sig, F⟩ := sound_k (res := [.tmp 6]) func253 ok
end spec_l00Rises
namespace spec_l05Simplex
noncomputable def sig : Sig := ⟨[.val false (.sl (.int .i64))], [(.val false, .bool, .deep)]⟩
noncomputable def ctx : Ctx := ⟨tabOf tabl, [⟨176, spec_l00In.sig, spec_l00In.F⟩, ⟨253, spec_l00Rises.sig, spec_l00Rises.F⟩], [], [], [], []⟩
noncomputable def cfg : Cfg := ⟨ctx, [], [], fun _ => ([], []), fun _ => []⟩
noncomputable def code : Code := (f182).body.getD .skip
noncomputable def fin := finK ctx sig [.tmp 2]
noncomputable def F (d : List Int × Unit) : Option ((Bool × Unit) × (Unit)) := anyK (runFn cfg fin code (initSt sig.ps d 10))
noncomputable def T (s_1 : List Int) : Option ((Bool × Unit) × (Unit)) :=
  (spec_l00In.F ((s_1.length : Int), (1 : Int), (4 : Int), ())).bind fun r2 =>
    if (r2.1.1 : Bool) = true then
      (spec_l00Rises.F (s_1, (0 : Int), (9 : Int), ())).bind fun r3 =>
        some (((r3.1.1 : Bool), ()), ())
    else
      some ((false, ()), ())
theorem eq (s_1 : List Int) : F (s_1, ()) = T s_1 := eq_any fun k => by kernel_rfl
theorem ok : CtxOK prog ctx := ⟨nilM, mixed_ok, tab_ok tab_good, consM ⟨spec_l00In.S, consM ⟨spec_l00Rises.S, nilM⟩⟩, nilM, nilM⟩
theorem S : Sound prog ⟨182, sig, F⟩ := sound_k (res := [.tmp 2]) func182 ok
end spec_l05Simplex
namespace spec_l05Before
noncomputable def sig : Sig := ⟨[.val false (.sl (.int .i64)), .val false (.sl (.int .i64))], [(.val false, .bool, .deep)]⟩
noncomputable def ctx : Ctx := ⟨tabOf tabl, [], [], [], [], []⟩
noncomputable def cfg : Cfg := ⟨ctx, [], [], fun id => match id with | 4 => ([0, 1, 5], []) | _ => ([], []), fun _ => []⟩
noncomputable def code : Code := (f183).body.getD .skip
noncomputable def fin := finK ctx sig [.tmp 4]
noncomputable def F (d : List Int × List Int × Unit) : Option ((Bool × Unit) × (Unit)) := anyK (runFn cfg fin code (initSt sig.ps d 40))
noncomputable def l4 (k : Nat) (x3 : List Int) (x4 : List Int) (i5 : Int) : Option ((Bool × Unit) × (Unit)) :=
  Go.Vm.runT cfg fin k [.inLoop (sub [1, 1, 0, 1, 0, 0] code), .inBlock 0, .code (sub [1, 1, 1] code)]
    ⟨[.val false [⟨(.sl (.int .i64)), .sh, x3⟩], .val false [⟨(.sl (.int .i64)), .sh, x4⟩], .dead, .dead, .dead, .val false [⟨(.int .i64), .sh, i5⟩]] ++ deads 34, []⟩
theorem l4_eq (k : Nat) (x3 : List Int) (x4 : List Int) (i5 : Int) : l4 (k + 1) x3 x4 i5 =
  if (decide (i5 < (x3.length : Int))) = true then
    if 0 ≤ i5 ∧ i5 < (x3.length : Int) then
      if 0 ≤ i5 ∧ i5 < (x4.length : Int) then
        if ((x3.getD i5.toNat 0 : Int) != (x4.getD i5.toNat 0 : Int)) = true then
          if 0 ≤ i5 ∧ i5 < (x3.length : Int) then
            if 0 ≤ i5 ∧ i5 < (x4.length : Int) then
              some ((decide ((x3.getD i5.toNat 0 : Int) < (x4.getD i5.toNat 0 : Int)), ()), ())
            else
              none
          else
            none
        else
          l4 k x3 x4 (IntKind.i64.wrap (i5 + (1 : Int)))
      else
        none
    else
      none
  else
    some ((false, ()), ()) := by kernel_rfl
noncomputable def T (k : Nat) (a_1 : List Int) (b_2 : List Int) : Option ((Bool × Unit) × (Unit)) :=
  if ((a_1.length : Int) != (b_2.length : Int)) = true then
    some ((decide ((a_1.length : Int) < (b_2.length : Int)), ()), ())
  else
    l4 k a_1 b_2 (0 : Int)
theorem of (a_1 : List Int) (b_2 : List Int) {r : (Bool × Unit) × (Unit)} (h : Ev (fun k => T k a_1 b_2) r) : F (a_1, b_2, ()) = some r := Ev.run (fun k => by kernel_rfl) h
theorem ok : CtxOK prog ctx := ⟨nilM, mixed_ok, tab_ok tab_good, nilM, nilM, nilM⟩
theorem S : Sound prog ⟨183, sig, F⟩ := sound_k (res := [.tmp 4]) func183 ok
end spec_l05Before
namespace spec_l00Own
noncomputable def sig : Sig := ⟨[.val false (.sl (.int .i64))], [(.val false, (.sl (.int .i64)), .deep)]⟩
noncomputable def ctx : Ctx := ⟨tabOf tabl, [], [], [], [], []⟩
noncomputable def cfg : Cfg := ⟨ctx, [], [], fun _ => ([], []), fun _ => []⟩
noncomputable def code : Code := (f152).body.getD .skip
noncomputable def fin := finK ctx sig [.tmp 2]
noncomputable def F (d : List Int × Unit) : Option ((List Int × Unit) × (Unit)) := anyK (runFn cfg fin code (initSt sig.ps d 6))
noncomputable def T (list_1 : List Int) : Option ((List Int × Unit) × (Unit)) :=
  if ([] : List Int).length + list_1.length ≤ bigA then
    some ((([] : List Int) ++ list_1, ()), ())
  else
    none
theorem eq (list_1 : List Int) : F (list_1, ()) = T list_1 := eq_any fun k => by kernel_rfl
theorem ok : CtxOK prog ctx := ⟨nilM, mixed_ok, tab_ok tab_good, nilM, nilM, nilM⟩
theorem S : Sound prog ⟨152, sig, F⟩ := sound_k (res := [.tmp 2]) func152 ok
end spec_l00Own
namespace spec_l05Drop
noncomputable def sig : Sig := ⟨[.val false (.sl (.int .i64)), .val false (.int .i64)], [(.val false, (.sl (.int .i64)), .deep)]⟩
noncomputable def ctx : Ctx := ⟨tabOf tabl, [⟨152, spec_l00Own.sig, spec_l00Own.F⟩], [], [], [], []⟩
noncomputable def cfg : Cfg := ⟨ctx, [], [], fun _ => ([], []), fun _ => []⟩
noncomputable def code : Code := (f184).body.getD .skip
noncomputable def fin := finK ctx sig [.tmp 4]
noncomputable def F (d : List Int × Int × Unit) : Option ((List Int × Unit) × (Unit)) := anyK (runFn cfg fin code (initSt sig.ps d 16))
noncomputable def T (s_1 : List Int) (k_2 : Int) : Option ((List Int × Unit) × (Unit)) :=
  if 0 ≤ (0 : Int) ∧ (0 : Int) ≤ k_2 ∧ k_2 ≤ (s_1.length : Int) then
    (spec_l00Own.F (cutL s_1 (0 : Int) k_2, ())).bind fun r3 =>
      if 0 ≤ (IntKind.i64.wrap (k_2 + (1 : Int))) ∧ (IntKind.i64.wrap (k_2 + (1 : Int))) ≤ (s_1.length : Int) ∧ (s_1.length : Int) ≤ (s_1.length : Int) then
        if r3.1.1.length + (cutL s_1 (IntKind.i64.wrap (k_2 + (1 : Int))) (s_1.length : Int)).length ≤ bigA then
          some ((r3.1.1 ++ (cutL s_1 (IntKind.i64.wrap (k_2 + (1 : Int))) (s_1.length : Int)), ()), ())
        else
          none
      else
        none
  else
    none
theorem eq (s_1 : List Int) (k_2 : Int) : F (s_1, k_2, ()) = T s_1 k_2 := eq_any fun k => by kernel_rfl
theorem ok : CtxOK prog ctx := ⟨nilM, mixed_ok, tab_ok tab_good, consM ⟨spec_l00Own.S, nilM⟩, nilM, nilM⟩
theorem S : Sound prog ⟨184, sig, F⟩ := sound_k (res := [.tmp 4]) func184 ok
end spec_l05Drop
namespace spec_l05Ok
noncomputable def sig : Sig := ⟨[.rptr (.sl (.sl (.int .i64)))], [(.val false, .bool, .deep)]⟩
noncomputable def ctx : Ctx := ⟨tabOf tabl, [⟨101, spec_l05Find.sig, spec_l05Find.F⟩, ⟨182, spec_l05Simplex.sig, spec_l05Simplex.F⟩, ⟨183, spec_l05Before.sig, spec_l05Before.F⟩, ⟨184, spec_l05Drop.sig, spec_l05Drop.F⟩], [], [], [], []⟩
noncomputable def cfg : Cfg := ⟨ctx, [], [], fun id => match id with | 4 => ([0, 3], []) | 10 => ([0, 3, 4, 5], []) | _ => ([], []), fun _ => []⟩
noncomputable def code : Code := (f92).body.getD .skip
noncomputable def fin := finK ctx sig [.tmp 2]
noncomputable def F (d : List (List Int) × Unit) : Option ((Bool × Unit) × (Unit)) := anyK (runFn cfg fin code (initSt sig.ps d 65))
noncomputable def l4 (k : Nat) (x2 : List (List Int)) (i3 : Int) : Option ((Bool × Unit) × (Unit)) :=
  Go.Vm.runT cfg fin k [.inLoop (sub [1, 1, 0, 1, 0, 0] code), .inBlock 0, .code (sub [1, 1, 1] code)]
    ⟨[.rptr false [⟨(.sl (.sl (.int .i64))), .sh, x2⟩], .dead, .dead, .val false [⟨(.int .i64), .sh, i3⟩]] ++ deads 61, []⟩
noncomputable def l10 (k : Nat) (x6 : List (List Int)) (i7 : Int) (x8 : List Int) (i9 : Int) : Option ((Bool × Unit) × (Unit)) :=
  Go.Vm.runT cfg fin k [.inLoop (sub [1, 1, 0, 1, 0, 0, 1, 0, 0, 1, 1, 1, 0, 0] code), .inBlock 2, .inBlock 1, .code (sub [1, 1, 0, 1, 0, 0, 1, 1] code), .inLoop (sub [1, 1, 0, 1, 0, 0] code), .inBlock 0, .code (sub [1, 1, 1] code)]
    ⟨[.rptr false [⟨(.sl (.sl (.int .i64))), .sh, x6⟩], .dead, .dead, .val false [⟨(.int .i64), .sh, i7⟩], .val false [⟨(.sl (.int .i64)), .sh, x8⟩], .val false [⟨(.int .i64), .sh, i9⟩]] ++ deads 59, []⟩
theorem l4_eq (k : Nat) (x2 : List (List Int)) (i3 : Int) : l4 (k + 1) x2 i3 =
  if (decide (i3 < (x2.length : Int))) = true then
    if 0 ≤ i3 ∧ i3 < (x2.length : Int) then
      (spec_l05Simplex.F (x2.getD i3.toNat ([] : List Int), ())).bind fun r4 =>
        if (!(r4.1.1 : Bool)) = true then
          some ((false, ()), ())
        else
          if (decide (i3 > (0 : Int))) = true then
            if 0 ≤ (IntKind.i64.wrap (i3 - (1 : Int))) ∧ (IntKind.i64.wrap (i3 - (1 : Int))) < (x2.length : Int) then
              (spec_l05Before.F (x2.getD (IntKind.i64.wrap (i3 - (1 : Int))).toNat ([] : List Int), x2.getD i3.toNat ([] : List Int), ())).bind fun r5 =>
                if (!(r5.1.1 : Bool)) = true then
                  some ((false, ()), ())
                else
                  l10 k x2 i3 (x2.getD i3.toNat ([] : List Int)) (0 : Int)
            else
              none
          else
            l10 k x2 i3 (x2.getD i3.toNat ([] : List Int)) (0 : Int)
    else
      none
  else
    some ((true, ()), ()) := by kernel_rfl
theorem l10_eq (k : Nat) (x6 : List (List Int)) (i7 : Int) (x8 : List Int) (i9 : Int) : l10 (k + 1) x6 i7 x8 i9 =
  if (decide (i9 < (x8.length : Int))) = true then
    if (decide ((x8.length : Int) > (1 : Int))) = true then
      (spec_l05Drop.F (x8, i9, ())).bind fun r10 =>
        (spec_l05Find.F (x6, r10.1.1, ())).bind fun r11 =>
          if (decide ((r11.1.1 : Int) < (0 : Int))) = true then
            some ((false, ()), ())
          else
            l10 k x6 i7 x8 (IntKind.i64.wrap (i9 + (1 : Int)))
    else
      l4 k x6 (IntKind.i64.wrap (i7 + (1 : Int)))
  else
    l4 k x6 (IntKind.i64.wrap (i7 + (1 : Int))) := by kernel_rfl
noncomputable def T (k : Nat) (toArray_1 : List (List Int)) : Option ((Bool × Unit) × (Unit)) :=
  if (decide ((toArray_1.length : Int) > (48 : Int))) = true then
    some ((false, ()), ())
  else
    l4 k toArray_1 (0 : Int)
theorem of (toArray_1 : List (List Int)) {r : (Bool × Unit) × (Unit)} (h : Ev (fun k => T k toArray_1) r) : F (toArray_1, ()) = some r := Ev.run (fun k => by kernel_rfl) h
theorem ok : CtxOK prog ctx := ⟨nilM, mixed_ok, tab_ok tab_good, consM ⟨spec_l05Find.S, consM ⟨spec_l05Simplex.S, consM ⟨spec_l05Before.S, consM ⟨spec_l05Drop.S, nilM⟩⟩⟩⟩, nilM, nilM⟩
theorem S : Sound prog ⟨92, sig, F⟩ := sound_k (res := [.tmp 2]) func92 ok
end spec_l05Ok
namespace spec_l09Place
noncomputable def sig : Sig := ⟨[.rptr (.sl (.sl (.int .i64))), .val false (.int .i64), .val false (.int .i64)], [(.val false, (.int .i64), .deep)]⟩
noncomputable def ctx : Ctx := ⟨tabOf tabl, [], [], [], [], []⟩
noncomputable def cfg : Cfg := ⟨ctx, [], [], fun id => match id with | 3 => ([0, 1, 2, 7, 8], []) | _ => ([], []), fun _ => []⟩
noncomputable def code : Code := (f117).body.getD .skip
noncomputable def fin := finK ctx sig [.tmp 6]
noncomputable def F (d : List (List Int) × Int × Int × Unit) : Option ((Int × Unit) × (Unit)) := anyK (runFn cfg fin code (initSt sig.ps d 36))
noncomputable def l3 (k : Nat) (x4 : List (List Int)) (i5 : Int) (i6 : Int) (i7 : Int) (i8 : Int) : Option ((Int × Unit) × (Unit)) :=
  Go.Vm.runT cfg fin k [.inLoop (sub [1, 1, 0, 1, 0, 0] code), .inBlock 0, .code (sub [1, 1, 1] code)]
    ⟨[.rptr false [⟨(.sl (.sl (.int .i64))), .sh, x4⟩], .val false [⟨(.int .i64), .sh, i5⟩], .val false [⟨(.int .i64), .sh, i6⟩], .dead, .dead, .dead, .dead, .val false [⟨(.int .i64), .sh, i7⟩], .val false [⟨(.int .i64), .sh, i8⟩]] ++ deads 27, []⟩
theorem l3_eq (k : Nat) (x4 : List (List Int)) (i5 : Int) (i6 : Int) (i7 : Int) (i8 : Int) : l3 (k + 1) x4 i5 i6 i7 i8 =
  if (decide (i8 < i5)) = true then
    if 0 ≤ i8 ∧ i8 < (x4.length : Int) then
      if (decide (((x4.getD i8.toNat ([] : List Int)).length : Int) > (1 : Int))) = true then
        if 0 ≤ i8 ∧ i8 < (x4.length : Int) then
          l3 k x4 i5 i6 (IntKind.i64.wrap (i7 + ((x4.getD i8.toNat ([] : List Int)).length : Int))) (IntKind.i64.wrap (i8 + (1 : Int)))
        else
          none
      else
        l3 k x4 i5 i6 i7 (IntKind.i64.wrap (i8 + (1 : Int)))
    else
      none
  else
    some ((IntKind.i64.wrap (i7 + i6), ()), ()) := by kernel_rfl
noncomputable def T (k : Nat) (c_1 : List (List Int)) (simplex_2 : Int) (i_3 : Int) : Option ((Int × Unit) × (Unit)) :=
  l3 k c_1 simplex_2 i_3 (0 : Int) (0 : Int)
theorem of (c_1 : List (List Int)) (simplex_2 : Int) (i_3 : Int) {r : (Int × Unit) × (Unit)} (h : Ev (fun k => T k c_1 simplex_2 i_3) r) : F (c_1, simplex_2, i_3, ()) = some r := Ev.run (fun k => by kernel_rfl) h
theorem ok : CtxOK prog ctx := ⟨nilM, mixed_ok, tab_ok tab_good, nilM, nilM, nilM⟩
theorem S : Sound prog ⟨117, sig, F⟩ := sound_k (res := [.tmp 6]) func117 ok
end spec_l09Place
namespace spec_l03Column
noncomputable def sig : Sig := ⟨[.val false (.sl (.int .i64)), .val false (.int .i64), .val false (.int .i64)], [(.val false, .bool, .deep)]⟩
noncomputable def ctx : Ctx := ⟨tabOf tabl, [⟨176, spec_l00In.sig, spec_l00In.F⟩], [], [], [], []⟩
noncomputable def cfg : Cfg := ⟨ctx, [], [], fun id => match id with | 2 => ([0, 1, 2, 7], []) | _ => ([], []), fun _ => []⟩
noncomputable def code : Code := (f99).body.getD .skip
noncomputable def fin := finK ctx sig [.tmp 6]
noncomputable def F (d : List Int × Int × Int × Unit) : Option ((Bool × Unit) × (Unit)) := anyK (runFn cfg fin code (initSt sig.ps d 26))
noncomputable def l2 (k : Nat) (x4 : List Int) (i5 : Int) (i6 : Int) (i7 : Int) : Option ((Bool × Unit) × (Unit)) :=
  Go.Vm.runT cfg fin k [.inLoop (sub [1, 0, 1, 0, 0] code), .inBlock 0, .code (sub [1, 1] code)]
    ⟨[.val false [⟨(.sl (.int .i64)), .sh, x4⟩], .val false [⟨(.int .i64), .sh, i5⟩], .val false [⟨(.int .i64), .sh, i6⟩], .dead, .dead, .dead, .dead, .val false [⟨(.int .i64), .sh, i7⟩]] ++ deads 18, []⟩
theorem l2_eq (k : Nat) (x4 : List Int) (i5 : Int) (i6 : Int) (i7 : Int) : l2 (k + 1) x4 i5 i6 i7 =
  if (decide (i7 < (x4.length : Int))) = true then
    if 0 ≤ i7 ∧ i7 < (x4.length : Int) then
      (spec_l00In.F ((x4.getD i7.toNat 0 : Int), (0 : Int), IntKind.i64.wrap (i6 - (1 : Int)), ())).bind fun r8 =>
        if (!(r8.1.1 : Bool)) = true then
          some ((false, ()), ())
        else
          l2 k x4 i5 i6 (IntKind.i64.wrap (i7 + (1 : Int)))
    else
      none
  else
    some (((x4.length : Int) == i5, ()), ()) := by kernel_rfl
noncomputable def T (k : Nat) (v_1 : List Int) (n_2 : Int) (p_3 : Int) : Option ((Bool × Unit) × (Unit)) :=
  l2 k v_1 n_2 p_3 (0 : Int)
theorem of (v_1 : List Int) (n_2 : Int) (p_3 : Int) {r : (Bool × Unit) × (Unit)} (h : Ev (fun k => T k v_1 n_2 p_3) r) : F (v_1, n_2, p_3, ()) = some r := Ev.run (fun k => by kernel_rfl) h
theorem ok : CtxOK prog ctx := ⟨nilM, mixed_ok, tab_ok tab_good, consM ⟨spec_l00In.S, nilM⟩, nilM, nilM⟩
theorem S : Sound prog ⟨99, sig, F⟩ := sound_k (res := [.tmp 6]) func99 ok
end spec_l03Column
namespace spec_l05Of
noncomputable def sig : Sig := ⟨[.rptr (.sl (.sl (.int .i64))), .val false (.int .i64)], [(.val false, (.sl (.int .i64)), .deep)]⟩
noncomputable def ctx : Ctx := ⟨tabOf tabl, [], [], [], [], []⟩
noncomputable def cfg : Cfg := ⟨ctx, [], [], fun id => match id with | 3 => ([0, 1, 5, 6], [20]) | _ => ([], []), fun _ => []⟩
noncomputable def code : Code := (f74).body.getD .skip
noncomputable def fin := finK ctx sig [.tmp 4]
noncomputable def F (d : List (List Int) × Int × Unit) : Option ((List Int × Unit) × (Unit)) := anyK (runFn cfg fin code (initSt sig.ps d 33))
noncomputable def l3 (k : Nat) (x3 : List (List Int)) (i4 : Int) (i5 : Int) (x6 : List Int) : Option ((List Int × Unit) × (Unit)) :=
  Go.Vm.runT cfg fin k [.inLoop (sub [1, 1, 0, 1, 0, 0] code), .inBlock 0, .code (sub [1, 1, 1] code)]
    ⟨[.rptr false [⟨(.sl (.sl (.int .i64))), .sh, x3⟩], .val false [⟨(.int .i64), .sh, i4⟩], .dead, .dead, .dead, .view 20 (.root 0) 1 false, .val false [⟨(.int .i64), .sh, i5⟩]] ++ deads 26, [(20, ⟨false, [⟨(.sl (.int .i64)), .deep, x6⟩]⟩)]⟩
theorem l3_eq (k : Nat) (x3 : List (List Int)) (i4 : Int) (i5 : Int) (x6 : List Int) : l3 (k + 1) x3 i4 i5 x6 =
  if (decide (i5 < (x3.length : Int))) = true then
    if 0 ≤ i5 ∧ i5 < (x3.length : Int) then
      if (((x3.getD i5.toNat ([] : List Int)).length : Int) == (IntKind.i64.wrap (i4 + (1 : Int)))) = true then
        if x6.length + ([i5] : List Int).length ≤ bigA then
          l3 k x3 i4 (IntKind.i64.wrap (i5 + (1 : Int))) (x6 ++ ([i5]))
        else
          none
      else
        l3 k x3 i4 (IntKind.i64.wrap (i5 + (1 : Int))) x6
    else
      none
  else
    some ((x6, ()), ()) := by kernel_rfl
noncomputable def T (k : Nat) (c_1 : List (List Int)) (dimension_2 : Int) : Option ((List Int × Unit) × (Unit)) :=
  l3 k c_1 dimension_2 (0 : Int) ([] : List Int)
theorem of (c_1 : List (List Int)) (dimension_2 : Int) {r : (List Int × Unit) × (Unit)} (h : Ev (fun k => T k c_1 dimension_2) r) : F (c_1, dimension_2, ()) = some r := Ev.run (fun k => by kernel_rfl) h
theorem ok : CtxOK prog ctx := ⟨nilM, mixed_ok, tab_ok tab_good, nilM, nilM, nilM⟩
theorem S : Sound prog ⟨74, sig, F⟩ := sound_k (res := [.tmp 4]) func74 ok
end spec_l05Of
namespace spec_l09Sum
noncomputable def sig : Sig := ⟨[.rptr (.sl (.sl (.int .i64))), .val false (.sl (.int .i64)), .val false (.int .i64)], [(.val false, (.int .i64), .deep)]⟩
noncomputable def ctx : Ctx := ⟨tabOf tabl, [⟨74, spec_l05Of.sig, spec_l05Of.F⟩], [], [], [], []⟩
noncomputable def cfg : Cfg := ⟨ctx, [], [], fun id => match id with | 4 => ([1, 7, 8, 9], [28]) | _ => ([], []), fun _ => []⟩
noncomputable def code : Code := (f100).body.getD .skip
noncomputable def fin := finK ctx sig [.tmp 6]
noncomputable def F (d : List (List Int) × List Int × Int × Unit) : Option ((Int × Unit) × (Unit)) := anyK (runFn cfg fin code (initSt sig.ps d 29))
noncomputable def l4 (k : Nat) (x5 : List Int) (i6 : Int) (i7 : Int) (x8 : List Int) : Option ((Int × Unit) × (Unit)) :=
  Go.Vm.runT cfg fin k [.inLoop (sub [1, 1, 1, 0, 1, 0, 0] code), .inBlock 0, .code (sub [1, 1, 1, 1] code)]
    ⟨[.dead, .val false [⟨(.sl (.int .i64)), .sh, x5⟩], .dead, .dead, .dead, .dead, .dead, .view 28 (.root 0) 1 false, .val false [⟨(.int .i64), .sh, i6⟩], .val false [⟨(.int .i64), .sh, i7⟩]] ++ deads 19, [(28, ⟨false, [⟨(.sl (.int .i64)), .deep, x8⟩]⟩)]⟩
theorem l4_eq (k : Nat) (x5 : List Int) (i6 : Int) (i7 : Int) (x8 : List Int) : l4 (k + 1) x5 i6 i7 x8 =
  if (decide (i7 < (x8.length : Int))) = true then
    if 0 ≤ i7 ∧ i7 < (x8.length : Int) then
      if 0 ≤ (x8.getD i7.toNat 0 : Int) ∧ (x8.getD i7.toNat 0 : Int) < (x5.length : Int) then
        l4 k x5 (IntKind.i64.wrap (i6 + (x5.getD (x8.getD i7.toNat 0 : Int).toNat 0))) (IntKind.i64.wrap (i7 + (1 : Int))) x8
      else
        none
    else
      none
  else
    some ((i6, ()), ()) := by kernel_rfl
noncomputable def T (k : Nat) (c_1 : List (List Int)) (stalks_2 : List Int) (k_3 : Int) : Option ((Int × Unit) × (Unit)) :=
  (spec_l05Of.F (c_1, k_3, ())).bind fun r4 =>
    l4 k stalks_2 (0 : Int) (0 : Int) r4.1.1
theorem of (c_1 : List (List Int)) (stalks_2 : List Int) (k_3 : Int) {r : (Int × Unit) × (Unit)} (h : Ev (fun k => T k c_1 stalks_2 k_3) r) : F (c_1, stalks_2, k_3, ()) = some r := Ev.run (fun k => by kernel_rfl) h
theorem ok : CtxOK prog ctx := ⟨nilM, mixed_ok, tab_ok tab_good, consM ⟨spec_l05Of.S, nilM⟩, nilM, nilM⟩
theorem S : Sound prog ⟨100, sig, F⟩ := sound_k (res := [.tmp 6]) func100 ok
end spec_l09Sum
namespace spec_l09Stalks
noncomputable def sig : Sig := ⟨[.rptr (.sl (.sl (.int .i64))), .val false (.sl (.int .i64))], [(.val false, .bool, .deep)]⟩
noncomputable def ctx : Ctx := ⟨tabOf tabl, [⟨99, spec_l03Column.sig, spec_l03Column.F⟩, ⟨100, spec_l09Sum.sig, spec_l09Sum.F⟩], [], [], [], []⟩
noncomputable def cfg : Cfg := ⟨ctx, [], [], fun id => match id with | 4 => ([0, 1, 5], []) | _ => ([], []), fun _ => []⟩
noncomputable def code : Code := (f129).body.getD .skip
noncomputable def fin := finK ctx sig [.tmp 4]
noncomputable def F (d : List (List Int) × List Int × Unit) : Option ((Bool × Unit) × (Unit)) := anyK (runFn cfg fin code (initSt sig.ps d 23))
noncomputable def l4 (k : Nat) (x4 : List (List Int)) (x5 : List Int) (i6 : Int) : Option ((Bool × Unit) × (Unit)) :=
  Go.Vm.runT cfg fin k [.inLoop (sub [1, 1, 0, 1, 0, 0] code), .inBlock 0, .code (sub [1, 1, 1] code)]
    ⟨[.rptr false [⟨(.sl (.sl (.int .i64))), .sh, x4⟩], .val false [⟨(.sl (.int .i64)), .sh, x5⟩], .dead, .dead, .dead, .val false [⟨(.int .i64), .sh, i6⟩]] ++ deads 17, []⟩
theorem l4_eq (k : Nat) (x4 : List (List Int)) (x5 : List Int) (i6 : Int) : l4 (k + 1) x4 x5 i6 =
  if (decide (i6 ≤ (3 : Int))) = true then
    (spec_l09Sum.F (x4, x5, i6, ())).bind fun r7 =>
      if (decide ((r7.1.1 : Int) > (32 : Int))) = true then
        some ((false, ()), ())
      else
        l4 k x4 x5 (IntKind.i64.wrap (i6 + (1 : Int)))
  else
    some ((true, ()), ()) := by kernel_rfl
noncomputable def T (k : Nat) (c_1 : List (List Int)) (stalks_2 : List Int) : Option ((Bool × Unit) × (Unit)) :=
  (spec_l03Column.F (stalks_2, (c_1.length : Int), (4 : Int), ())).bind fun r3 =>
    if (!(r3.1.1 : Bool)) = true then
      some ((false, ()), ())
    else
      l4 k c_1 stalks_2 (0 : Int)
theorem of (c_1 : List (List Int)) (stalks_2 : List Int) {r : (Bool × Unit) × (Unit)} (h : Ev (fun k => T k c_1 stalks_2) r) : F (c_1, stalks_2, ()) = some r := Ev.run (fun k => by kernel_rfl) h
theorem ok : CtxOK prog ctx := ⟨nilM, mixed_ok, tab_ok tab_good, consM ⟨spec_l03Column.S, consM ⟨spec_l09Sum.S, nilM⟩⟩, nilM, nilM⟩
theorem S : Sound prog ⟨129, sig, F⟩ := sound_k (res := [.tmp 4]) func129 ok
end spec_l09Stalks
namespace spec_l02Prime
noncomputable def sig : Sig := ⟨[.val false (.int .i64)], [(.val false, .bool, .deep)]⟩
noncomputable def ctx : Ctx := ⟨tabOf tabl, [⟨176, spec_l00In.sig, spec_l00In.F⟩], [], [], [], []⟩
noncomputable def cfg : Cfg := ⟨ctx, [], [], fun id => match id with | 4 => ([0, 3], []) | _ => ([], []), fun _ => []⟩
noncomputable def code : Code := (f286).body.getD .skip
noncomputable def fin := finK ctx sig [.tmp 2]
noncomputable def F (d : Int × Unit) : Option ((Bool × Unit) × (Unit)) := anyK (runFn cfg fin code (initSt sig.ps d 18))
noncomputable def l4 (k : Nat) (i3 : Int) (i4 : Int) : Option ((Bool × Unit) × (Unit)) :=
  Go.Vm.runT cfg fin k [.inLoop (sub [1, 1, 0, 1, 0, 0] code), .inBlock 0, .code (sub [1, 1, 1] code)]
    ⟨[.val false [⟨(.int .i64), .sh, i3⟩], .dead, .dead, .val false [⟨(.int .i64), .sh, i4⟩]] ++ deads 14, []⟩
theorem l4_eq (k : Nat) (i3 : Int) (i4 : Int) : l4 (k + 1) i3 i4 =
  if (decide ((IntKind.i64.wrap (i4 * i4)) ≤ i3)) = true then
    if i4 = 0 then
      none
    else
      if ((i3.tmod i4) == (0 : Int)) = true then
        some ((false, ()), ())
      else
        l4 k i3 (IntKind.i64.wrap (i4 + (1 : Int)))
  else
    some ((true, ()), ()) := by kernel_rfl
noncomputable def T (k : Nat) (p_1 : Int) : Option ((Bool × Unit) × (Unit)) :=
  (spec_l00In.F (p_1, (2 : Int), (251 : Int), ())).bind fun r2 =>
    if (!(r2.1.1 : Bool)) = true then
      some ((false, ()), ())
    else
      l4 k p_1 (2 : Int)
theorem of (p_1 : Int) {r : (Bool × Unit) × (Unit)} (h : Ev (fun k => T k p_1) r) : F (p_1, ()) = some r := Ev.run (fun k => by kernel_rfl) h
theorem ok : CtxOK prog ctx := ⟨nilM, mixed_ok, tab_ok tab_good, consM ⟨spec_l00In.S, nilM⟩, nilM, nilM⟩
theorem S : Sound prog ⟨286, sig, F⟩ := sound_k (res := [.tmp 2]) func286 ok
end spec_l02Prime
namespace spec_ValidPrime
noncomputable def sig : Sig := ⟨[.val false (.int .i64)], [(.val false, .bool, .deep)]⟩
noncomputable def ctx : Ctx := ⟨tabOf tabl, [⟨286, spec_l02Prime.sig, spec_l02Prime.F⟩], [], [], [], []⟩
noncomputable def cfg : Cfg := ⟨ctx, [], [], fun _ => ([], []), fun _ => []⟩
noncomputable def code : Code := (f250).body.getD .skip
noncomputable def fin := finK ctx sig [.tmp 2]
noncomputable def F (d : Int × Unit) : Option ((Bool × Unit) × (Unit)) := anyK (runFn cfg fin code (initSt sig.ps d 5))
noncomputable def T (p_1 : Int) : Option ((Bool × Unit) × (Unit)) :=
  (spec_l02Prime.F (p_1, ())).bind fun r2 =>
    some (((r2.1.1 : Bool), ()), ())
theorem eq (p_1 : Int) : F (p_1, ()) = T p_1 := eq_any fun k => by kernel_rfl
theorem ok : CtxOK prog ctx := ⟨nilM, mixed_ok, tab_ok tab_good, consM ⟨spec_l02Prime.S, nilM⟩, nilM, nilM⟩
theorem S : Sound prog ⟨250, sig, F⟩ := sound_k (res := [.tmp 2]) func250 ok
end spec_ValidPrime
namespace spec_l09Count
noncomputable def sig : Sig := ⟨[.rptr (.sl (.sl (.int .i64)))], [(.val false, (.int .i64), .deep)]⟩
noncomputable def ctx : Ctx := ⟨tabOf tabl, [⟨117, spec_l09Place.sig, spec_l09Place.F⟩], [], [], [], []⟩
noncomputable def cfg : Cfg := ⟨ctx, [], [], fun _ => ([], []), fun _ => []⟩
noncomputable def code : Code := (f260).body.getD .skip
noncomputable def fin := finK ctx sig [.tmp 2]
noncomputable def F (d : List (List Int) × Unit) : Option ((Int × Unit) × (Unit)) := anyK (runFn cfg fin code (initSt sig.ps d 10))
noncomputable def T (c_1 : List (List Int)) : Option ((Int × Unit) × (Unit)) :=
  (spec_l09Place.F (c_1, (c_1.length : Int), (0 : Int), ())).bind fun r2 =>
    some (((r2.1.1 : Int), ()), ())
theorem eq (c_1 : List (List Int)) : F (c_1, ()) = T c_1 := eq_any fun k => by kernel_rfl
theorem ok : CtxOK prog ctx := ⟨nilM, mixed_ok, tab_ok tab_good, consM ⟨spec_l09Place.S, nilM⟩, nilM, nilM⟩
theorem S : Sound prog ⟨260, sig, F⟩ := sound_k (res := [.tmp 2]) func260 ok
end spec_l09Count
namespace spec_l05Faces
noncomputable def sig : Sig := ⟨[.rptr (.sl (.sl (.int .i64))), .val false (.int .i64)], [(.val false, (.sl (.int .i64)), .deep)]⟩
noncomputable def ctx : Ctx := ⟨tabOf tabl, [⟨101, spec_l05Find.sig, spec_l05Find.F⟩, ⟨184, spec_l05Drop.sig, spec_l05Drop.F⟩], [], [], [], []⟩
noncomputable def cfg : Cfg := ⟨ctx, [], [], fun id => match id with | 4 => ([0, 5, 6, 7], [24]) | _ => ([], []), fun _ => []⟩
noncomputable def code : Code := (f115).body.getD .skip
noncomputable def fin := finK ctx sig [.tmp 4]
noncomputable def F (d : List (List Int) × Int × Unit) : Option ((List Int × Unit) × (Unit)) := anyK (runFn cfg fin code (initSt sig.ps d 36))
noncomputable def l4 (k : Nat) (x3 : List (List Int)) (x4 : List Int) (i5 : Int) (x6 : List Int) : Option ((List Int × Unit) × (Unit)) :=
  Go.Vm.runT cfg fin k [.inLoop (sub [1, 1, 1, 0, 1, 0, 0] code), .inBlock 0, .code (sub [1, 1, 1, 1] code)]
    ⟨[.rptr false [⟨(.sl (.sl (.int .i64))), .sh, x3⟩], .dead, .dead, .dead, .dead, .val false [⟨(.sl (.int .i64)), .sh, x4⟩], .view 24 (.root 0) 1 false, .val false [⟨(.int .i64), .sh, i5⟩]] ++ deads 28, [(24, ⟨false, [⟨(.sl (.int .i64)), .deep, x6⟩]⟩)]⟩
theorem l4_eq (k : Nat) (x3 : List (List Int)) (x4 : List Int) (i5 : Int) (x6 : List Int) : l4 (k + 1) x3 x4 i5 x6 =
  if (decide (i5 < (x4.length : Int))) = true then
    if (decide ((x4.length : Int) > (1 : Int))) = true then
      (spec_l05Drop.F (x4, i5, ())).bind fun r7 =>
        (spec_l05Find.F (x3, r7.1.1, ())).bind fun r8 =>
          if x6.length + ([(r8.1.1 : Int)] : List Int).length ≤ bigA then
            l4 k x3 x4 (IntKind.i64.wrap (i5 + (1 : Int))) (x6 ++ ([(r8.1.1 : Int)]))
          else
            none
    else
      some ((x6, ()), ())
  else
    some ((x6, ()), ()) := by kernel_rfl
noncomputable def T (k : Nat) (c_1 : List (List Int)) (k_2 : Int) : Option ((List Int × Unit) × (Unit)) :=
  if 0 ≤ k_2 ∧ k_2 < (c_1.length : Int) then
    l4 k c_1 (c_1.getD k_2.toNat ([] : List Int)) (0 : Int) ([] : List Int)
  else
    none
theorem of (c_1 : List (List Int)) (k_2 : Int) {r : (List Int × Unit) × (Unit)} (h : Ev (fun k => T k c_1 k_2) r) : F (c_1, k_2, ()) = some r := Ev.run (fun k => by kernel_rfl) h
theorem ok : CtxOK prog ctx := ⟨nilM, mixed_ok, tab_ok tab_good, consM ⟨spec_l05Find.S, consM ⟨spec_l05Drop.S, nilM⟩⟩, nilM, nilM⟩
theorem S : Sound prog ⟨115, sig, F⟩ := sound_k (res := [.tmp 4]) func115 ok
end spec_l05Faces
namespace spec_l03Ok
noncomputable def sig : Sig := ⟨[.rptr TMatrix], [(.val false, .bool, .deep)]⟩
noncomputable def ctx : Ctx := ⟨tabOf tabl, [⟨99, spec_l03Column.sig, spec_l03Column.F⟩, ⟨176, spec_l00In.sig, spec_l00In.F⟩, ⟨250, spec_ValidPrime.sig, spec_ValidPrime.F⟩], [], [], [], []⟩
noncomputable def cfg : Cfg := ⟨ctx, [], [], fun _ => ([], []), fun _ => []⟩
noncomputable def code : Code := (f233).body.getD .skip
noncomputable def fin := finK ctx sig [.tmp 2]
noncomputable def F (d : (Int × Int × Int × List Int) × Unit) : Option ((Bool × Unit) × (Unit)) := anyK (runFn cfg fin code (initSt sig.ps d 42))
noncomputable def T (m_1 : Int) (m_2 : Int) (m_3 : Int) (m_4 : List Int) : Option ((Bool × Unit) × (Unit)) :=
  (spec_ValidPrime.F (m_1, ())).bind fun r5 =>
    if (r5.1.1 : Bool) = true then
      (spec_l00In.F (m_2, (0 : Int), (32 : Int), ())).bind fun r6 =>
        if (r6.1.1 : Bool) = true then
          (spec_l00In.F (m_3, (0 : Int), (32 : Int), ())).bind fun r7 =>
            if (r7.1.1 : Bool) = true then
              (spec_l03Column.F (m_4, IntKind.i64.wrap (m_2 * m_3), m_1, ())).bind fun r8 =>
                some (((r8.1.1 : Bool), ()), ())
            else
              some ((false, ()), ())
        else
          some ((false, ()), ())
    else
      some ((false, ()), ())
theorem eq (m_1 : Int) (m_2 : Int) (m_3 : Int) (m_4 : List Int) : F ((m_1, (m_2, (m_3, m_4))), ()) = T m_1 m_2 m_3 m_4 := eq_any fun k => by kernel_rfl
theorem ok : CtxOK prog ctx := ⟨nilM, mixed_ok, tab_ok tab_good, consM ⟨spec_l03Column.S, consM ⟨spec_l00In.S, consM ⟨spec_ValidPrime.S, nilM⟩⟩⟩, nilM, nilM⟩
theorem S : Sound prog ⟨233, sig, F⟩ := sound_k (res := [.tmp 2]) func233 ok
end spec_l03Ok
namespace spec_l09Map
noncomputable def sig : Sig := ⟨[.rptr TSheaf, .val false (.int .i64), .val false (.int .i64), .rptr TMatrix], [(.val false, .bool, .deep)]⟩
noncomputable def ctx : Ctx := ⟨tabOf tabl, [⟨115, spec_l05Faces.sig, spec_l05Faces.F⟩, ⟨233, spec_l03Ok.sig, spec_l03Ok.F⟩], [], [], [], []⟩
noncomputable def cfg : Cfg := ⟨ctx, [], [], fun _ => ([], []), fun _ => []⟩
noncomputable def code : Code := (f261).body.getD .skip
noncomputable def fin := finK ctx sig [.tmp 8]
noncomputable def F (d : (List (List Int) × Int × List Int × List (Int × Int × Int × List Int)) × Int × Int × (Int × Int × Int × List Int) × Unit) : Option ((Bool × Unit) × (Unit)) := anyK (runFn cfg fin code (initSt sig.ps d 59))
noncomputable def T (s_1 : List (List Int)) (s_2 : Int) (s_3 : List Int) (s_4 : List (Int × Int × Int × List Int)) (simplex_5 : Int) (i_6 : Int) (m_7 : Int) (m_8 : Int) (m_9 : Int) (m_10 : List Int) : Option ((Bool × Unit) × (Unit)) :=
  (spec_l05Faces.F (s_1, simplex_5, ())).bind fun r11 =>
    if 0 ≤ i_6 ∧ i_6 < (r11.1.1.length : Int) then
      (spec_l03Ok.F ((m_7, (m_8, (m_9, m_10))), ())).bind fun r12 =>
        if (r12.1.1 : Bool) = true then
          if (m_7 == s_2) = true then
            if 0 ≤ simplex_5 ∧ simplex_5 < (s_3.length : Int) then
              if (m_8 == (s_3.getD simplex_5.toNat 0 : Int)) = true then
                if 0 ≤ (r11.1.1.getD i_6.toNat 0 : Int) ∧ (r11.1.1.getD i_6.toNat 0 : Int) < (s_3.length : Int) then
                  some ((m_9 == (s_3.getD (r11.1.1.getD i_6.toNat 0 : Int).toNat 0), ()), ())
                else
                  none
              else
                some ((false, ()), ())
            else
              none
          else
            some ((false, ()), ())
        else
          some ((false, ()), ())
    else
      none
theorem eq (s_1 : List (List Int)) (s_2 : Int) (s_3 : List Int) (s_4 : List (Int × Int × Int × List Int)) (simplex_5 : Int) (i_6 : Int) (m_7 : Int) (m_8 : Int) (m_9 : Int) (m_10 : List Int) : F ((s_1, (s_2, (s_3, s_4))), simplex_5, i_6, (m_7, (m_8, (m_9, m_10))), ()) = T s_1 s_2 s_3 s_4 simplex_5 i_6 m_7 m_8 m_9 m_10 := eq_any fun k => by kernel_rfl
theorem ok : CtxOK prog ctx := ⟨nilM, mixed_ok, tab_ok tab_good, consM ⟨spec_l05Faces.S, consM ⟨spec_l03Ok.S, nilM⟩⟩, nilM, nilM⟩
theorem S : Sound prog ⟨261, sig, F⟩ := sound_k (res := [.tmp 8]) func261 ok
end spec_l09Map
namespace spec_l09Ok
noncomputable def sig : Sig := ⟨[.rptr TSheaf], [(.val false, .bool, .deep)]⟩
noncomputable def ctx : Ctx := ⟨tabOf tabl, [⟨92, spec_l05Ok.sig, spec_l05Ok.F⟩, ⟨117, spec_l09Place.sig, spec_l09Place.F⟩, ⟨129, spec_l09Stalks.sig, spec_l09Stalks.F⟩, ⟨250, spec_ValidPrime.sig, spec_ValidPrime.F⟩, ⟨260, spec_l09Count.sig, spec_l09Count.F⟩, ⟨261, spec_l09Map.sig, spec_l09Map.F⟩], [], [], [], []⟩
noncomputable def cfg : Cfg := ⟨ctx, [], [], fun id => match id with | 4 => ([0, 3], []) | 7 => ([0, 3, 4], []) | _ => ([], []), fun _ => []⟩
noncomputable def code : Code := (f189).body.getD .skip
noncomputable def fin := finK ctx sig [.tmp 2]
noncomputable def F (d : (List (List Int) × Int × List Int × List (Int × Int × Int × List Int)) × Unit) : Option ((Bool × Unit) × (Unit)) := anyK (runFn cfg fin code (initSt sig.ps d 92))
noncomputable def l4 (k : Nat) (x9 : List (List Int)) (i10 : Int) (x11 : List Int) (x12 : List (Int × Int × Int × List Int)) (i13 : Int) : Option ((Bool × Unit) × (Unit)) :=
  Go.Vm.runT cfg fin k [.inLoop (sub [1, 1, 0, 1, 0, 0] code), .inBlock 0, .code (sub [1, 1, 1] code)]
    ⟨[.rptr false [⟨(.sl (.sl (.int .i64))), .sh, x9⟩, ⟨(.int .i64), .sh, i10⟩, ⟨(.sl (.int .i64)), .sh, x11⟩, ⟨(.sl TMatrix), .sh, x12⟩], .dead, .dead, .val false [⟨(.int .i64), .sh, i13⟩]] ++ deads 88, []⟩
noncomputable def l7 (k : Nat) (x14 : List (List Int)) (i15 : Int) (x16 : List Int) (x17 : List (Int × Int × Int × List Int)) (i18 : Int) (i19 : Int) : Option ((Bool × Unit) × (Unit)) :=
  Go.Vm.runT cfg fin k [.inLoop (sub [1, 1, 0, 1, 0, 0, 1, 0, 0, 1, 0, 0] code), .inBlock 2, .inBlock 1, .code (sub [1, 1, 0, 1, 0, 0, 1, 1] code), .inLoop (sub [1, 1, 0, 1, 0, 0] code), .inBlock 0, .code (sub [1, 1, 1] code)]
    ⟨[.rptr false [⟨(.sl (.sl (.int .i64))), .sh, x14⟩, ⟨(.int .i64), .sh, i15⟩, ⟨(.sl (.int .i64)), .sh, x16⟩, ⟨(.sl TMatrix), .sh, x17⟩], .dead, .dead, .val false [⟨(.int .i64), .sh, i18⟩], .val false [⟨(.int .i64), .sh, i19⟩]] ++ deads 87, []⟩
theorem l4_eq (k : Nat) (x9 : List (List Int)) (i10 : Int) (x11 : List Int) (x12 : List (Int × Int × Int × List Int)) (i13 : Int) : l4 (k + 1) x9 i10 x11 x12 i13 =
  if (decide (i13 < (x9.length : Int))) = true then
    l7 k x9 i10 x11 x12 i13 (0 : Int)
  else
    some ((true, ()), ()) := by kernel_rfl
theorem l7_eq (k : Nat) (x14 : List (List Int)) (i15 : Int) (x16 : List Int) (x17 : List (Int × Int × Int × List Int)) (i18 : Int) (i19 : Int) : l7 (k + 1) x14 i15 x16 x17 i18 i19 =
  if 0 ≤ i18 ∧ i18 < (x14.length : Int) then
    if (decide (i19 < ((x14.getD i18.toNat ([] : List Int)).length : Int))) = true then
      if 0 ≤ i18 ∧ i18 < (x14.length : Int) then
        if (decide (((x14.getD i18.toNat ([] : List Int)).length : Int) > (1 : Int))) = true then
          (spec_l09Place.F (x14, i18, i19, ())).bind fun r20 =>
            if 0 ≤ (r20.1.1 : Int) ∧ (r20.1.1 : Int) < (x17.length : Int) then
              (spec_l09Map.F ((x14, (i15, (x16, x17))), i18, i19, x17.getD (r20.1.1 : Int).toNat (0, 0, 0, ([] : List Int)), ())).bind fun r21 =>
                if (!(r21.1.1 : Bool)) = true then
                  some ((false, ()), ())
                else
                  l7 k x14 i15 x16 x17 i18 (IntKind.i64.wrap (i19 + (1 : Int)))
            else
              none
        else
          l4 k x14 i15 x16 x17 (IntKind.i64.wrap (i18 + (1 : Int)))
      else
        none
    else
      l4 k x14 i15 x16 x17 (IntKind.i64.wrap (i18 + (1 : Int)))
  else
    none := by kernel_rfl
noncomputable def T (k : Nat) (toArray_1 : List (List Int)) (toArray_2 : Int) (toArray_3 : List Int) (toArray_4 : List (Int × Int × Int × List Int)) : Option ((Bool × Unit) × (Unit)) :=
  (spec_l05Ok.F (toArray_1, ())).bind fun r5 =>
    if (!(r5.1.1 : Bool)) = true then
      some ((false, ()), ())
    else
      (spec_ValidPrime.F (toArray_2, ())).bind fun r6 =>
        if (!(r6.1.1 : Bool)) = true then
          some ((false, ()), ())
        else
          (spec_l09Stalks.F (toArray_1, toArray_3, ())).bind fun r7 =>
            if (!(r7.1.1 : Bool)) = true then
              some ((false, ()), ())
            else
              (spec_l09Count.F (toArray_1, ())).bind fun r8 =>
                if ((toArray_4.length : Int) != (r8.1.1 : Int)) = true then
                  some ((false, ()), ())
                else
                  l4 k toArray_1 toArray_2 toArray_3 toArray_4 (0 : Int)
theorem of (toArray_1 : List (List Int)) (toArray_2 : Int) (toArray_3 : List Int) (toArray_4 : List (Int × Int × Int × List Int)) {r : (Bool × Unit) × (Unit)} (h : Ev (fun k => T k toArray_1 toArray_2 toArray_3 toArray_4) r) : F ((toArray_1, (toArray_2, (toArray_3, toArray_4))), ()) = some r := Ev.run (fun k => by kernel_rfl) h
theorem ok : CtxOK prog ctx := ⟨nilM, mixed_ok, tab_ok tab_good, consM ⟨spec_l05Ok.S, consM ⟨spec_l09Place.S, consM ⟨spec_l09Stalks.S, consM ⟨spec_ValidPrime.S, consM ⟨spec_l09Count.S, consM ⟨spec_l09Map.S, nilM⟩⟩⟩⟩⟩⟩, nilM, nilM⟩
theorem S : Sound prog ⟨189, sig, F⟩ := sound_k (res := [.tmp 2]) func189 ok
end spec_l09Ok
namespace spec_l09Get
noncomputable def sig : Sig := ⟨[.rptr TSheaf, .val false (.int .i64), .val false (.int .i64)], [(.ptr, TMatrix, .sh)]⟩
noncomputable def ctx : Ctx := ⟨tabOf tabl, [⟨117, spec_l09Place.sig, spec_l09Place.F⟩], [], [], [], []⟩
noncomputable def cfg : Cfg := ⟨ctx, [], [], fun _ => ([], []), fun _ => []⟩
noncomputable def code : Code := (f222).body.getD .skip
noncomputable def fin := finK ctx sig [.tmp 6]
noncomputable def F (d : (List (List Int) × Int × List Int × List (Int × Int × Int × List Int)) × Int × Int × Unit) : Option (((Int × Int × Int × List Int) × Unit) × (Unit)) := anyK (runFn cfg fin code (initSt sig.ps d 18))
noncomputable def T (s_1 : List (List Int)) (s_2 : Int) (s_3 : List Int) (s_4 : List (Int × Int × Int × List Int)) (simplex_5 : Int) (i_6 : Int) : Option (((Int × Int × Int × List Int) × Unit) × (Unit)) :=
  (spec_l09Place.F (s_1, simplex_5, i_6, ())).bind fun r7 =>
    if 0 ≤ (r7.1.1 : Int) ∧ (r7.1.1 : Int) < (s_4.length : Int) then
      some ((s_4.getD (r7.1.1 : Int).toNat (0, 0, 0, ([] : List Int)), ()), ())
    else
      none
theorem eq (s_1 : List (List Int)) (s_2 : Int) (s_3 : List Int) (s_4 : List (Int × Int × Int × List Int)) (simplex_5 : Int) (i_6 : Int) : F ((s_1, (s_2, (s_3, s_4))), simplex_5, i_6, ()) = T s_1 s_2 s_3 s_4 simplex_5 i_6 := eq_any fun k => by kernel_rfl
theorem ok : CtxOK prog ctx := ⟨nilM, mixed_ok, tab_ok tab_good, consM ⟨spec_l09Place.S, nilM⟩, nilM, nilM⟩
theorem S : Sound prog ⟨222, sig, F⟩ := sound_k (res := [.tmp 6]) func222 ok
end spec_l09Get
namespace spec_l03Zero
noncomputable def sig : Sig := ⟨[.val false (.int .i64), .val false (.int .i64), .val false (.int .i64)], [(.val true, TMatrix, .deep)]⟩
noncomputable def ctx : Ctx := ⟨tabOf tabl, [], [], [], [], []⟩
noncomputable def cfg : Cfg := ⟨ctx, [], [], fun _ => ([], []), fun _ => []⟩
noncomputable def code : Code := (f207).body.getD .skip
noncomputable def fin := finK ctx sig [.cell 6 87]
noncomputable def F (d : Int × Int × Int × Unit) : Option (((Int × Int × Int × List Int) × Unit) × (Unit)) := anyK (runFn cfg fin code (initSt sig.ps d 15))
noncomputable def T (p_1 : Int) (rows_2 : Int) (columns_3 : Int) : Option (((Int × Int × Int × List Int) × Unit) × (Unit)) :=
  if 0 ≤ (IntKind.i64.wrap (rows_2 * columns_3)) ∧ (IntKind.i64.wrap (rows_2 * columns_3)) ≤ (bigN : Int) then
    some (((p_1, (rows_2, (columns_3, List.replicate (IntKind.i64.wrap (rows_2 * columns_3)).toNat 0))), ()), ())
  else
    none
theorem eq (p_1 : Int) (rows_2 : Int) (columns_3 : Int) : F (p_1, rows_2, columns_3, ()) = T p_1 rows_2 columns_3 := eq_any fun k => by kernel_rfl
theorem ok : CtxOK prog ctx := ⟨nilM, mixed_ok, tab_ok tab_good, nilM, nilM, nilM⟩
theorem S : Sound prog ⟨207, sig, F⟩ := sound_k (res := [.cell 6 87]) func207 ok
end spec_l03Zero
namespace spec_l03Times
noncomputable def sig : Sig := ⟨[.rptr TMatrix, .rptr TMatrix], [(.val true, TMatrix, .deep)]⟩
noncomputable def ctx : Ctx := ⟨tabOf tabl, [⟨207, spec_l03Zero.sig, spec_l03Zero.F⟩], [], [], [], []⟩
noncomputable def cfg : Cfg := ⟨ctx, [], [], fun id => match id with | 3 => ([0, 1, 4, 5, 6], [16, 20]) | 6 => ([0, 1, 4, 5, 6, 7], [16, 20]) | 10 => ([0, 1, 4, 5, 6, 7, 8, 9], [16, 20]) | _ => ([], []), fun _ => []⟩
noncomputable def code : Code := (f280).body.getD .skip
noncomputable def fin := finK ctx sig [.cell 4 87]
noncomputable def F (d : (Int × Int × Int × List Int) × (Int × Int × Int × List Int) × Unit) : Option (((Int × Int × Int × List Int) × Unit) × (Unit)) := anyK (runFn cfg fin code (initSt sig.ps d 96))
noncomputable def l3 (k : Nat) (i10 : Int) (i11 : Int) (i12 : Int) (x13 : List Int) (i14 : Int) (i15 : Int) (i16 : Int) (x17 : List Int) (i18 : Int) (i19 : Int) (i20 : Int) (i21 : Int) (x22 : List Int) (i23 : Int) (i24 : Int) (i25 : Int) (x26 : List Int) : Option (((Int × Int × Int × List Int) × Unit) × (Unit)) :=
  Go.Vm.runT cfg fin k [.inLoop (sub [1, 1, 0, 1, 0, 0] code), .inBlock 0, .code (sub [1, 1, 1] code)]
    ⟨[.rptr false [⟨(.int .i64), .sh, i10⟩, ⟨(.int .i64), .sh, i11⟩, ⟨(.int .i64), .sh, i12⟩, ⟨(.sl (.int .i64)), .sh, x13⟩], .rptr false [⟨(.int .i64), .sh, i14⟩, ⟨(.int .i64), .sh, i15⟩, ⟨(.int .i64), .sh, i16⟩, ⟨(.sl (.int .i64)), .sh, x17⟩], .dead, .dead, .ref 16 (.root 0), .ref 20 (.root 0), .val false [⟨(.int .i64), .sh, i18⟩]] ++ deads 89, [(16, ⟨true, [⟨(.int .i64), .sh, i19⟩, ⟨(.int .i64), .sh, i20⟩, ⟨(.int .i64), .sh, i21⟩, ⟨(.sl (.int .i64)), .deep, x22⟩]⟩), (20, ⟨true, [⟨(.int .i64), .sh, i23⟩, ⟨(.int .i64), .sh, i24⟩, ⟨(.int .i64), .sh, i25⟩, ⟨(.sl (.int .i64)), .deep, x26⟩]⟩)]⟩
noncomputable def l6 (k : Nat) (i27 : Int) (i28 : Int) (i29 : Int) (x30 : List Int) (i31 : Int) (i32 : Int) (i33 : Int) (x34 : List Int) (i35 : Int) (i36 : Int) (i37 : Int) (i38 : Int) (i39 : Int) (x40 : List Int) (i41 : Int) (i42 : Int) (i43 : Int) (x44 : List Int) : Option (((Int × Int × Int × List Int) × Unit) × (Unit)) :=
  Go.Vm.runT cfg fin k [.inLoop (sub [1, 1, 0, 1, 0, 0, 1, 0, 0, 1, 0, 0] code), .inBlock 2, .inBlock 1, .code (sub [1, 1, 0, 1, 0, 0, 1, 1] code), .inLoop (sub [1, 1, 0, 1, 0, 0] code), .inBlock 0, .code (sub [1, 1, 1] code)]
    ⟨[.rptr false [⟨(.int .i64), .sh, i27⟩, ⟨(.int .i64), .sh, i28⟩, ⟨(.int .i64), .sh, i29⟩, ⟨(.sl (.int .i64)), .sh, x30⟩], .rptr false [⟨(.int .i64), .sh, i31⟩, ⟨(.int .i64), .sh, i32⟩, ⟨(.int .i64), .sh, i33⟩, ⟨(.sl (.int .i64)), .sh, x34⟩], .dead, .dead, .ref 16 (.root 0), .ref 20 (.root 0), .val false [⟨(.int .i64), .sh, i35⟩], .val false [⟨(.int .i64), .sh, i36⟩]] ++ deads 88, [(16, ⟨true, [⟨(.int .i64), .sh, i37⟩, ⟨(.int .i64), .sh, i38⟩, ⟨(.int .i64), .sh, i39⟩, ⟨(.sl (.int .i64)), .deep, x40⟩]⟩), (20, ⟨true, [⟨(.int .i64), .sh, i41⟩, ⟨(.int .i64), .sh, i42⟩, ⟨(.int .i64), .sh, i43⟩, ⟨(.sl (.int .i64)), .deep, x44⟩]⟩)]⟩
noncomputable def l10 (k : Nat) (i45 : Int) (i46 : Int) (i47 : Int) (x48 : List Int) (i49 : Int) (i50 : Int) (i51 : Int) (x52 : List Int) (i53 : Int) (i54 : Int) (i55 : Int) (i56 : Int) (i57 : Int) (i58 : Int) (i59 : Int) (x60 : List Int) (i61 : Int) (i62 : Int) (i63 : Int) (x64 : List Int) : Option (((Int × Int × Int × List Int) × Unit) × (Unit)) :=
  Go.Vm.runT cfg fin k [.inLoop (sub [1, 1, 0, 1, 0, 0, 1, 0, 0, 1, 0, 0, 1, 0, 0, 1, 0, 1, 0, 0] code), .inBlock 4, .code (sub [1, 1, 0, 1, 0, 0, 1, 0, 0, 1, 0, 0, 1, 0, 0, 1, 1] code), .inBlock 3, .code (sub [1, 1, 0, 1, 0, 0, 1, 0, 0, 1, 0, 0, 1, 1] code), .inLoop (sub [1, 1, 0, 1, 0, 0, 1, 0, 0, 1, 0, 0] code), .inBlock 2, .inBlock 1, .code (sub [1, 1, 0, 1, 0, 0, 1, 1] code), .inLoop (sub [1, 1, 0, 1, 0, 0] code), .inBlock 0, .code (sub [1, 1, 1] code)]
    ⟨[.rptr false [⟨(.int .i64), .sh, i45⟩, ⟨(.int .i64), .sh, i46⟩, ⟨(.int .i64), .sh, i47⟩, ⟨(.sl (.int .i64)), .sh, x48⟩], .rptr false [⟨(.int .i64), .sh, i49⟩, ⟨(.int .i64), .sh, i50⟩, ⟨(.int .i64), .sh, i51⟩, ⟨(.sl (.int .i64)), .sh, x52⟩], .dead, .dead, .ref 16 (.root 0), .ref 20 (.root 0), .val false [⟨(.int .i64), .sh, i53⟩], .val false [⟨(.int .i64), .sh, i54⟩], .val false [⟨(.int .i64), .sh, i55⟩], .val false [⟨(.int .i64), .sh, i56⟩]] ++ deads 86, [(16, ⟨true, [⟨(.int .i64), .sh, i57⟩, ⟨(.int .i64), .sh, i58⟩, ⟨(.int .i64), .sh, i59⟩, ⟨(.sl (.int .i64)), .deep, x60⟩]⟩), (20, ⟨true, [⟨(.int .i64), .sh, i61⟩, ⟨(.int .i64), .sh, i62⟩, ⟨(.int .i64), .sh, i63⟩, ⟨(.sl (.int .i64)), .deep, x64⟩]⟩)]⟩
theorem l3_eq (k : Nat) (i10 : Int) (i11 : Int) (i12 : Int) (x13 : List Int) (i14 : Int) (i15 : Int) (i16 : Int) (x17 : List Int) (i18 : Int) (i19 : Int) (i20 : Int) (i21 : Int) (x22 : List Int) (i23 : Int) (i24 : Int) (i25 : Int) (x26 : List Int) : l3 (k + 1) i10 i11 i12 x13 i14 i15 i16 x17 i18 i19 i20 i21 x22 i23 i24 i25 x26 =
  if (decide (i18 < i11)) = true then
    l6 k i10 i11 i12 x13 i14 i15 i16 x17 i18 (0 : Int) i19 i20 i21 x22 i23 i24 i25 x26
  else
    some (((i23, (i24, (i25, x26))), ()), ()) := by kernel_rfl
theorem l6_eq (k : Nat) (i27 : Int) (i28 : Int) (i29 : Int) (x30 : List Int) (i31 : Int) (i32 : Int) (i33 : Int) (x34 : List Int) (i35 : Int) (i36 : Int) (i37 : Int) (i38 : Int) (i39 : Int) (x40 : List Int) (i41 : Int) (i42 : Int) (i43 : Int) (x44 : List Int) : l6 (k + 1) i27 i28 i29 x30 i31 i32 i33 x34 i35 i36 i37 i38 i39 x40 i41 i42 i43 x44 =
  if (decide (i36 < i33)) = true then
    l10 k i27 i28 i29 x30 i31 i32 i33 x34 i35 i36 (0 : Int) (0 : Int) i37 i38 i39 x40 i41 i42 i43 x44
  else
    l3 k i27 i28 i29 x30 i31 i32 i33 x34 (IntKind.i64.wrap (i35 + (1 : Int))) i37 i38 i39 x40 i41 i42 i43 x44 := by kernel_rfl
theorem l10_eq (k : Nat) (i45 : Int) (i46 : Int) (i47 : Int) (x48 : List Int) (i49 : Int) (i50 : Int) (i51 : Int) (x52 : List Int) (i53 : Int) (i54 : Int) (i55 : Int) (i56 : Int) (i57 : Int) (i58 : Int) (i59 : Int) (x60 : List Int) (i61 : Int) (i62 : Int) (i63 : Int) (x64 : List Int) : l10 (k + 1) i45 i46 i47 x48 i49 i50 i51 x52 i53 i54 i55 i56 i57 i58 i59 x60 i61 i62 i63 x64 =
  if (decide (i56 < i47)) = true then
    if 0 ≤ (IntKind.i64.wrap ((IntKind.i64.wrap (i53 * i47)) + i56)) ∧ (IntKind.i64.wrap ((IntKind.i64.wrap (i53 * i47)) + i56)) < (x48.length : Int) then
      if 0 ≤ (IntKind.i64.wrap ((IntKind.i64.wrap (i56 * i51)) + i54)) ∧ (IntKind.i64.wrap ((IntKind.i64.wrap (i56 * i51)) + i54)) < (x52.length : Int) then
        l10 k i45 i46 i47 x48 i49 i50 i51 x52 i53 i54 (IntKind.i64.wrap (i55 + (IntKind.i64.wrap ((x48.getD (IntKind.i64.wrap ((IntKind.i64.wrap (i53 * i47)) + i56)).toNat 0 : Int) * (x52.getD (IntKind.i64.wrap ((IntKind.i64.wrap (i56 * i51)) + i54)).toNat 0 : Int))))) (IntKind.i64.wrap (i56 + (1 : Int))) i57 i58 i59 x60 i61 i62 i63 x64
      else
        none
    else
      none
  else
    if i45 = 0 then
      none
    else
      if 0 ≤ (IntKind.i64.wrap ((IntKind.i64.wrap (i53 * i51)) + i54)) ∧ (IntKind.i64.wrap ((IntKind.i64.wrap (i53 * i51)) + i54)) < (x64.length : Int) then
        l6 k i45 i46 i47 x48 i49 i50 i51 x52 i53 (IntKind.i64.wrap (i54 + (1 : Int))) i57 i58 i59 x60 i61 i62 i63 (x64.set (IntKind.i64.wrap ((IntKind.i64.wrap (i53 * i51)) + i54)).toNat (i55.tmod i45))
      else
        none := by kernel_rfl
noncomputable def T (k : Nat) (toArray_1 : Int) (toArray_2 : Int) (toArray_3 : Int) (toArray_4 : List Int) (a_5 : Int) (a_6 : Int) (a_7 : Int) (a_8 : List Int) : Option (((Int × Int × Int × List Int) × Unit) × (Unit)) :=
  (spec_l03Zero.F (toArray_1, toArray_2, a_7, ())).bind fun r9 =>
    l3 k toArray_1 toArray_2 toArray_3 toArray_4 a_5 a_6 a_7 a_8 (0 : Int) 0 0 0 ([]) (r9.1.1.1 : Int) (r9.1.1.2.1 : Int) (r9.1.1.2.2.1 : Int) r9.1.1.2.2.2
theorem of (toArray_1 : Int) (toArray_2 : Int) (toArray_3 : Int) (toArray_4 : List Int) (a_5 : Int) (a_6 : Int) (a_7 : Int) (a_8 : List Int) {r : ((Int × Int × Int × List Int) × Unit) × (Unit)} (h : Ev (fun k => T k toArray_1 toArray_2 toArray_3 toArray_4 a_5 a_6 a_7 a_8) r) : F ((toArray_1, (toArray_2, (toArray_3, toArray_4))), (a_5, (a_6, (a_7, a_8))), ()) = some r := Ev.run (fun k => by kernel_rfl) h
theorem ok : CtxOK prog ctx := ⟨nilM, mixed_ok, tab_ok tab_good, consM ⟨spec_l03Zero.S, nilM⟩, nilM, nilM⟩
theorem S : Sound prog ⟨280, sig, F⟩ := sound_k (res := [.cell 4 87]) func280 ok
end spec_l03Times
namespace spec_l09Two
noncomputable def sig : Sig := ⟨[.rptr TSheaf, .val false (.int .i64), .val false (.int .i64), .val false (.int .i64)], [(.val true, TMatrix, .deep)]⟩
noncomputable def ctx : Ctx := ⟨tabOf tabl, [⟨115, spec_l05Faces.sig, spec_l05Faces.F⟩, ⟨222, spec_l09Get.sig, spec_l09Get.F⟩, ⟨280, spec_l03Times.sig, spec_l03Times.F⟩], [], [], [], []⟩
noncomputable def cfg : Cfg := ⟨ctx, [], [], fun _ => ([], []), fun _ => []⟩
noncomputable def code : Code := (f262).body.getD .skip
noncomputable def fin := finK ctx sig [.cell 8 87]
noncomputable def F (d : (List (List Int) × Int × List Int × List (Int × Int × Int × List Int)) × Int × Int × Int × Unit) : Option (((Int × Int × Int × List Int) × Unit) × (Unit)) := anyK (runFn cfg fin code (initSt sig.ps d 32))
noncomputable def T (s_1 : List (List Int)) (s_2 : Int) (s_3 : List Int) (s_4 : List (Int × Int × Int × List Int)) (simplex_5 : Int) (i_6 : Int) (j_7 : Int) : Option (((Int × Int × Int × List Int) × Unit) × (Unit)) :=
  (spec_l05Faces.F (s_1, simplex_5, ())).bind fun r8 =>
    if 0 ≤ i_6 ∧ i_6 < (r8.1.1.length : Int) then
      if (decide (j_7 > i_6)) = true then
        (spec_l09Get.F ((s_1, (s_2, (s_3, s_4))), simplex_5, i_6, ())).bind fun r9 =>
          (spec_l09Get.F ((s_1, (s_2, (s_3, s_4))), (r8.1.1.getD i_6.toNat 0 : Int), IntKind.i64.wrap (j_7 - (1 : Int)), ())).bind fun r10 =>
            (spec_l03Times.F (r9.1.1, r10.1.1, ())).bind fun r11 =>
              some ((r11.1.1, ()), ())
      else
        (spec_l09Get.F ((s_1, (s_2, (s_3, s_4))), simplex_5, i_6, ())).bind fun r12 =>
          (spec_l09Get.F ((s_1, (s_2, (s_3, s_4))), (r8.1.1.getD i_6.toNat 0 : Int), j_7, ())).bind fun r13 =>
            (spec_l03Times.F (r12.1.1, r13.1.1, ())).bind fun r14 =>
              some ((r14.1.1, ()), ())
    else
      none
theorem eq (s_1 : List (List Int)) (s_2 : Int) (s_3 : List Int) (s_4 : List (Int × Int × Int × List Int)) (simplex_5 : Int) (i_6 : Int) (j_7 : Int) : F ((s_1, (s_2, (s_3, s_4))), simplex_5, i_6, j_7, ()) = T s_1 s_2 s_3 s_4 simplex_5 i_6 j_7 := eq_any fun k => by kernel_rfl
theorem ok : CtxOK prog ctx := ⟨nilM, mixed_ok, tab_ok tab_good, consM ⟨spec_l05Faces.S, consM ⟨spec_l09Get.S, consM ⟨spec_l03Times.S, nilM⟩⟩⟩, nilM, nilM⟩
theorem S : Sound prog ⟨262, sig, F⟩ := sound_k (res := [.cell 8 87]) func262 ok
end spec_l09Two
namespace spec_l03Same
noncomputable def sig : Sig := ⟨[.rptr TMatrix, .rptr TMatrix], [(.val false, .bool, .deep)]⟩
noncomputable def ctx : Ctx := ⟨tabOf tabl, [], [], [], [], []⟩
noncomputable def cfg : Cfg := ⟨ctx, [], [], fun id => match id with | 4 => ([0, 1, 5], []) | _ => ([], []), fun _ => []⟩
noncomputable def code : Code := (f263).body.getD .skip
noncomputable def fin := finK ctx sig [.tmp 4]
noncomputable def F (d : (Int × Int × Int × List Int) × (Int × Int × Int × List Int) × Unit) : Option ((Bool × Unit) × (Unit)) := anyK (runFn cfg fin code (initSt sig.ps d 74))
noncomputable def l4 (k : Nat) (i9 : Int) (i10 : Int) (i11 : Int) (x12 : List Int) (i13 : Int) (i14 : Int) (i15 : Int) (x16 : List Int) (i17 : Int) : Option ((Bool × Unit) × (Unit)) :=
  Go.Vm.runT cfg fin k [.inLoop (sub [1, 1, 0, 1, 0, 0] code), .inBlock 0, .code (sub [1, 1, 1] code)]
    ⟨[.rptr false [⟨(.int .i64), .sh, i9⟩, ⟨(.int .i64), .sh, i10⟩, ⟨(.int .i64), .sh, i11⟩, ⟨(.sl (.int .i64)), .sh, x12⟩], .rptr false [⟨(.int .i64), .sh, i13⟩, ⟨(.int .i64), .sh, i14⟩, ⟨(.int .i64), .sh, i15⟩, ⟨(.sl (.int .i64)), .sh, x16⟩], .dead, .dead, .dead, .val false [⟨(.int .i64), .sh, i17⟩]] ++ deads 68, []⟩
theorem l4_eq (k : Nat) (i9 : Int) (i10 : Int) (i11 : Int) (x12 : List Int) (i13 : Int) (i14 : Int) (i15 : Int) (x16 : List Int) (i17 : Int) : l4 (k + 1) i9 i10 i11 x12 i13 i14 i15 x16 i17 =
  if (decide (i17 < (x12.length : Int))) = true then
    if 0 ≤ i17 ∧ i17 < (x12.length : Int) then
      if 0 ≤ i17 ∧ i17 < (x16.length : Int) then
        if ((x12.getD i17.toNat 0 : Int) != (x16.getD i17.toNat 0 : Int)) = true then
          some ((false, ()), ())
        else
          l4 k i9 i10 i11 x12 i13 i14 i15 x16 (IntKind.i64.wrap (i17 + (1 : Int)))
      else
        none
    else
      none
  else
    some ((true, ()), ()) := by kernel_rfl
noncomputable def T (k : Nat) (toArray_1 : Int) (toArray_2 : Int) (toArray_3 : Int) (toArray_4 : List Int) (a_5 : Int) (a_6 : Int) (a_7 : Int) (a_8 : List Int) : Option ((Bool × Unit) × (Unit)) :=
  if (toArray_1 != a_5) = true then
    some ((false, ()), ())
  else
    if (toArray_2 != a_6) = true then
      some ((false, ()), ())
    else
      if (toArray_3 != a_7) = true then
        some ((false, ()), ())
      else
        if ((toArray_4.length : Int) != (a_8.length : Int)) = true then
          some ((false, ()), ())
        else
          l4 k toArray_1 toArray_2 toArray_3 toArray_4 a_5 a_6 a_7 a_8 (0 : Int)
theorem of (toArray_1 : Int) (toArray_2 : Int) (toArray_3 : Int) (toArray_4 : List Int) (a_5 : Int) (a_6 : Int) (a_7 : Int) (a_8 : List Int) {r : (Bool × Unit) × (Unit)} (h : Ev (fun k => T k toArray_1 toArray_2 toArray_3 toArray_4 a_5 a_6 a_7 a_8) r) : F ((toArray_1, (toArray_2, (toArray_3, toArray_4))), (a_5, (a_6, (a_7, a_8))), ()) = some r := Ev.run (fun k => by kernel_rfl) h
theorem ok : CtxOK prog ctx := ⟨nilM, mixed_ok, tab_ok tab_good, nilM, nilM, nilM⟩
theorem S : Sound prog ⟨263, sig, F⟩ := sound_k (res := [.tmp 4]) func263 ok
end spec_l03Same
namespace spec_l09Wrong
noncomputable def sig : Sig := ⟨[.rptr TSheaf], [(.val false, (.int .i64), .deep), (.val false, (.int .i64), .deep), (.val false, (.int .i64), .deep)]⟩
noncomputable def ctx : Ctx := ⟨tabOf tabl, [⟨262, spec_l09Two.sig, spec_l09Two.F⟩, ⟨263, spec_l03Same.sig, spec_l03Same.F⟩], [], [], [], []⟩
noncomputable def cfg : Cfg := ⟨ctx, [], [], fun id => match id with | 2 => ([0, 5], []) | 6 => ([0, 5, 6, 7], []) | 9 => ([0, 5, 6, 7, 8], []) | _ => ([], []), fun _ => []⟩
noncomputable def code : Code := (f190).body.getD .skip
noncomputable def fin := finK ctx sig [.tmp 2, .tmp 3, .tmp 4]
noncomputable def F (d : (List (List Int) × Int × List Int × List (Int × Int × Int × List Int)) × Unit) : Option ((Int × Int × Int × Unit) × (Unit)) := anyK (runFn cfg fin code (initSt sig.ps d 61))
noncomputable def l2 (k : Nat) (x5 : List (List Int)) (i6 : Int) (x7 : List Int) (x8 : List (Int × Int × Int × List Int)) (i9 : Int) : Option ((Int × Int × Int × Unit) × (Unit)) :=
  Go.Vm.runT cfg fin k [.inLoop (sub [1, 0, 1, 0, 0] code), .inBlock 0, .code (sub [1, 1] code)]
    ⟨[.rptr false [⟨(.sl (.sl (.int .i64))), .sh, x5⟩, ⟨(.int .i64), .sh, i6⟩, ⟨(.sl (.int .i64)), .sh, x7⟩, ⟨(.sl TMatrix), .sh, x8⟩], .dead, .dead, .dead, .dead, .val false [⟨(.int .i64), .sh, i9⟩]] ++ deads 55, []⟩
noncomputable def l6 (k : Nat) (x10 : List (List Int)) (i11 : Int) (x12 : List Int) (x13 : List (Int × Int × Int × List Int)) (i14 : Int) (i15 : Int) (i16 : Int) : Option ((Int × Int × Int × Unit) × (Unit)) :=
  Go.Vm.runT cfg fin k [.inLoop (sub [1, 0, 1, 0, 0, 1, 0, 0, 1, 1, 0, 0] code), .inBlock 2, .inBlock 1, .code (sub [1, 0, 1, 0, 0, 1, 1] code), .inLoop (sub [1, 0, 1, 0, 0] code), .inBlock 0, .code (sub [1, 1] code)]
    ⟨[.rptr false [⟨(.sl (.sl (.int .i64))), .sh, x10⟩, ⟨(.int .i64), .sh, i11⟩, ⟨(.sl (.int .i64)), .sh, x12⟩, ⟨(.sl TMatrix), .sh, x13⟩], .dead, .dead, .dead, .dead, .val false [⟨(.int .i64), .sh, i14⟩], .val false [⟨(.int .i64), .sh, i15⟩], .val false [⟨(.int .i64), .sh, i16⟩]] ++ deads 53, []⟩
noncomputable def l9 (k : Nat) (x17 : List (List Int)) (i18 : Int) (x19 : List Int) (x20 : List (Int × Int × Int × List Int)) (i21 : Int) (i22 : Int) (i23 : Int) (i24 : Int) : Option ((Int × Int × Int × Unit) × (Unit)) :=
  Go.Vm.runT cfg fin k [.inLoop (sub [1, 0, 1, 0, 0, 1, 0, 0, 1, 1, 0, 0, 1, 0, 0, 1, 0, 0] code), .inBlock 4, .inBlock 3, .code (sub [1, 0, 1, 0, 0, 1, 0, 0, 1, 1, 0, 0, 1, 1] code), .inLoop (sub [1, 0, 1, 0, 0, 1, 0, 0, 1, 1, 0, 0] code), .inBlock 2, .inBlock 1, .code (sub [1, 0, 1, 0, 0, 1, 1] code), .inLoop (sub [1, 0, 1, 0, 0] code), .inBlock 0, .code (sub [1, 1] code)]
    ⟨[.rptr false [⟨(.sl (.sl (.int .i64))), .sh, x17⟩, ⟨(.int .i64), .sh, i18⟩, ⟨(.sl (.int .i64)), .sh, x19⟩, ⟨(.sl TMatrix), .sh, x20⟩], .dead, .dead, .dead, .dead, .val false [⟨(.int .i64), .sh, i21⟩], .val false [⟨(.int .i64), .sh, i22⟩], .val false [⟨(.int .i64), .sh, i23⟩], .val false [⟨(.int .i64), .sh, i24⟩]] ++ deads 52, []⟩
theorem l2_eq (k : Nat) (x5 : List (List Int)) (i6 : Int) (x7 : List Int) (x8 : List (Int × Int × Int × List Int)) (i9 : Int) : l2 (k + 1) x5 i6 x7 x8 i9 =
  if (decide (i9 < (x5.length : Int))) = true then
    if 0 ≤ i9 ∧ i9 < (x5.length : Int) then
      l6 k x5 i6 x7 x8 i9 ((x5.getD i9.toNat ([] : List Int)).length : Int) (0 : Int)
    else
      none
  else
    some (((-1 : Int), ((0 : Int), ((0 : Int), ()))), ()) := by kernel_rfl
theorem l6_eq (k : Nat) (x10 : List (List Int)) (i11 : Int) (x12 : List Int) (x13 : List (Int × Int × Int × List Int)) (i14 : Int) (i15 : Int) (i16 : Int) : l6 (k + 1) x10 i11 x12 x13 i14 i15 i16 =
  if (decide (i16 < i15)) = true then
    if (decide (i15 > (2 : Int))) = true then
      l9 k x10 i11 x12 x13 i14 i15 i16 (IntKind.i64.wrap (i16 + (1 : Int)))
    else
      l2 k x10 i11 x12 x13 (IntKind.i64.wrap (i14 + (1 : Int)))
  else
    l2 k x10 i11 x12 x13 (IntKind.i64.wrap (i14 + (1 : Int))) := by kernel_rfl
theorem l9_eq (k : Nat) (x17 : List (List Int)) (i18 : Int) (x19 : List Int) (x20 : List (Int × Int × Int × List Int)) (i21 : Int) (i22 : Int) (i23 : Int) (i24 : Int) : l9 (k + 1) x17 i18 x19 x20 i21 i22 i23 i24 =
  if (decide (i24 < i22)) = true then
    (spec_l09Two.F ((x17, (i18, (x19, x20))), i21, i23, i24, ())).bind fun r25 =>
      (spec_l09Two.F ((x17, (i18, (x19, x20))), i21, i24, i23, ())).bind fun r26 =>
        (spec_l03Same.F (r25.1.1, r26.1.1, ())).bind fun r27 =>
          if (!(r27.1.1 : Bool)) = true then
            some ((i21, (i23, (i24, ()))), ())
          else
            l9 k x17 i18 x19 x20 i21 i22 i23 (IntKind.i64.wrap (i24 + (1 : Int)))
  else
    l6 k x17 i18 x19 x20 i21 i22 (IntKind.i64.wrap (i23 + (1 : Int))) := by kernel_rfl
noncomputable def T (k : Nat) (s_1 : List (List Int)) (s_2 : Int) (s_3 : List Int) (s_4 : List (Int × Int × Int × List Int)) : Option ((Int × Int × Int × Unit) × (Unit)) :=
  l2 k s_1 s_2 s_3 s_4 (0 : Int)
theorem of (s_1 : List (List Int)) (s_2 : Int) (s_3 : List Int) (s_4 : List (Int × Int × Int × List Int)) {r : (Int × Int × Int × Unit) × (Unit)} (h : Ev (fun k => T k s_1 s_2 s_3 s_4) r) : F ((s_1, (s_2, (s_3, s_4))), ()) = some r := Ev.run (fun k => by kernel_rfl) h
theorem ok : CtxOK prog ctx := ⟨nilM, mixed_ok, tab_ok tab_good, consM ⟨spec_l09Two.S, consM ⟨spec_l03Same.S, nilM⟩⟩, nilM, nilM⟩
theorem S : Sound prog ⟨190, sig, F⟩ := sound_k (res := [.tmp 2, .tmp 3, .tmp 4]) func190 ok
end spec_l09Wrong
namespace spec_l09Is
noncomputable def sig : Sig := ⟨[.rptr TSheaf], [(.val false, .bool, .deep)]⟩
noncomputable def ctx : Ctx := ⟨tabOf tabl, [⟨189, spec_l09Ok.sig, spec_l09Ok.F⟩, ⟨190, spec_l09Wrong.sig, spec_l09Wrong.F⟩], [], [], [], []⟩
noncomputable def cfg : Cfg := ⟨ctx, [], [], fun _ => ([], []), fun _ => []⟩
noncomputable def code : Code := (f98).body.getD .skip
noncomputable def fin := finK ctx sig [.tmp 2]
noncomputable def F (d : (List (List Int) × Int × List Int × List (Int × Int × Int × List Int)) × Unit) : Option ((Bool × Unit) × (Unit)) := anyK (runFn cfg fin code (initSt sig.ps d 17))
noncomputable def T (s_1 : List (List Int)) (s_2 : Int) (s_3 : List Int) (s_4 : List (Int × Int × Int × List Int)) : Option ((Bool × Unit) × (Unit)) :=
  (spec_l09Ok.F ((s_1, (s_2, (s_3, s_4))), ())).bind fun r5 =>
    if (!(r5.1.1 : Bool)) = true then
      some ((false, ()), ())
    else
      (spec_l09Wrong.F ((s_1, (s_2, (s_3, s_4))), ())).bind fun r6 =>
        some ((decide ((r6.1.1 : Int) < (0 : Int)), ()), ())
theorem eq (s_1 : List (List Int)) (s_2 : Int) (s_3 : List Int) (s_4 : List (Int × Int × Int × List Int)) : F ((s_1, (s_2, (s_3, s_4))), ()) = T s_1 s_2 s_3 s_4 := eq_any fun k => by kernel_rfl
theorem ok : CtxOK prog ctx := ⟨nilM, mixed_ok, tab_ok tab_good, consM ⟨spec_l09Ok.S, consM ⟨spec_l09Wrong.S, nilM⟩⟩, nilM, nilM⟩
theorem S : Sound prog ⟨98, sig, F⟩ := sound_k (res := [.tmp 2]) func98 ok
end spec_l09Is
namespace spec_l05Same
noncomputable def sig : Sig := ⟨[.rptr (.sl (.sl (.int .i64))), .rptr (.sl (.sl (.int .i64)))], [(.val false, .bool, .deep)]⟩
noncomputable def ctx : Ctx := ⟨tabOf tabl, [⟨191, spec_l00Same.sig, spec_l00Same.F⟩], [], [], [], []⟩
noncomputable def cfg : Cfg := ⟨ctx, [], [], fun id => match id with | 4 => ([0, 1, 5], []) | _ => ([], []), fun _ => []⟩
noncomputable def code : Code := (f128).body.getD .skip
noncomputable def fin := finK ctx sig [.tmp 4]
noncomputable def F (d : List (List Int) × List (List Int) × Unit) : Option ((Bool × Unit) × (Unit)) := anyK (runFn cfg fin code (initSt sig.ps d 42))
noncomputable def l4 (k : Nat) (x3 : List (List Int)) (x4 : List (List Int)) (i5 : Int) : Option ((Bool × Unit) × (Unit)) :=
  Go.Vm.runT cfg fin k [.inLoop (sub [1, 1, 0, 1, 0, 0] code), .inBlock 0, .code (sub [1, 1, 1] code)]
    ⟨[.rptr false [⟨(.sl (.sl (.int .i64))), .sh, x3⟩], .rptr false [⟨(.sl (.sl (.int .i64))), .sh, x4⟩], .dead, .dead, .dead, .val false [⟨(.int .i64), .sh, i5⟩]] ++ deads 36, []⟩
theorem l4_eq (k : Nat) (x3 : List (List Int)) (x4 : List (List Int)) (i5 : Int) : l4 (k + 1) x3 x4 i5 =
  if (decide (i5 < (x3.length : Int))) = true then
    if 0 ≤ i5 ∧ i5 < (x3.length : Int) then
      if 0 ≤ i5 ∧ i5 < (x4.length : Int) then
        (spec_l00Same.F (x3.getD i5.toNat ([] : List Int), x4.getD i5.toNat ([] : List Int), ())).bind fun r6 =>
          if (!(r6.1.1 : Bool)) = true then
            some ((false, ()), ())
          else
            l4 k x3 x4 (IntKind.i64.wrap (i5 + (1 : Int)))
      else
        none
    else
      none
  else
    some ((true, ()), ()) := by kernel_rfl
noncomputable def T (k : Nat) (a_1 : List (List Int)) (b_2 : List (List Int)) : Option ((Bool × Unit) × (Unit)) :=
  if ((a_1.length : Int) != (b_2.length : Int)) = true then
    some ((false, ()), ())
  else
    l4 k a_1 b_2 (0 : Int)
theorem of (a_1 : List (List Int)) (b_2 : List (List Int)) {r : (Bool × Unit) × (Unit)} (h : Ev (fun k => T k a_1 b_2) r) : F (a_1, b_2, ()) = some r := Ev.run (fun k => by kernel_rfl) h
theorem ok : CtxOK prog ctx := ⟨nilM, mixed_ok, tab_ok tab_good, consM ⟨spec_l00Same.S, nilM⟩, nilM, nilM⟩
theorem S : Sound prog ⟨128, sig, F⟩ := sound_k (res := [.tmp 4]) func128 ok
end spec_l05Same
namespace spec_l05Skeleton
noncomputable def sig : Sig := ⟨[.rptr (.sl (.sl (.int .i64))), .val false (.int .i64)], [(.val true, (.sl (.sl (.int .i64))), .deep)]⟩
noncomputable def ctx : Ctx := ⟨tabOf tabl, [⟨152, spec_l00Own.sig, spec_l00Own.F⟩], [], [], [], []⟩
noncomputable def cfg : Cfg := ⟨ctx, [], [], fun id => match id with | 3 => ([0, 1, 4, 5, 6], [16, 20]) | _ => ([], []), fun _ => []⟩
noncomputable def code : Code := (f151).body.getD .skip
noncomputable def fin := finK ctx sig [.cell 4 32]
noncomputable def F (d : List (List Int) × Int × Unit) : Option ((List (List Int) × Unit) × (Unit)) := anyK (runFn cfg fin code (initSt sig.ps d 43))
noncomputable def l3 (k : Nat) (x3 : List (List Int)) (i4 : Int) (i5 : Int) (x6 : List (List Int)) (x7 : List (List Int)) : Option ((List (List Int) × Unit) × (Unit)) :=
  Go.Vm.runT cfg fin k [.inLoop (sub [1, 1, 0, 1, 0, 0] code), .inBlock 0, .code (sub [1, 1, 1] code)]
    ⟨[.rptr false [⟨(.sl (.sl (.int .i64))), .sh, x3⟩], .val false [⟨(.int .i64), .sh, i4⟩], .dead, .dead, .ref 16 (.root 0), .ref 20 (.root 0), .val false [⟨(.int .i64), .sh, i5⟩]] ++ deads 36, [(16, ⟨true, [⟨(.sl (.sl (.int .i64))), .deep, x6⟩]⟩), (20, ⟨true, [⟨(.sl (.sl (.int .i64))), .deep, x7⟩]⟩)]⟩
theorem l3_eq (k : Nat) (x3 : List (List Int)) (i4 : Int) (i5 : Int) (x6 : List (List Int)) (x7 : List (List Int)) : l3 (k + 1) x3 i4 i5 x6 x7 =
  if (decide (i5 < (x3.length : Int))) = true then
    if 0 ≤ i5 ∧ i5 < (x3.length : Int) then
      if (decide (((x3.getD i5.toNat ([] : List Int)).length : Int) ≤ (IntKind.i64.wrap (i4 + (1 : Int))))) = true then
        if 0 ≤ i5 ∧ i5 < (x3.length : Int) then
          (spec_l00Own.F (x3.getD i5.toNat ([] : List Int), ())).bind fun r8 =>
            if x7.length + ([r8.1.1] : List (List Int)).length ≤ bigA then
              l3 k x3 i4 (IntKind.i64.wrap (i5 + (1 : Int))) x6 (x7 ++ ([r8.1.1]))
            else
              none
        else
          none
      else
        l3 k x3 i4 (IntKind.i64.wrap (i5 + (1 : Int))) x6 x7
    else
      none
  else
    some ((x7, ()), ()) := by kernel_rfl
noncomputable def T (k : Nat) (c_1 : List (List Int)) (dimension_2 : Int) : Option ((List (List Int) × Unit) × (Unit)) :=
  l3 k c_1 dimension_2 (0 : Int) ([] : List (List Int)) ([] : List (List Int))
theorem of (c_1 : List (List Int)) (dimension_2 : Int) {r : (List (List Int) × Unit) × (Unit)} (h : Ev (fun k => T k c_1 dimension_2) r) : F (c_1, dimension_2, ()) = some r := Ev.run (fun k => by kernel_rfl) h
theorem ok : CtxOK prog ctx := ⟨nilM, mixed_ok, tab_ok tab_good, consM ⟨spec_l00Own.S, nilM⟩, nilM, nilM⟩
theorem S : Sound prog ⟨151, sig, F⟩ := sound_k (res := [.cell 4 32]) func151 ok
end spec_l05Skeleton
namespace spec_l09New
noncomputable def sig : Sig := ⟨[.rptr (.sl (.sl (.int .i64))), .val false (.int .i64), .val false (.sl (.int .i64))], [(.val true, TSheaf, .deep)]⟩
noncomputable def ctx : Ctx := ⟨tabOf tabl, [⟨115, spec_l05Faces.sig, spec_l05Faces.F⟩, ⟨151, spec_l05Skeleton.sig, spec_l05Skeleton.F⟩, ⟨152, spec_l00Own.sig, spec_l00Own.F⟩, ⟨207, spec_l03Zero.sig, spec_l03Zero.F⟩], [], [], [], []⟩
noncomputable def cfg : Cfg := ⟨ctx, [], [], fun id => match id with | 3 => ([0, 1, 2, 6, 7, 8], [24, 28]) | 7 => ([0, 1, 2, 6, 7, 8, 9, 10], [24, 28, 36]) | _ => ([], []), fun _ => []⟩
noncomputable def code : Code := (f130).body.getD .skip
noncomputable def fin := finK ctx sig [.cell 6 46]
noncomputable def F (d : List (List Int) × Int × List Int × Unit) : Option (((List (List Int) × Int × List Int × List (Int × Int × Int × List Int)) × Unit) × (Unit)) := anyK (runFn cfg fin code (initSt sig.ps d 55))
noncomputable def l3 (k : Nat) (x6 : List (List Int)) (i7 : Int) (x8 : List Int) (i9 : Int) (x10 : List (List Int)) (i11 : Int) (x12 : List Int) (x13 : List (Int × Int × Int × List Int)) (x14 : List (List Int)) (i15 : Int) (x16 : List Int) (x17 : List (Int × Int × Int × List Int)) : Option (((List (List Int) × Int × List Int × List (Int × Int × Int × List Int)) × Unit) × (Unit)) :=
  Go.Vm.runT cfg fin k [.inLoop (sub [1, 1, 0, 1, 0, 0] code), .inBlock 0, .code (sub [1, 1, 1] code)]
    ⟨[.rptr false [⟨(.sl (.sl (.int .i64))), .sh, x6⟩], .val false [⟨(.int .i64), .sh, i7⟩], .val false [⟨(.sl (.int .i64)), .sh, x8⟩], .dead, .dead, .dead, .ref 24 (.root 0), .ref 28 (.root 0), .val false [⟨(.int .i64), .sh, i9⟩]] ++ deads 46, [(24, ⟨true, [⟨(.sl (.sl (.int .i64))), .deep, x10⟩, ⟨(.int .i64), .sh, i11⟩, ⟨(.sl (.int .i64)), .deep, x12⟩, ⟨(.sl TMatrix), .deep, x13⟩]⟩), (28, ⟨true, [⟨(.sl (.sl (.int .i64))), .deep, x14⟩, ⟨(.int .i64), .sh, i15⟩, ⟨(.sl (.int .i64)), .deep, x16⟩, ⟨(.sl TMatrix), .deep, x17⟩]⟩)]⟩
noncomputable def l7 (k : Nat) (x19 : List (List Int)) (i20 : Int) (x21 : List Int) (i22 : Int) (i23 : Int) (x24 : List (List Int)) (i25 : Int) (x26 : List Int) (x27 : List (Int × Int × Int × List Int)) (x28 : List (List Int)) (i29 : Int) (x30 : List Int) (x31 : List (Int × Int × Int × List Int)) (x32 : List Int) : Option (((List (List Int) × Int × List Int × List (Int × Int × Int × List Int)) × Unit) × (Unit)) :=
  Go.Vm.runT cfg fin k [.inLoop (sub [1, 1, 0, 1, 0, 0, 1, 0, 0, 1, 1, 0, 0] code), .inBlock 2, .inBlock 1, .code (sub [1, 1, 0, 1, 0, 0, 1, 1] code), .inLoop (sub [1, 1, 0, 1, 0, 0] code), .inBlock 0, .code (sub [1, 1, 1] code)]
    ⟨[.rptr false [⟨(.sl (.sl (.int .i64))), .sh, x19⟩], .val false [⟨(.int .i64), .sh, i20⟩], .val false [⟨(.sl (.int .i64)), .sh, x21⟩], .dead, .dead, .dead, .ref 24 (.root 0), .ref 28 (.root 0), .val false [⟨(.int .i64), .sh, i22⟩], .view 36 (.root 0) 1 false, .val false [⟨(.int .i64), .sh, i23⟩]] ++ deads 44, [(24, ⟨true, [⟨(.sl (.sl (.int .i64))), .deep, x24⟩, ⟨(.int .i64), .sh, i25⟩, ⟨(.sl (.int .i64)), .deep, x26⟩, ⟨(.sl TMatrix), .deep, x27⟩]⟩), (28, ⟨true, [⟨(.sl (.sl (.int .i64))), .deep, x28⟩, ⟨(.int .i64), .sh, i29⟩, ⟨(.sl (.int .i64)), .deep, x30⟩, ⟨(.sl TMatrix), .deep, x31⟩]⟩), (36, ⟨false, [⟨(.sl (.int .i64)), .deep, x32⟩]⟩)]⟩
theorem l3_eq (k : Nat) (x6 : List (List Int)) (i7 : Int) (x8 : List Int) (i9 : Int) (x10 : List (List Int)) (i11 : Int) (x12 : List Int) (x13 : List (Int × Int × Int × List Int)) (x14 : List (List Int)) (i15 : Int) (x16 : List Int) (x17 : List (Int × Int × Int × List Int)) : l3 (k + 1) x6 i7 x8 i9 x10 i11 x12 x13 x14 i15 x16 x17 =
  if (decide (i9 < (x6.length : Int))) = true then
    (spec_l05Faces.F (x6, i9, ())).bind fun r18 =>
      l7 k x6 i7 x8 i9 (0 : Int) x10 i11 x12 x13 x14 i15 x16 x17 r18.1.1
  else
    some (((x14, (i15, (x16, x17))), ()), ()) := by kernel_rfl
theorem l7_eq (k : Nat) (x19 : List (List Int)) (i20 : Int) (x21 : List Int) (i22 : Int) (i23 : Int) (x24 : List (List Int)) (i25 : Int) (x26 : List Int) (x27 : List (Int × Int × Int × List Int)) (x28 : List (List Int)) (i29 : Int) (x30 : List Int) (x31 : List (Int × Int × Int × List Int)) (x32 : List Int) : l7 (k + 1) x19 i20 x21 i22 i23 x24 i25 x26 x27 x28 i29 x30 x31 x32 =
  if (decide (i23 < (x32.length : Int))) = true then
    if 0 ≤ i22 ∧ i22 < (x21.length : Int) then
      if 0 ≤ i23 ∧ i23 < (x32.length : Int) then
        if 0 ≤ (x32.getD i23.toNat 0 : Int) ∧ (x32.getD i23.toNat 0 : Int) < (x21.length : Int) then
          (spec_l03Zero.F (i20, (x21.getD i22.toNat 0 : Int), x21.getD (x32.getD i23.toNat 0 : Int).toNat 0, ())).bind fun r33 =>
            if x31.length + ([r33.1.1] : List (Int × Int × Int × List Int)).length ≤ bigA then
              l7 k x19 i20 x21 i22 (IntKind.i64.wrap (i23 + (1 : Int))) x24 i25 x26 x27 x28 i29 x30 (x31 ++ ([r33.1.1])) x32
            else
              none
        else
          none
      else
        none
    else
      none
  else
    l3 k x19 i20 x21 (IntKind.i64.wrap (i22 + (1 : Int))) x24 i25 x26 x27 x28 i29 x30 x31 := by kernel_rfl
noncomputable def T (k : Nat) (c_1 : List (List Int)) (p_2 : Int) (stalks_3 : List Int) : Option (((List (List Int) × Int × List Int × List (Int × Int × Int × List Int)) × Unit) × (Unit)) :=
  (spec_l05Skeleton.F (c_1, (3 : Int), ())).bind fun r4 =>
    (spec_l00Own.F (stalks_3, ())).bind fun r5 =>
      l3 k c_1 p_2 stalks_3 (0 : Int) ([]) 0 ([]) ([]) r4.1.1 p_2 r5.1.1 ([] : List (Int × Int × Int × List Int))
theorem of (c_1 : List (List Int)) (p_2 : Int) (stalks_3 : List Int) {r : ((List (List Int) × Int × List Int × List (Int × Int × Int × List Int)) × Unit) × (Unit)} (h : Ev (fun k => T k c_1 p_2 stalks_3) r) : F (c_1, p_2, stalks_3, ()) = some r := Ev.run (fun k => by kernel_rfl) h
theorem ok : CtxOK prog ctx := ⟨nilM, mixed_ok, tab_ok tab_good, consM ⟨spec_l05Faces.S, consM ⟨spec_l05Skeleton.S, consM ⟨spec_l00Own.S, consM ⟨spec_l03Zero.S, nilM⟩⟩⟩⟩, nilM, nilM⟩
theorem S : Sound prog ⟨130, sig, F⟩ := sound_k (res := [.cell 6 46]) func130 ok
end spec_l09New
namespace spec_l13Both
noncomputable def sig : Sig := ⟨[.rptr TMatrix, .rptr TMatrix], [(.val true, TMatrix, .deep)]⟩
noncomputable def ctx : Ctx := ⟨tabOf tabl, [⟨207, spec_l03Zero.sig, spec_l03Zero.F⟩], [], [], [], []⟩
noncomputable def cfg : Cfg := ⟨ctx, [], [], fun id => match id with | 3 => ([0, 1, 4, 5, 6], [16, 20]) | 6 => ([0, 1, 4, 5, 6, 7], [16, 20]) | 10 => ([0, 1, 4, 5, 8], [16, 20]) | 13 => ([0, 1, 4, 5, 8, 9], [16, 20]) | _ => ([], []), fun _ => []⟩
noncomputable def code : Code := (f131).body.getD .skip
noncomputable def fin := finK ctx sig [.cell 4 87]
noncomputable def F (d : (Int × Int × Int × List Int) × (Int × Int × Int × List Int) × Unit) : Option (((Int × Int × Int × List Int) × Unit) × (Unit)) := anyK (runFn cfg fin code (initSt sig.ps d 122))
noncomputable def l3 (k : Nat) (i10 : Int) (i11 : Int) (i12 : Int) (x13 : List Int) (i14 : Int) (i15 : Int) (i16 : Int) (x17 : List Int) (i18 : Int) (i19 : Int) (i20 : Int) (i21 : Int) (x22 : List Int) (i23 : Int) (i24 : Int) (i25 : Int) (x26 : List Int) : Option (((Int × Int × Int × List Int) × Unit) × (Unit)) :=
  Go.Vm.runT cfg fin k [.inLoop (sub [1, 1, 0, 1, 0, 0] code), .inBlock 0, .code (sub [1, 1, 1] code)]
    ⟨[.rptr false [⟨(.int .i64), .sh, i10⟩, ⟨(.int .i64), .sh, i11⟩, ⟨(.int .i64), .sh, i12⟩, ⟨(.sl (.int .i64)), .sh, x13⟩], .rptr false [⟨(.int .i64), .sh, i14⟩, ⟨(.int .i64), .sh, i15⟩, ⟨(.int .i64), .sh, i16⟩, ⟨(.sl (.int .i64)), .sh, x17⟩], .dead, .dead, .ref 16 (.root 0), .ref 20 (.root 0), .val false [⟨(.int .i64), .sh, i18⟩]] ++ deads 115, [(16, ⟨true, [⟨(.int .i64), .sh, i19⟩, ⟨(.int .i64), .sh, i20⟩, ⟨(.int .i64), .sh, i21⟩, ⟨(.sl (.int .i64)), .deep, x22⟩]⟩), (20, ⟨true, [⟨(.int .i64), .sh, i23⟩, ⟨(.int .i64), .sh, i24⟩, ⟨(.int .i64), .sh, i25⟩, ⟨(.sl (.int .i64)), .deep, x26⟩]⟩)]⟩
noncomputable def l6 (k : Nat) (i27 : Int) (i28 : Int) (i29 : Int) (x30 : List Int) (i31 : Int) (i32 : Int) (i33 : Int) (x34 : List Int) (i35 : Int) (i36 : Int) (i37 : Int) (i38 : Int) (i39 : Int) (x40 : List Int) (i41 : Int) (i42 : Int) (i43 : Int) (x44 : List Int) : Option (((Int × Int × Int × List Int) × Unit) × (Unit)) :=
  Go.Vm.runT cfg fin k [.inLoop (sub [1, 1, 0, 1, 0, 0, 1, 0, 0, 1, 0, 0] code), .inBlock 2, .inBlock 1, .code (sub [1, 1, 0, 1, 0, 0, 1, 1] code), .inLoop (sub [1, 1, 0, 1, 0, 0] code), .inBlock 0, .code (sub [1, 1, 1] code)]
    ⟨[.rptr false [⟨(.int .i64), .sh, i27⟩, ⟨(.int .i64), .sh, i28⟩, ⟨(.int .i64), .sh, i29⟩, ⟨(.sl (.int .i64)), .sh, x30⟩], .rptr false [⟨(.int .i64), .sh, i31⟩, ⟨(.int .i64), .sh, i32⟩, ⟨(.int .i64), .sh, i33⟩, ⟨(.sl (.int .i64)), .sh, x34⟩], .dead, .dead, .ref 16 (.root 0), .ref 20 (.root 0), .val false [⟨(.int .i64), .sh, i35⟩], .val false [⟨(.int .i64), .sh, i36⟩]] ++ deads 114, [(16, ⟨true, [⟨(.int .i64), .sh, i37⟩, ⟨(.int .i64), .sh, i38⟩, ⟨(.int .i64), .sh, i39⟩, ⟨(.sl (.int .i64)), .deep, x40⟩]⟩), (20, ⟨true, [⟨(.int .i64), .sh, i41⟩, ⟨(.int .i64), .sh, i42⟩, ⟨(.int .i64), .sh, i43⟩, ⟨(.sl (.int .i64)), .deep, x44⟩]⟩)]⟩
noncomputable def l10 (k : Nat) (i46 : Int) (i47 : Int) (i48 : Int) (x49 : List Int) (i50 : Int) (i51 : Int) (i52 : Int) (x53 : List Int) (i54 : Int) (i55 : Int) (i56 : Int) (i57 : Int) (x58 : List Int) (i59 : Int) (i60 : Int) (i61 : Int) (x62 : List Int) : Option (((Int × Int × Int × List Int) × Unit) × (Unit)) :=
  Go.Vm.runT cfg fin k [.inLoop (sub [1, 1, 1, 0, 1, 0, 0] code), .inBlock 4, .code (sub [1, 1, 1, 1] code)]
    ⟨[.rptr false [⟨(.int .i64), .sh, i46⟩, ⟨(.int .i64), .sh, i47⟩, ⟨(.int .i64), .sh, i48⟩, ⟨(.sl (.int .i64)), .sh, x49⟩], .rptr false [⟨(.int .i64), .sh, i50⟩, ⟨(.int .i64), .sh, i51⟩, ⟨(.int .i64), .sh, i52⟩, ⟨(.sl (.int .i64)), .sh, x53⟩], .dead, .dead, .ref 16 (.root 0), .ref 20 (.root 0), .dead, .dead, .val false [⟨(.int .i64), .sh, i54⟩]] ++ deads 113, [(16, ⟨true, [⟨(.int .i64), .sh, i55⟩, ⟨(.int .i64), .sh, i56⟩, ⟨(.int .i64), .sh, i57⟩, ⟨(.sl (.int .i64)), .deep, x58⟩]⟩), (20, ⟨true, [⟨(.int .i64), .sh, i59⟩, ⟨(.int .i64), .sh, i60⟩, ⟨(.int .i64), .sh, i61⟩, ⟨(.sl (.int .i64)), .deep, x62⟩]⟩)]⟩
noncomputable def l13 (k : Nat) (i63 : Int) (i64 : Int) (i65 : Int) (x66 : List Int) (i67 : Int) (i68 : Int) (i69 : Int) (x70 : List Int) (i71 : Int) (i72 : Int) (i73 : Int) (i74 : Int) (i75 : Int) (x76 : List Int) (i77 : Int) (i78 : Int) (i79 : Int) (x80 : List Int) : Option (((Int × Int × Int × List Int) × Unit) × (Unit)) :=
  Go.Vm.runT cfg fin k [.inLoop (sub [1, 1, 1, 0, 1, 0, 0, 1, 0, 0, 1, 0, 0] code), .inBlock 6, .inBlock 5, .code (sub [1, 1, 1, 0, 1, 0, 0, 1, 1] code), .inLoop (sub [1, 1, 1, 0, 1, 0, 0] code), .inBlock 4, .code (sub [1, 1, 1, 1] code)]
    ⟨[.rptr false [⟨(.int .i64), .sh, i63⟩, ⟨(.int .i64), .sh, i64⟩, ⟨(.int .i64), .sh, i65⟩, ⟨(.sl (.int .i64)), .sh, x66⟩], .rptr false [⟨(.int .i64), .sh, i67⟩, ⟨(.int .i64), .sh, i68⟩, ⟨(.int .i64), .sh, i69⟩, ⟨(.sl (.int .i64)), .sh, x70⟩], .dead, .dead, .ref 16 (.root 0), .ref 20 (.root 0), .dead, .dead, .val false [⟨(.int .i64), .sh, i71⟩], .val false [⟨(.int .i64), .sh, i72⟩]] ++ deads 112, [(16, ⟨true, [⟨(.int .i64), .sh, i73⟩, ⟨(.int .i64), .sh, i74⟩, ⟨(.int .i64), .sh, i75⟩, ⟨(.sl (.int .i64)), .deep, x76⟩]⟩), (20, ⟨true, [⟨(.int .i64), .sh, i77⟩, ⟨(.int .i64), .sh, i78⟩, ⟨(.int .i64), .sh, i79⟩, ⟨(.sl (.int .i64)), .deep, x80⟩]⟩)]⟩
theorem l3_eq (k : Nat) (i10 : Int) (i11 : Int) (i12 : Int) (x13 : List Int) (i14 : Int) (i15 : Int) (i16 : Int) (x17 : List Int) (i18 : Int) (i19 : Int) (i20 : Int) (i21 : Int) (x22 : List Int) (i23 : Int) (i24 : Int) (i25 : Int) (x26 : List Int) : l3 (k + 1) i10 i11 i12 x13 i14 i15 i16 x17 i18 i19 i20 i21 x22 i23 i24 i25 x26 =
  if (decide (i18 < i11)) = true then
    l6 k i10 i11 i12 x13 i14 i15 i16 x17 i18 (0 : Int) i19 i20 i21 x22 i23 i24 i25 x26
  else
    l10 k i10 i11 i12 x13 i14 i15 i16 x17 (0 : Int) i19 i20 i21 x22 i23 i24 i25 x26 := by kernel_rfl
theorem l6_eq (k : Nat) (i27 : Int) (i28 : Int) (i29 : Int) (x30 : List Int) (i31 : Int) (i32 : Int) (i33 : Int) (x34 : List Int) (i35 : Int) (i36 : Int) (i37 : Int) (i38 : Int) (i39 : Int) (x40 : List Int) (i41 : Int) (i42 : Int) (i43 : Int) (x44 : List Int) : l6 (k + 1) i27 i28 i29 x30 i31 i32 i33 x34 i35 i36 i37 i38 i39 x40 i41 i42 i43 x44 =
  if (decide (i36 < i29)) = true then
    if 0 ≤ (IntKind.i64.wrap ((IntKind.i64.wrap (i35 * i29)) + i36)) ∧ (IntKind.i64.wrap ((IntKind.i64.wrap (i35 * i29)) + i36)) < (x30.length : Int) then
      if 0 ≤ (IntKind.i64.wrap ((IntKind.i64.wrap (i35 * i43)) + i36)) ∧ (IntKind.i64.wrap ((IntKind.i64.wrap (i35 * i43)) + i36)) < (x44.length : Int) then
        let y45 : List Int := x44.set (IntKind.i64.wrap ((IntKind.i64.wrap (i35 * i43)) + i36)).toNat (x30.getD (IntKind.i64.wrap ((IntKind.i64.wrap (i35 * i29)) + i36)).toNat 0 : Int)
        l6 k i27 i28 i29 x30 i31 i32 i33 x34 i35 (IntKind.i64.wrap (i36 + (1 : Int))) i37 i38 i39 x40 i41 i42 i43 y45
      else
        none
    else
      none
  else
    l3 k i27 i28 i29 x30 i31 i32 i33 x34 (IntKind.i64.wrap (i35 + (1 : Int))) i37 i38 i39 x40 i41 i42 i43 x44 := by kernel_rfl
theorem l10_eq (k : Nat) (i46 : Int) (i47 : Int) (i48 : Int) (x49 : List Int) (i50 : Int) (i51 : Int) (i52 : Int) (x53 : List Int) (i54 : Int) (i55 : Int) (i56 : Int) (i57 : Int) (x58 : List Int) (i59 : Int) (i60 : Int) (i61 : Int) (x62 : List Int) : l10 (k + 1) i46 i47 i48 x49 i50 i51 i52 x53 i54 i55 i56 i57 x58 i59 i60 i61 x62 =
  if (decide (i54 < i51)) = true then
    l13 k i46 i47 i48 x49 i50 i51 i52 x53 i54 (0 : Int) i55 i56 i57 x58 i59 i60 i61 x62
  else
    some (((i59, (i60, (i61, x62))), ()), ()) := by kernel_rfl
theorem l13_eq (k : Nat) (i63 : Int) (i64 : Int) (i65 : Int) (x66 : List Int) (i67 : Int) (i68 : Int) (i69 : Int) (x70 : List Int) (i71 : Int) (i72 : Int) (i73 : Int) (i74 : Int) (i75 : Int) (x76 : List Int) (i77 : Int) (i78 : Int) (i79 : Int) (x80 : List Int) : l13 (k + 1) i63 i64 i65 x66 i67 i68 i69 x70 i71 i72 i73 i74 i75 x76 i77 i78 i79 x80 =
  if (decide (i72 < i69)) = true then
    if 0 ≤ (IntKind.i64.wrap ((IntKind.i64.wrap (i71 * i69)) + i72)) ∧ (IntKind.i64.wrap ((IntKind.i64.wrap (i71 * i69)) + i72)) < (x70.length : Int) then
      if 0 ≤ (IntKind.i64.wrap ((IntKind.i64.wrap ((IntKind.i64.wrap ((IntKind.i64.wrap (i64 + i71)) * i79)) + i65)) + i72)) ∧ (IntKind.i64.wrap ((IntKind.i64.wrap ((IntKind.i64.wrap ((IntKind.i64.wrap (i64 + i71)) * i79)) + i65)) + i72)) < (x80.length : Int) then
        let y81 : List Int := x80.set (IntKind.i64.wrap ((IntKind.i64.wrap ((IntKind.i64.wrap ((IntKind.i64.wrap (i64 + i71)) * i79)) + i65)) + i72)).toNat (x70.getD (IntKind.i64.wrap ((IntKind.i64.wrap (i71 * i69)) + i72)).toNat 0 : Int)
        l13 k i63 i64 i65 x66 i67 i68 i69 x70 i71 (IntKind.i64.wrap (i72 + (1 : Int))) i73 i74 i75 x76 i77 i78 i79 y81
      else
        none
    else
      none
  else
    l10 k i63 i64 i65 x66 i67 i68 i69 x70 (IntKind.i64.wrap (i71 + (1 : Int))) i73 i74 i75 x76 i77 i78 i79 x80 := by kernel_rfl
noncomputable def T (k : Nat) (toArray_1 : Int) (toArray_2 : Int) (toArray_3 : Int) (toArray_4 : List Int) (a_5 : Int) (a_6 : Int) (a_7 : Int) (a_8 : List Int) : Option (((Int × Int × Int × List Int) × Unit) × (Unit)) :=
  (spec_l03Zero.F (toArray_1, IntKind.i64.wrap (toArray_2 + a_6), IntKind.i64.wrap (toArray_3 + a_7), ())).bind fun r9 =>
    l3 k toArray_1 toArray_2 toArray_3 toArray_4 a_5 a_6 a_7 a_8 (0 : Int) 0 0 0 ([]) (r9.1.1.1 : Int) (r9.1.1.2.1 : Int) (r9.1.1.2.2.1 : Int) r9.1.1.2.2.2
theorem of (toArray_1 : Int) (toArray_2 : Int) (toArray_3 : Int) (toArray_4 : List Int) (a_5 : Int) (a_6 : Int) (a_7 : Int) (a_8 : List Int) {r : ((Int × Int × Int × List Int) × Unit) × (Unit)} (h : Ev (fun k => T k toArray_1 toArray_2 toArray_3 toArray_4 a_5 a_6 a_7 a_8) r) : F ((toArray_1, (toArray_2, (toArray_3, toArray_4))), (a_5, (a_6, (a_7, a_8))), ()) = some r := Ev.run (fun k => by kernel_rfl) h
theorem ok : CtxOK prog ctx := ⟨nilM, mixed_ok, tab_ok tab_good, consM ⟨spec_l03Zero.S, nilM⟩, nilM, nilM⟩
theorem S : Sound prog ⟨131, sig, F⟩ := sound_k (res := [.cell 4 87]) func131 ok
end spec_l13Both
namespace spec_SumSheaves
noncomputable def sig : Sig := ⟨[.val true TSheaf, .val true TSheaf], [(.val true, TSheaf, .deep), (.val false, (.int .i64), .deep)]⟩
noncomputable def ctx : Ctx := ⟨tabOf tabl, [⟨98, spec_l09Is.sig, spec_l09Is.F⟩, ⟨128, spec_l05Same.sig, spec_l05Same.F⟩, ⟨129, spec_l09Stalks.sig, spec_l09Stalks.F⟩, ⟨130, spec_l09New.sig, spec_l09New.F⟩, ⟨131, spec_l13Both.sig, spec_l13Both.F⟩], [], [], [], []⟩
noncomputable def cfg : Cfg := ⟨ctx, [], [], fun id => match id with | 7 => ([2, 3, 4, 6, 7], [8, 12, 16, 24]) | 14 => ([2, 3, 4, 8, 9], [8, 12, 16, 32]) | _ => ([], []), fun _ => []⟩
noncomputable def code : Code := (f54).body.getD .skip
noncomputable def fin := finK ctx sig [.cell 4 46, .tmp 5]
noncomputable def F (d : (List (List Int) × Int × List Int × List (Int × Int × Int × List Int)) × (List (List Int) × Int × List Int × List (Int × Int × Int × List Int)) × Unit) : Option (((List (List Int) × Int × List Int × List (Int × Int × Int × List Int)) × Int × Unit) × (Unit)) := anyK (runFn cfg fin code (initSt sig.ps d 82))
noncomputable def l7 (k : Nat) (i12 : Int) (x13 : List (List Int)) (i14 : Int) (x15 : List Int) (x16 : List (Int × Int × Int × List Int)) (x17 : List (List Int)) (i18 : Int) (x19 : List Int) (x20 : List (Int × Int × Int × List Int)) (x21 : List (List Int)) (i22 : Int) (x23 : List Int) (x24 : List (Int × Int × Int × List Int)) (x25 : List Int) : Option (((List (List Int) × Int × List Int × List (Int × Int × Int × List Int)) × Int × Unit) × (Unit)) :=
  Go.Vm.runT cfg fin k [.inLoop (sub [1, 1, 1, 1, 0, 1, 0, 0] code), .inBlock 0, .code (sub [1, 1, 1, 1, 1] code)]
    ⟨[.dead, .dead, .ref 8 (.root 0), .ref 12 (.root 0), .ref 16 (.root 0), .dead, .view 24 (.root 0) 1 false, .val false [⟨(.int .i64), .sh, i12⟩]] ++ deads 74, [(8, ⟨true, [⟨(.sl (.sl (.int .i64))), .sh, x13⟩, ⟨(.int .i64), .sh, i14⟩, ⟨(.sl (.int .i64)), .sh, x15⟩, ⟨(.sl TMatrix), .sh, x16⟩]⟩), (12, ⟨true, [⟨(.sl (.sl (.int .i64))), .sh, x17⟩, ⟨(.int .i64), .sh, i18⟩, ⟨(.sl (.int .i64)), .sh, x19⟩, ⟨(.sl TMatrix), .sh, x20⟩]⟩), (16, ⟨true, [⟨(.sl (.sl (.int .i64))), .deep, x21⟩, ⟨(.int .i64), .sh, i22⟩, ⟨(.sl (.int .i64)), .deep, x23⟩, ⟨(.sl TMatrix), .deep, x24⟩]⟩), (24, ⟨false, [⟨(.sl (.int .i64)), .deep, x25⟩]⟩)]⟩
noncomputable def l14 (k : Nat) (i28 : Int) (x29 : List (List Int)) (i30 : Int) (x31 : List Int) (x32 : List (Int × Int × Int × List Int)) (x33 : List (List Int)) (i34 : Int) (x35 : List Int) (x36 : List (Int × Int × Int × List Int)) (x37 : List (List Int)) (i38 : Int) (x39 : List Int) (x40 : List (Int × Int × Int × List Int)) (x41 : List (List Int)) (i42 : Int) (x43 : List Int) (x44 : List (Int × Int × Int × List Int)) : Option (((List (List Int) × Int × List Int × List (Int × Int × Int × List Int)) × Int × Unit) × (Unit)) :=
  Go.Vm.runT cfg fin k [.inLoop (sub [1, 1, 1, 1, 1, 1, 1, 0, 1, 0, 0] code), .inBlock 2, .code (sub [1, 1, 1, 1, 1, 1, 1, 1] code)]
    ⟨[.dead, .dead, .ref 8 (.root 0), .ref 12 (.root 0), .ref 16 (.root 0), .dead, .dead, .dead, .ref 32 (.root 0), .val false [⟨(.int .i64), .sh, i28⟩]] ++ deads 72, [(8, ⟨true, [⟨(.sl (.sl (.int .i64))), .sh, x29⟩, ⟨(.int .i64), .sh, i30⟩, ⟨(.sl (.int .i64)), .sh, x31⟩, ⟨(.sl TMatrix), .sh, x32⟩]⟩), (12, ⟨true, [⟨(.sl (.sl (.int .i64))), .sh, x33⟩, ⟨(.int .i64), .sh, i34⟩, ⟨(.sl (.int .i64)), .sh, x35⟩, ⟨(.sl TMatrix), .sh, x36⟩]⟩), (16, ⟨true, [⟨(.sl (.sl (.int .i64))), .deep, x37⟩, ⟨(.int .i64), .sh, i38⟩, ⟨(.sl (.int .i64)), .deep, x39⟩, ⟨(.sl TMatrix), .deep, x40⟩]⟩), (32, ⟨true, [⟨(.sl (.sl (.int .i64))), .deep, x41⟩, ⟨(.int .i64), .sh, i42⟩, ⟨(.sl (.int .i64)), .deep, x43⟩, ⟨(.sl TMatrix), .deep, x44⟩]⟩)]⟩
theorem l7_eq (k : Nat) (i12 : Int) (x13 : List (List Int)) (i14 : Int) (x15 : List Int) (x16 : List (Int × Int × Int × List Int)) (x17 : List (List Int)) (i18 : Int) (x19 : List Int) (x20 : List (Int × Int × Int × List Int)) (x21 : List (List Int)) (i22 : Int) (x23 : List Int) (x24 : List (Int × Int × Int × List Int)) (x25 : List Int) : l7 (k + 1) i12 x13 i14 x15 x16 x17 i18 x19 x20 x21 i22 x23 x24 x25 =
  if (decide (i12 < (x15.length : Int))) = true then
    if 0 ≤ i12 ∧ i12 < (x15.length : Int) then
      if 0 ≤ i12 ∧ i12 < (x19.length : Int) then
        if x25.length + ([IntKind.i64.wrap ((x15.getD i12.toNat 0 : Int) + (x19.getD i12.toNat 0 : Int))] : List Int).length ≤ bigA then
          l7 k (IntKind.i64.wrap (i12 + (1 : Int))) x13 i14 x15 x16 x17 i18 x19 x20 x21 i22 x23 x24 (x25 ++ ([IntKind.i64.wrap ((x15.getD i12.toNat 0 : Int) + (x19.getD i12.toNat 0 : Int))]))
        else
          none
      else
        none
    else
      none
  else
    (spec_l09Stalks.F (x13, x25, ())).bind fun r26 =>
      if (!(r26.1.1 : Bool)) = true then
        some ((([], (0, ([], []))), ((5 : Int), ())), ())
      else
        (spec_l09New.F (x13, i14, x25, ())).bind fun r27 =>
          l14 k (0 : Int) x13 i14 x15 x16 x17 i18 x19 x20 x21 i22 x23 x24 r27.1.1.1 (r27.1.1.2.1 : Int) r27.1.1.2.2.1 r27.1.1.2.2.2 := by kernel_rfl
theorem l14_eq (k : Nat) (i28 : Int) (x29 : List (List Int)) (i30 : Int) (x31 : List Int) (x32 : List (Int × Int × Int × List Int)) (x33 : List (List Int)) (i34 : Int) (x35 : List Int) (x36 : List (Int × Int × Int × List Int)) (x37 : List (List Int)) (i38 : Int) (x39 : List Int) (x40 : List (Int × Int × Int × List Int)) (x41 : List (List Int)) (i42 : Int) (x43 : List Int) (x44 : List (Int × Int × Int × List Int)) : l14 (k + 1) i28 x29 i30 x31 x32 x33 i34 x35 x36 x37 i38 x39 x40 x41 i42 x43 x44 =
  if (decide (i28 < (x44.length : Int))) = true then
    if 0 ≤ i28 ∧ i28 < (x32.length : Int) then
      if 0 ≤ i28 ∧ i28 < (x36.length : Int) then
        (spec_l13Both.F (x32.getD i28.toNat (0, 0, 0, ([] : List Int)), x36.getD i28.toNat (0, 0, 0, ([] : List Int)), ())).bind fun r45 =>
          if 0 ≤ i28 ∧ i28 < (x44.length : Int) then
            l14 k (IntKind.i64.wrap (i28 + (1 : Int))) x29 i30 x31 x32 x33 i34 x35 x36 x37 i38 x39 x40 x41 i42 x43 (x44.set i28.toNat r45.1.1)
          else
            none
      else
        none
    else
      none
  else
    some (((x41, (i42, (x43, x44))), ((0 : Int), ())), ()) := by kernel_rfl
noncomputable def T (k : Nat) (toArray_1 : List (List Int)) (toArray_2 : Int) (toArray_3 : List Int) (toArray_4 : List (Int × Int × Int × List Int)) (a_5 : List (List Int)) (a_6 : Int) (a_7 : List Int) (a_8 : List (Int × Int × Int × List Int)) : Option (((List (List Int) × Int × List Int × List (Int × Int × Int × List Int)) × Int × Unit) × (Unit)) :=
  (spec_l09Is.F ((toArray_1, (toArray_2, (toArray_3, toArray_4))), ())).bind fun r9 =>
    if (!(r9.1.1 : Bool)) = true then
      some ((([], (0, ([], []))), ((1 : Int), ())), ())
    else
      (spec_l09Is.F ((a_5, (a_6, (a_7, a_8))), ())).bind fun r10 =>
        if (!(r10.1.1 : Bool)) = true then
          some ((([], (0, ([], []))), ((1 : Int), ())), ())
        else
          if (toArray_2 != a_6) = true then
            some ((([], (0, ([], []))), ((6 : Int), ())), ())
          else
            (spec_l05Same.F (toArray_1, a_5, ())).bind fun r11 =>
              if (!(r11.1.1 : Bool)) = true then
                some ((([], (0, ([], []))), ((6 : Int), ())), ())
              else
                l7 k (0 : Int) toArray_1 toArray_2 toArray_3 toArray_4 a_5 a_6 a_7 a_8 ([]) 0 ([]) ([]) ([] : List Int)
theorem of (toArray_1 : List (List Int)) (toArray_2 : Int) (toArray_3 : List Int) (toArray_4 : List (Int × Int × Int × List Int)) (a_5 : List (List Int)) (a_6 : Int) (a_7 : List Int) (a_8 : List (Int × Int × Int × List Int)) {r : ((List (List Int) × Int × List Int × List (Int × Int × Int × List Int)) × Int × Unit) × (Unit)} (h : Ev (fun k => T k toArray_1 toArray_2 toArray_3 toArray_4 a_5 a_6 a_7 a_8) r) : F ((toArray_1, (toArray_2, (toArray_3, toArray_4))), (a_5, (a_6, (a_7, a_8))), ()) = some r := Ev.run (fun k => by kernel_rfl) h
theorem ok : CtxOK prog ctx := ⟨nilM, mixed_ok, tab_ok tab_good, consM ⟨spec_l09Is.S, consM ⟨spec_l05Same.S, consM ⟨spec_l09Stalks.S, consM ⟨spec_l09New.S, consM ⟨spec_l13Both.S, nilM⟩⟩⟩⟩⟩, nilM, nilM⟩
theorem S : Sound prog ⟨54, sig, F⟩ := sound_k (res := [.cell 4 46, .tmp 5]) func54 ok
end spec_SumSheaves
namespace slices_Clone_Lint64_int64
noncomputable def sig : Sig := ⟨[.val false (.sl (.int .i64))], [(.val false, (.sl (.int .i64)), .deep)]⟩
noncomputable def ctx : Ctx := ⟨tabOf tabl, [], [], [], [], []⟩
noncomputable def cfg : Cfg := ⟨ctx, [], [], fun _ => ([], []), fun _ => []⟩
noncomputable def code : Code := (f157).body.getD .skip
noncomputable def fin := finK ctx sig [.tmp 2]
noncomputable def F (d : List Int × Unit) : Option ((List Int × Unit) × (Unit)) := anyK (runFn cfg fin code (initSt sig.ps d 8))
noncomputable def T (s_1 : List Int) : Option ((List Int × Unit) × (Unit)) :=
  if 0 < s_1.length then
    if ([] : List Int).length + s_1.length ≤ bigA then
      some ((([] : List Int) ++ s_1, ()), ())
    else
      none
  else
    both (
      some (([], ()), ())
    ) (
      if ([] : List Int).length + s_1.length ≤ bigA then
        some ((([] : List Int) ++ s_1, ()), ())
      else
        none
    )
theorem eq (s_1 : List Int) : F (s_1, ()) = T s_1 := eq_any fun k => by kernel_rfl
theorem ok : CtxOK prog ctx := ⟨nilM, mixed_ok, tab_ok tab_good, nilM, nilM, nilM⟩
theorem S : Sound prog ⟨157, sig, F⟩ := sound_k (res := [.tmp 2]) func157 ok
end slices_Clone_Lint64_int64
namespace impl_copyLists
noncomputable def sig : Sig := ⟨[.val false (.sl (.sl (.int .i64)))], [(.val false, (.sl (.sl (.int .i64))), .deep)]⟩
noncomputable def ctx : Ctx := ⟨tabOf tabl, [⟨157, slices_Clone_Lint64_int64.sig, slices_Clone_Lint64_int64.F⟩], [], [], [], []⟩
noncomputable def cfg : Cfg := ⟨ctx, [], [], fun id => match id with | 3 => ([3, 6, 7, 8], [12]) | _ => ([], []), fun _ => []⟩
noncomputable def code : Code := (f156).body.getD .skip
noncomputable def fin := finK ctx sig [.tmp 2]
noncomputable def F (d : List (List Int) × Unit) : Option ((List (List Int) × Unit) × (Unit)) := anyK (runFn cfg fin code (initSt sig.ps d 19))
noncomputable def l3 (k : Nat) (x2 : List (List Int)) (i3 : Int) (i4 : Int) (x5 : List (List Int)) : Option ((List (List Int) × Unit) × (Unit)) :=
  Go.Vm.runT cfg fin k [.inLoop (sub [1, 1, 0, 1, 0, 0] code), .inBlock 0, .code (sub [1, 1, 1] code)]
    ⟨[.dead, .dead, .dead, .view 12 (.root 0) 1 false, .dead, .dead, .val false [⟨(.sl (.sl (.int .i64))), .sh, x2⟩], .val false [⟨(.int .i64), .sh, i3⟩], .val false [⟨(.int .i64), .sh, i4⟩]] ++ deads 10, [(12, ⟨false, [⟨(.sl (.sl (.int .i64))), .deep, x5⟩]⟩)]⟩
theorem l3_eq (k : Nat) (x2 : List (List Int)) (i3 : Int) (i4 : Int) (x5 : List (List Int)) : l3 (k + 1) x2 i3 i4 x5 =
  if (decide (i4 < i3)) = true then
    if 0 ≤ i4 ∧ i4 < (x2.length : Int) then
      (slices_Clone_Lint64_int64.F (x2.getD i4.toNat ([] : List Int), ())).bind fun r6 =>
        if x5.length + ([r6.1.1] : List (List Int)).length ≤ bigA then
          l3 k x2 i3 (IntKind.i64.wrap (i4 + (1 : Int))) (x5 ++ ([r6.1.1]))
        else
          none
    else
      none
  else
    some ((x5, ()), ()) := by kernel_rfl
noncomputable def T (k : Nat) (lists_1 : List (List Int)) : Option ((List (List Int) × Unit) × (Unit)) :=
  l3 k lists_1 (lists_1.length : Int) (0 : Int) ([])
theorem of (lists_1 : List (List Int)) {r : (List (List Int) × Unit) × (Unit)} (h : Ev (fun k => T k lists_1) r) : F (lists_1, ()) = some r := Ev.run (fun k => by kernel_rfl) h
theorem ok : CtxOK prog ctx := ⟨nilM, mixed_ok, tab_ok tab_good, consM ⟨slices_Clone_Lint64_int64.S, nilM⟩, nilM, nilM⟩
theorem S : Sound prog ⟨156, sig, F⟩ := sound_k (res := [.tmp 2]) func156 ok
end impl_copyLists
namespace slices_SortFunc_LLint64_Lint64
noncomputable def sig : Sig := sortS
noncomputable def F (d : List (List Int) × ((List Int × List Int × Unit) → Option (Int × Unit)) × Unit) : Option ((Unit) × (List (List Int) × Unit)) := sortF ordS d
def ren : Go.Shelf.Ren := ⟨fun | 6 => 257 | 14 => 289 | 15 => 288 | 20 => 306 | 21 => 307 | 22 => 308 | 23 => 309 | 24 => 310 | 25 => 311 | 26 => 312 | 27 => 313 | 28 => 304 | 29 => 305 | 46 => 321 | 47 => 317 | 48 => 318 | 49 => 322 | 50 => 323 | 57 => 325 | n => n, fun | 0 => 0 | 3 => 3 | 4 => 4 | 5 => 5 | 9 => 9 | 22 => 22 | 24 => 25 | 25 => 189 | 39 => 235 | 45 => 246 | 46 => 247 | 50 => 193 | 53 => 253 | 55 => 255 | 66 => 262 | 70 => 266 | 76 => 270 | 77 => 271 | n => n, fun n => n⟩
theorem lays : Go.Proofs.SlLaysF.n6 prog ren where
  mixed := by kernel_rfl
  f6 := ⟨"slices.SortFunc[[][]int64,[]int64]", by decide, func257.trans (congrArg some (by kernel_rfl))⟩
  f14 := ⟨"slices.pdqsortCmpFunc[[]int64]", by decide, func289.trans (congrArg some (by kernel_rfl))⟩
  f15 := func288.trans (congrArg some (by kernel_rfl))
  f20 := ⟨"slices.insertionSortCmpFunc[[]int64]", by decide, func306.trans (congrArg some (by kernel_rfl))⟩
  f21 := ⟨"slices.heapSortCmpFunc[[]int64]", by decide, func307.trans (congrArg some (by kernel_rfl))⟩
  f22 := ⟨"slices.breakPatternsCmpFunc[[]int64]", by decide, func308.trans (congrArg some (by kernel_rfl))⟩
  f23 := ⟨"slices.choosePivotCmpFunc[[]int64]", by decide, func309.trans (congrArg some (by kernel_rfl))⟩
  f24 := ⟨"slices.reverseRangeCmpFunc[[]int64]", by decide, func310.trans (congrArg some (by kernel_rfl))⟩
  f25 := ⟨"slices.partialInsertionSortCmpFunc[[]int64]", by decide, func311.trans (congrArg some (by kernel_rfl))⟩
  f26 := ⟨"slices.partitionEqualCmpFunc[[]int64]", by decide, func312.trans (congrArg some (by kernel_rfl))⟩
  f27 := ⟨"slices.partitionCmpFunc[[]int64]", by decide, func313.trans (congrArg some (by kernel_rfl))⟩
  f28 := func304.trans (congrArg some (by kernel_rfl))
  f29 := func305.trans (congrArg some (by kernel_rfl))
  f46 := ⟨"slices.siftDownCmpFunc[[]int64]", by decide, func321.trans (congrArg some (by kernel_rfl))⟩
  f47 := func317.trans (congrArg some (by kernel_rfl))
  f48 := func318.trans (congrArg some (by kernel_rfl))
  f49 := ⟨"slices.medianAdjacentCmpFunc[[]int64]", by decide, func322.trans (congrArg some (by kernel_rfl))⟩
  f50 := ⟨"slices.medianCmpFunc[[]int64]", by decide, func323.trans (congrArg some (by kernel_rfl))⟩
  f57 := ⟨"slices.order2CmpFunc[[]int64]", by decide, func325.trans (congrArg some (by kernel_rfl))⟩
  t0 := underlying0
  a0 := isAgg0
  z0 := sizeOf0
  v0 := zeroValue0
  t3 := underlying3
  a3 := isAgg3
  z3 := sizeOf3
  v3 := zeroValue3
  t4 := underlying4
  a4 := isAgg4
  z4 := sizeOf4
  v4 := zeroValue4
  t5 := underlying5
  a5 := isAgg5
  z5 := sizeOf5
  v5 := zeroValue5
  t9 := underlying9
  a9 := isAgg9
  z9 := sizeOf9
  v9 := zeroValue9
  t22 := underlying22
  a22 := isAgg22
  z22 := sizeOf22
  v22 := zeroValue22
  a24 := isAgg25
  z24 := sizeOf25
  t25 := underlying189
  a25 := isAgg189
  z25 := sizeOf189
  v25 := zeroValue189
  t39 := underlying235
  a39 := isAgg235
  z39 := sizeOf235
  v39 := zeroValue235
  t45 := underlying246
  a45 := isAgg246
  z45 := sizeOf246
  v45 := zeroValue246
  t46 := underlying247
  a46 := isAgg247
  z46 := sizeOf247
  v46 := zeroValue247
  t50 := underlying193
  a50 := isAgg193
  z50 := sizeOf193
  v50 := zeroValue193
  t53 := underlying253
  a53 := isAgg253
  z53 := sizeOf253
  v53 := zeroValue253
  t55 := underlying255
  a55 := isAgg255
  z55 := sizeOf255
  v55 := zeroValue255
  t66 := underlying262
  a66 := isAgg262
  z66 := sizeOf262
  v66 := zeroValue262
  t70 := underlying266
  a70 := isAgg266
  z70 := sizeOf266
  v70 := zeroValue266
  t76 := underlying270
  a76 := isAgg270
  z76 := sizeOf270
  v76 := zeroValue270
  t77 := underlying271
  a77 := isAgg271
  z77 := sizeOf271
  v77 := zeroValue271
theorem S : Sound prog ⟨257, sig, F⟩ := sort_sound lays ordS_swo ordS_tot
end slices_SortFunc_LLint64_Lint64
namespace slices_CompactFunc_LLint64_Lint64
noncomputable def sig : Sig := compS
noncomputable def F (d : List (List Int) × ((List Int × List Int × Unit) → Option (Bool × Unit)) × Unit) : Option ((List (List Int) × Unit) × (Unit)) := compF d
theorem emp (p : Option Addr) (cap : Nat) (fv : Value) (w : World) : Calls prog 258 #[.slice p 0 cap, fv] w fun e w' => e = .returned (.slice p 0 cap) ∧ w' = w := by
  go_enter func258, ntmps258
  go_wp2
  go_ret
  exact ⟨rfl, rfl⟩
open Go.Proofs Go.Shelf Go.RowKit Go.Lib Go.Sort in
set_option maxHeartbeats 16000000 in
set_option maxRecDepth 1000000 in
theorem walk {α : Type} [Inhabited α] (enc : α → Value) (hO : OneCell enc) (eq : α → α → Bool) (zr : α) (hz : enc zr = .slice none 0 0) (g : Nat) (cb : Array Value) (eg : ∀ args w, (callFunc g args).run prog w = .ok (.enter g args) w)
    (blk off cap : Nat) (d : Array α) (w : World) (hcmp : EqLays1 prog g cb enc eq blk off d.size w) (hH : Holds enc w blk off d) (hblk : blk < w.heap.size) (hsz : d.size < 4611686018427387904) (hcap : d.size ≤ cap) (kp : Nat → Bool) (hkp0 : kp 0 = true) (hkp : ∀ j, 0 < j → kp j = !(eq d[j]! d[j - 1]!)) :
    Calls prog 258 #[.slice (some ⟨blk, off, none⟩) d.size cap, .func (.func g) #[] cb] w fun e w' => e = .returned (.slice (some ⟨blk, off, none⟩) (keptUpTo kp d d.size).length cap) ∧ SW enc w blk off (keptUpTo kp d d.size ++ List.replicate (d.size - (keptUpTo kp d d.size).length) zr).toArray w' := by
  have mixed : prog.follows .mixedOrders = true := mixed_ok
  have hcl0 := hO.cells
  simp only [Value.cells] at hcl0
  have hst := hO.store prog
  have R : Row1 enc w blk off d := ⟨hO, hH, hblk⟩
  have HC : Aside (EqLays1 prog g cb enc eq blk off d.size w) := hcmp
  have S0 : Aside (SW enc w blk off d w) := SW.start hH
  have same : ∀ W, SW enc w blk off d W → (∀ j, j < d.size → kp j = true) → (keptUpTo kp d d.size).length = d.size ∧ SW enc w blk off (keptUpTo kp d d.size ++ List.replicate (d.size - (keptUpTo kp d d.size).length) zr).toArray W := by
    intro W hW hall
    have e : keptUpTo kp d d.size = d.toList := by rw [keptUpTo_all kp d _ hall, range_map_get]
    rw [e]
    refine ⟨by simp, ?_⟩
    simpa using hW
  have HS : Aside _ := same
  have K0 : Aside (kp 0 = true) := hkp0
  have K1 : Aside (∀ j, 0 < j → kp j = !(eq d[j]! d[j - 1]!)) := hkp
  clear hcmp same hkp0 hkp hH
  by_cases h2 : d.size < 2
  · go_enter func258, ntmps258
    go_wp2
    go_ret
    obtain ⟨e1, e2⟩ := HS.out _ S0.out (fun j hj => by
      have : j = 0 := by omega
      rw [this]; exact K0.out)
    exact ⟨by rw [e1]; rfl, e2⟩
  · go_enter func258, ntmps258
    go_wp2
    go_loopg [5] d.size (fun g1 s5 wr => ∃ k : Nat, s5 = .int .i64 k ∧ 1 ≤ k ∧ k ≤ d.size ∧ d.size - k ≤ g1 ∧ Aside (SW enc w blk off d wr) ∧ Hid (∀ j, j < k → kp j = true))
    case atStart => exact ⟨1, rfl, Nat.le_refl _, by omega, by omega, S0, fun j hj => by
      have : j = 0 := by omega
      rw [this]; exact K0.out⟩
    case round =>
      clear S0
      obtain ⟨k, rfl, hk1, hk, hg1, S1, HA⟩ := hrel
      by_cases hlt : k < d.size
      · have hltz : (k : Int) < (d.size : Int) := by omega
        obtain ⟨kq, hkq⟩ : ∃ q, q + 1 = k := ⟨k - 1, by omega⟩
        have zk : (k : Int) = (kq : Int) + 1 := by omega
        obtain ⟨iN, hiN⟩ : ∃ q, q = k := ⟨_, rfl⟩
        obtain ⟨jN, hjN⟩ : ∃ q, q = k - 1 := ⟨_, rfl⟩
        have ea : ((kq : Int) + 1).toNat = iN := by omega
        have pa : (0 : Int) ≤ (kq : Int) + 1 := by omega
        have ba : (kq : Int) + 1 < (d.size : Int) := by omega
        have ra : IntKind.i64.wrap ((kq : Int) + 1) = (kq : Int) + 1 := by rw [IntKind.wrap_i64]; omega
        have ec : ((kq : Int)).toNat = jN := by omega
        have pc : (0 : Int) ≤ (kq : Int) := by omega
        have bc : (kq : Int) < (d.size : Int) := by omega
        have rc : IntKind.i64.wrap ((kq : Int)) = (kq : Int) := by rw [IntKind.wrap_i64]; omega
        obtain ⟨x, hx⟩ : ∃ x, x = d[k]! := ⟨_, rfl⟩
        obtain ⟨y, hy⟩ : ∃ x, x = d[k - 1]! := ⟨_, rfl⟩
        have la := S1.out.cl R rfl k (by omega)
        have lb := S1.out.cl R rfl (k - 1) (by omega)
        rw [← hx, ← hiN] at la
        rw [← hy, ← hjN] at lb
        have hc := sw_eql S1.out HC.out rfl x y
        have KK : Aside (kp k = !(eq x y)) := by rw [hx, hy]; exact K1.out k (by omega)
        clear hx hy hiN hjN
        cases hv : eq x y with
        | true =>
          rw [hv] at hc KK
          go_wp2_with fail
          go_quiet_grown (first | (go_at_fn g; refine Calls.grown_of (hc _ _)))
          have S2 : Aside (SW enc w blk off d (grow (wr.drewN nq) osq)) := S1.out.grown nq osq
          clear la lb hc S1
          generalize grow (wr.drewN nq) osq = w2 at S2 ⊢
          clear nq osq
          clear ea ec pa ba ra pc bc rc
          have hzk : (kq : Int) + 1 = (k : Int) := by omega
          clear zk hkq
          simp only [hzk]
          clear hzk
          go_wp2
          go_loopg [5, 7] d.size (fun g2 s5 s7 wr2 => ∃ (kk k2 : Nat) (dk : Array α), s5 = .int .i64 kk ∧ s7 = .int .i64 k2 ∧ 1 ≤ k2 ∧ k + k2 ≤ d.size ∧ d.size - (k + k2) ≤ g2 ∧ Aside (SW enc w blk off dk wr2) ∧ Aside (KeptInv kp d (k + k2) kk dk))
          case atStart => exact ⟨k, 1, d, rfl, rfl, Nat.le_refl _, by omega, by omega, S2, KeptInv.start HA.out (by rw [KK.out]; rfl)⟩
          case round =>
            clear S2 KK HA
            obtain ⟨kk, k2, dk, rfl, rfl, h1, hle, hg2, S3, I2⟩ := hrel
            have hkk := I2.out.lt
            have hds := I2.out.size
            by_cases hlt2 : k + k2 < d.size
            · obtain ⟨kq, hkq⟩ : ∃ q, q + 1 = k2 := ⟨k2 - 1, by omega⟩
              have zk : (k2 : Int) = (kq : Int) + 1 := by omega
              obtain ⟨iN, hiN⟩ : ∃ q, q = k2 := ⟨_, rfl⟩
              obtain ⟨jN, hjN⟩ : ∃ q, q = k2 - 1 := ⟨_, rfl⟩
              have ea : ((kq : Int) + 1).toNat = iN := by omega
              have pa : (0 : Int) ≤ (kq : Int) + 1 := by omega
              have ba : (kq : Int) + 1 < ((d.size - k : Nat) : Int) := by omega
              have ra : IntKind.i64.wrap ((kq : Int) + 1) = (kq : Int) + 1 := by rw [IntKind.wrap_i64]; omega
              have ec : ((kq : Int)).toNat = jN := by omega
              have pc : (0 : Int) ≤ (kq : Int) := by omega
              have bc : (kq : Int) < ((d.size - k : Nat) : Int) := by omega
              have rc : IntKind.i64.wrap ((kq : Int)) = (kq : Int) := by rw [IntKind.wrap_i64]; omega
              obtain ⟨x, hx⟩ : ∃ x, x = d[k + k2]! := ⟨_, rfl⟩
              obtain ⟨y, hy⟩ : ∃ x, x = d[k + k2 - 1]! := ⟨_, rfl⟩
              have la := S3.out.cl R hds (k + k2) (by omega)
              have lb := S3.out.cl R hds (k + k2 - 1) (by omega)
              rw [I2.out.high (k + k2) (by omega), ← hx, show off + (k + k2) = off + k + iN by omega] at la
              rw [I2.out.high (k + k2 - 1) (by omega), ← hy, show off + (k + k2 - 1) = off + k + jN by omega] at lb
              have hc := sw_eql S3.out HC.out hds x y
              have KK : Aside (kp (k + k2) = !(eq x y)) := by rw [hx, hy]; exact K1.out (k + k2) (by omega)
              have XX : Aside (x = d[k + k2]!) := hx
              clear hx hy hiN hjN
              cases hv : eq x y with
              | true =>
                rw [hv] at hc KK
                go_wp2_with fail
                go_quiet_grown (first | (go_at_fn g; refine Calls.grown_of (hc _ _)))
                have S2 : Aside (SW enc w blk off dk (grow (wr.drewN nq) osq)) := S3.out.grown nq osq
                clear la lb hc S3
                generalize grow (wr.drewN nq) osq = w2 at S2 ⊢
                clear nq osq
                clear ea ec
                go_wp2
                go_roundg (d.size - (k + (k2 + 1)))
                case measure => omega
                case rel => exact ⟨kk, k2 + 1, dk, rfl, by go_num, by omega, by omega, Nat.le_refl _, S2, I2.out.skip (by rw [KK.out]; rfl)⟩
              | false =>
                rw [hv] at hc KK
                go_wp2_with fail
                go_quiet_grown (first | (go_at_fn g; refine Calls.grown_of (hc _ _)))
                have S2 : Aside (SW enc w blk off dk (grow (wr.drewN nq) osq)) := S3.out.grown nq osq
                clear la lb hc S3
                generalize grow (wr.drewN nq) osq = w2 at S2 ⊢
                clear nq osq
                clear ea ec pa ba ra pc bc rc
                have hzk : (kq : Int) + 1 = (k2 : Int) := by omega
                clear zk hkq
                simp only [hzk]
                clear hzk
                have cm := S2.out.c1 R hds (k + k2) (by omega)
                have ck := S2.out.c1 R hds kk (by omega)
                have fk := S2.out.f1 R hds kk (by omega)
                rw [I2.out.high (k + k2) (by omega), ← XX.out, show off + (k + k2) = off + k + k2 by omega] at cm
                generalize dk[kk]! = old at ck
                have hlz : (k2 : Int) < ((d.size - k : Nat) : Int) := by omega
                go_wp2
                go_roundg (d.size - (k + (k2 + 1)))
                case measure => omega
                case rel => exact ⟨kk + 1, k2 + 1, dk.setIfInBounds kk x, by go_num, by go_num, by omega, by omega, Nat.le_refl _, sw_set S2.out hblk kk x (by omega), (by have := I2.out.keep hlt2 (by rw [KK.out]; rfl); rwa [← XX.out] at this)⟩
            · have hend : k + k2 = d.size := by omega
              have hcl : ∀ ty, (Builtin.clear_ #[22] ty #[.slice (some ⟨blk, off + kk, none⟩) (d.size - kk) (cap - kk)]).run prog wr = .ok (.tuple #[]) (wr.setCells blk (off + kk) (List.replicate (d.size - kk) (enc zr))) :=
                fun ty => Lib.run_clear_slice wr _ _ ty _ underlying22 (fun w => by rw [hz]; exact zeroValue25 w) (hO.cells zr) (hO zr) blk (off + kk) _ _ (by omega) (fun j hj => by rw [show off + kk + j = off + (kk + j) by omega, S3.out.c1 R hds (kk + j) (by omega)]; rfl) (fun j hj => by rw [show off + kk + j = off + (kk + j) by omega]; exact S3.out.f1 R hds (kk + j) (by omega))
              go_wp2
              go_ret
              have hI := I2.out
              rw [hend] at hI
              refine ⟨by rw [hI.len]; rfl, ?_⟩
              rw [hI.len, ← hI.done zr]
              have := sw_lay hblk (List.replicate (d.size - kk) zr) dk _ kk S3.out (by simp; omega)
              rw [List.map_replicate, hz] at this
              exact this
        | false =>
          rw [hv] at hc KK
          go_wp2_with fail
          go_quiet_grown (first | (go_at_fn g; refine Calls.grown_of (hc _ _)))
          have S2 : Aside (SW enc w blk off d (grow (wr.drewN nq) osq)) := S1.out.grown nq osq
          clear la lb hc S1
          generalize grow (wr.drewN nq) osq = w2 at S2 ⊢
          clear nq osq
          clear ea ec
          go_wp2
          go_roundg (d.size - (k + 1))
          case measure => omega
          case rel =>
            refine ⟨k + 1, by go_num, by omega, by omega, Nat.le_refl _, S2, fun j hj => ?_⟩
            by_cases e : j = k
            · subst e; exact KK.out
            · exact HA.out j (by omega)
      · have : k = d.size := by omega
        subst this
        go_wp2
        go_ret
        obtain ⟨e1, e2⟩ := HS.out _ S1.out HA.out
        exact ⟨by rw [e1]; rfl, e2⟩
theorem S : Sound prog ⟨258, sig, F⟩ := comp_sound ⟨⟨_, func258, by kernel_rfl, by kernel_rfl⟩, emp, walk⟩
end slices_CompactFunc_LLint64_Lint64
namespace cmp_Or_int
noncomputable def sig : Sig := ⟨[.val false (.sl (.int .i64))], [(.val false, (.int .i64), .deep)]⟩
noncomputable def ctx : Ctx := ⟨tabOf tabl, [], [], [], [], []⟩
noncomputable def cfg : Cfg := ⟨ctx, [], [], fun id => match id with | 3 => ([3, 6, 7, 8], []) | _ => ([], []), fun _ => []⟩
noncomputable def code : Code := (f270).body.getD .skip
noncomputable def fin := finK ctx sig [.tmp 2]
noncomputable def F (d : List Int × Unit) : Option ((Int × Unit) × (Unit)) := anyK (runFn cfg fin code (initSt sig.ps d 18))
noncomputable def l3 (k : Nat) (i2 : Int) (x3 : List Int) (i4 : Int) (i5 : Int) : Option ((Int × Unit) × (Unit)) :=
  Go.Vm.runT cfg fin k [.inLoop (sub [1, 1, 0, 1, 0, 0] code), .inBlock 0, .code (sub [1, 1, 1] code)]
    ⟨[.dead, .dead, .dead, .val false [⟨(.int .i64), .sh, i2⟩], .dead, .dead, .val false [⟨(.sl (.int .i64)), .sh, x3⟩], .val false [⟨(.int .i64), .sh, i4⟩], .val false [⟨(.int .i64), .sh, i5⟩]] ++ deads 9, []⟩
theorem l3_eq (k : Nat) (i2 : Int) (x3 : List Int) (i4 : Int) (i5 : Int) : l3 (k + 1) i2 x3 i4 i5 =
  if (decide (i5 < i4)) = true then
    if 0 ≤ i5 ∧ i5 < (x3.length : Int) then
      if ((x3.getD i5.toNat 0 : Int) != i2) = true then
        some (((x3.getD i5.toNat 0 : Int), ()), ())
      else
        l3 k i2 x3 i4 (IntKind.i64.wrap (i5 + (1 : Int)))
    else
      none
  else
    some ((i2, ()), ()) := by kernel_rfl
noncomputable def T (k : Nat) (vals_1 : List Int) : Option ((Int × Unit) × (Unit)) :=
  l3 k (0 : Int) vals_1 (vals_1.length : Int) (0 : Int)
theorem of (vals_1 : List Int) {r : (Int × Unit) × (Unit)} (h : Ev (fun k => T k vals_1) r) : F (vals_1, ()) = some r := Ev.run (fun k => by kernel_rfl) h
theorem ok : CtxOK prog ctx := ⟨nilM, mixed_ok, tab_ok tab_good, nilM, nilM, nilM⟩
theorem S : Sound prog ⟨270, sig, F⟩ := sound_k (res := [.tmp 2]) func270 ok
end cmp_Or_int
namespace cmp_isNaN_int
noncomputable def sig : Sig := ⟨[.val false (.int .i64)], [(.val false, .bool, .deep)]⟩
noncomputable def ctx : Ctx := ⟨tabOf tabl, [], [], [], [], []⟩
noncomputable def cfg : Cfg := ⟨ctx, [], [], fun _ => ([], []), fun _ => []⟩
noncomputable def code : Code := (f291).body.getD .skip
noncomputable def fin := finK ctx sig [.tmp 2]
noncomputable def F (d : Int × Unit) : Option ((Bool × Unit) × (Unit)) := anyK (runFn cfg fin code (initSt sig.ps d 6))
noncomputable def T (x_1 : Int) : Option ((Bool × Unit) × (Unit)) :=
  some ((x_1 != x_1, ()), ())
theorem eq (x_1 : Int) : F (x_1, ()) = T x_1 := eq_any fun k => by kernel_rfl
theorem ok : CtxOK prog ctx := ⟨nilM, mixed_ok, tab_ok tab_good, nilM, nilM, nilM⟩
theorem S : Sound prog ⟨291, sig, F⟩ := sound_k (res := [.tmp 2]) func291 ok
end cmp_isNaN_int
namespace cmp_Compare_int
noncomputable def sig : Sig := ⟨[.val false (.int .i64), .val false (.int .i64)], [(.val false, (.int .i64), .deep)]⟩
noncomputable def ctx : Ctx := ⟨tabOf tabl, [⟨291, cmp_isNaN_int.sig, cmp_isNaN_int.F⟩], [], [], [], []⟩
noncomputable def cfg : Cfg := ⟨ctx, [], [], fun _ => ([], []), fun _ => []⟩
noncomputable def code : Code := (f271).body.getD .skip
noncomputable def fin := finK ctx sig [.tmp 4]
noncomputable def F (d : Int × Int × Unit) : Option ((Int × Unit) × (Unit)) := anyK (runFn cfg fin code (initSt sig.ps d 20))
noncomputable def T (x_1 : Int) (y_2 : Int) : Option ((Int × Unit) × (Unit)) :=
  (cmp_isNaN_int.F (x_1, ())).bind fun r3 =>
    (cmp_isNaN_int.F (y_2, ())).bind fun r4 =>
      if (r3.1.1 : Bool) = true then
        if (r4.1.1 : Bool) = true then
          some (((0 : Int), ()), ())
        else
          some (((-1 : Int), ()), ())
      else
        if (r4.1.1 : Bool) = true then
          some (((1 : Int), ()), ())
        else
          if (decide (x_1 < y_2)) = true then
            some (((-1 : Int), ()), ())
          else
            if (decide (x_1 > y_2)) = true then
              some (((1 : Int), ()), ())
            else
              some (((0 : Int), ()), ())
theorem eq (x_1 : Int) (y_2 : Int) : F (x_1, y_2, ()) = T x_1 y_2 := eq_any fun k => by kernel_rfl
theorem ok : CtxOK prog ctx := ⟨nilM, mixed_ok, tab_ok tab_good, consM ⟨cmp_isNaN_int.S, nilM⟩, nilM, nilM⟩
theorem S : Sound prog ⟨271, sig, F⟩ := sound_k (res := [.tmp 4]) func271 ok
end cmp_Compare_int
namespace cmp_isNaN_int64
noncomputable def sig : Sig := ⟨[.val false (.int .i64)], [(.val false, .bool, .deep)]⟩
noncomputable def ctx : Ctx := ⟨tabOf tabl, [], [], [], [], []⟩
noncomputable def cfg : Cfg := ⟨ctx, [], [], fun _ => ([], []), fun _ => []⟩
noncomputable def code : Code := (f314).body.getD .skip
noncomputable def fin := finK ctx sig [.tmp 2]
noncomputable def F (d : Int × Unit) : Option ((Bool × Unit) × (Unit)) := anyK (runFn cfg fin code (initSt sig.ps d 6))
noncomputable def T (x_1 : Int) : Option ((Bool × Unit) × (Unit)) :=
  some ((x_1 != x_1, ()), ())
theorem eq (x_1 : Int) : F (x_1, ()) = T x_1 := eq_any fun k => by kernel_rfl
theorem ok : CtxOK prog ctx := ⟨nilM, mixed_ok, tab_ok tab_good, nilM, nilM, nilM⟩
theorem S : Sound prog ⟨314, sig, F⟩ := sound_k (res := [.tmp 2]) func314 ok
end cmp_isNaN_int64
namespace cmp_Compare_int64
noncomputable def sig : Sig := ⟨[.val false (.int .i64), .val false (.int .i64)], [(.val false, (.int .i64), .deep)]⟩
noncomputable def ctx : Ctx := ⟨tabOf tabl, [⟨314, cmp_isNaN_int64.sig, cmp_isNaN_int64.F⟩], [], [], [], []⟩
noncomputable def cfg : Cfg := ⟨ctx, [], [], fun _ => ([], []), fun _ => []⟩
noncomputable def code : Code := (f292).body.getD .skip
noncomputable def fin := finK ctx sig [.tmp 4]
noncomputable def F (d : Int × Int × Unit) : Option ((Int × Unit) × (Unit)) := anyK (runFn cfg fin code (initSt sig.ps d 20))
noncomputable def T (x_1 : Int) (y_2 : Int) : Option ((Int × Unit) × (Unit)) :=
  (cmp_isNaN_int64.F (x_1, ())).bind fun r3 =>
    (cmp_isNaN_int64.F (y_2, ())).bind fun r4 =>
      if (r3.1.1 : Bool) = true then
        if (r4.1.1 : Bool) = true then
          some (((0 : Int), ()), ())
        else
          some (((-1 : Int), ()), ())
      else
        if (r4.1.1 : Bool) = true then
          some (((1 : Int), ()), ())
        else
          if (decide (x_1 < y_2)) = true then
            some (((-1 : Int), ()), ())
          else
            if (decide (x_1 > y_2)) = true then
              some (((1 : Int), ()), ())
            else
              some (((0 : Int), ()), ())
theorem eq (x_1 : Int) (y_2 : Int) : F (x_1, y_2, ()) = T x_1 y_2 := eq_any fun k => by kernel_rfl
theorem ok : CtxOK prog ctx := ⟨nilM, mixed_ok, tab_ok tab_good, consM ⟨cmp_isNaN_int64.S, nilM⟩, nilM, nilM⟩
theorem S : Sound prog ⟨292, sig, F⟩ := sound_k (res := [.tmp 4]) func292 ok
end cmp_Compare_int64
namespace slices_Compare_Lint64_int64
noncomputable def sig : Sig := ⟨[.val false (.sl (.int .i64)), .val false (.sl (.int .i64))], [(.val false, (.int .i64), .deep)]⟩
noncomputable def ctx : Ctx := ⟨tabOf tabl, [⟨292, cmp_Compare_int64.sig, cmp_Compare_int64.F⟩], [], [], [], []⟩
noncomputable def cfg : Cfg := ⟨ctx, [], [], fun id => match id with | 2 => ([0, 1, 9, 10, 11], []) | _ => ([], []), fun _ => []⟩
noncomputable def code : Code := (f272).body.getD .skip
noncomputable def fin := finK ctx sig [.tmp 4]
noncomputable def F (d : List Int × List Int × Unit) : Option ((Int × Unit) × (Unit)) := anyK (runFn cfg fin code (initSt sig.ps d 36))
noncomputable def l2 (k : Nat) (x3 : List Int) (x4 : List Int) (x5 : List Int) (i6 : Int) (i7 : Int) : Option ((Int × Unit) × (Unit)) :=
  Go.Vm.runT cfg fin k [.inLoop (sub [1, 0, 1, 0, 0] code), .inBlock 0, .code (sub [1, 1] code)]
    ⟨[.val false [⟨(.sl (.int .i64)), .sh, x3⟩], .val false [⟨(.sl (.int .i64)), .sh, x4⟩], .dead, .dead, .dead, .dead, .dead, .dead, .dead, .val false [⟨(.sl (.int .i64)), .sh, x5⟩], .val false [⟨(.int .i64), .sh, i6⟩], .val false [⟨(.int .i64), .sh, i7⟩]] ++ deads 24, []⟩
theorem l2_eq (k : Nat) (x3 : List Int) (x4 : List Int) (x5 : List Int) (i6 : Int) (i7 : Int) : l2 (k + 1) x3 x4 x5 i6 i7 =
  if (decide (i7 < i6)) = true then
    if 0 ≤ i7 ∧ i7 < (x5.length : Int) then
      if (decide (i7 ≥ (x4.length : Int))) = true then
        some (((1 : Int), ()), ())
      else
        if 0 ≤ i7 ∧ i7 < (x4.length : Int) then
          (cmp_Compare_int64.F ((x5.getD i7.toNat 0 : Int), (x4.getD i7.toNat 0 : Int), ())).bind fun r8 =>
            if ((r8.1.1 : Int) != (0 : Int)) = true then
              some (((r8.1.1 : Int), ()), ())
            else
              l2 k x3 x4 x5 i6 (IntKind.i64.wrap (i7 + (1 : Int)))
        else
          none
    else
      none
  else
    if (decide ((x3.length : Int) < (x4.length : Int))) = true then
      some (((-1 : Int), ()), ())
    else
      some (((0 : Int), ()), ()) := by kernel_rfl
noncomputable def T (k : Nat) (s1_1 : List Int) (s2_2 : List Int) : Option ((Int × Unit) × (Unit)) :=
  l2 k s1_1 s2_2 s1_1 (s1_1.length : Int) (0 : Int)
theorem of (s1_1 : List Int) (s2_2 : List Int) {r : (Int × Unit) × (Unit)} (h : Ev (fun k => T k s1_1 s2_2) r) : F (s1_1, s2_2, ()) = some r := Ev.run (fun k => by kernel_rfl) h
theorem ok : CtxOK prog ctx := ⟨nilM, mixed_ok, tab_ok tab_good, consM ⟨cmp_Compare_int64.S, nilM⟩, nilM, nilM⟩
theorem S : Sound prog ⟨272, sig, F⟩ := sound_k (res := [.tmp 4]) func272 ok
end slices_Compare_Lint64_int64
namespace impl_compareSimplices
noncomputable def sig : Sig := ⟨[.val false (.sl (.int .i64)), .val false (.sl (.int .i64))], [(.val false, (.int .i64), .deep)]⟩
noncomputable def ctx : Ctx := ⟨tabOf tabl, [⟨270, cmp_Or_int.sig, cmp_Or_int.F⟩, ⟨271, cmp_Compare_int.sig, cmp_Compare_int.F⟩, ⟨272, slices_Compare_Lint64_int64.sig, slices_Compare_Lint64_int64.F⟩], [], [], [], []⟩
noncomputable def cfg : Cfg := ⟨ctx, [], [], fun _ => ([], []), fun _ => []⟩
noncomputable def code : Code := (f195).body.getD .skip
noncomputable def fin := finK ctx sig [.tmp 4]
noncomputable def F (d : List Int × List Int × Unit) : Option ((Int × Unit) × (Unit)) := anyK (runFn cfg fin code (initSt sig.ps d 15))
noncomputable def T (a_1 : List Int) (b_2 : List Int) : Option ((Int × Unit) × (Unit)) :=
  (cmp_Compare_int.F ((a_1.length : Int), (b_2.length : Int), ())).bind fun r3 =>
    (slices_Compare_Lint64_int64.F (a_1, b_2, ())).bind fun r4 =>
      (cmp_Or_int.F ([(r3.1.1 : Int), (r4.1.1 : Int)], ())).bind fun r5 =>
        some (((r5.1.1 : Int), ()), ())
theorem eq (a_1 : List Int) (b_2 : List Int) : F (a_1, b_2, ()) = T a_1 b_2 := eq_any fun k => by kernel_rfl
theorem ok : CtxOK prog ctx := ⟨nilM, mixed_ok, tab_ok tab_good, consM ⟨cmp_Or_int.S, consM ⟨cmp_Compare_int.S, consM ⟨slices_Compare_Lint64_int64.S, nilM⟩⟩⟩, nilM, nilM⟩
theorem S : Sound prog ⟨195, sig, F⟩ := sound_k (res := [.tmp 4]) func195 ok
noncomputable def cloG (y : Unit) (d : List Int × List Int × Unit) : Option (Int × Unit) := (F (joinIns [] [(false, (.sl (.int .i64))), (false, (.sl (.int .i64)))] d y)).map (·.1)
noncomputable def clo : Clo := ⟨195, ⟨[(false, (.sl (.int .i64))), (false, (.sl (.int .i64)))], [(.val false, (.int .i64), .deep)]⟩, [], cloG⟩
theorem cloS : SoundClo prog clo := sound_clo (s := ⟨[(false, (.sl (.int .i64))), (false, (.sl (.int .i64)))], [(.val false, (.int .i64), .deep)]⟩) (caps := []) rfl S
end impl_compareSimplices
namespace slices_Equal_Lint64_int64
noncomputable def sig : Sig := ⟨[.val false (.sl (.int .i64)), .val false (.sl (.int .i64))], [(.val false, .bool, .deep)]⟩
noncomputable def ctx : Ctx := ⟨tabOf tabl, [], [], [], [], []⟩
noncomputable def cfg : Cfg := ⟨ctx, [], [], fun id => match id with | 4 => ([0, 1, 12, 13], []) | _ => ([], []), fun _ => []⟩
noncomputable def code : Code := (f259).body.getD .skip
noncomputable def fin := finK ctx sig [.tmp 4]
noncomputable def F (d : List Int × List Int × Unit) : Option ((Bool × Unit) × (Unit)) := anyK (runFn cfg fin code (initSt sig.ps d 26))
noncomputable def l4 (k : Nat) (x3 : List Int) (x4 : List Int) (i5 : Int) (i6 : Int) : Option ((Bool × Unit) × (Unit)) :=
  Go.Vm.runT cfg fin k [.inLoop (sub [1, 1, 0, 1, 0, 0] code), .inBlock 0, .code (sub [1, 1, 1] code)]
    ⟨[.val false [⟨(.sl (.int .i64)), .sh, x3⟩], .val false [⟨(.sl (.int .i64)), .sh, x4⟩], .dead, .dead, .dead, .dead, .dead, .dead, .dead, .dead, .dead, .dead, .val false [⟨(.int .i64), .sh, i5⟩], .val false [⟨(.int .i64), .sh, i6⟩]] ++ deads 12, []⟩
theorem l4_eq (k : Nat) (x3 : List Int) (x4 : List Int) (i5 : Int) (i6 : Int) : l4 (k + 1) x3 x4 i5 i6 =
  if (decide (i6 < i5)) = true then
    if 0 ≤ i6 ∧ i6 < (x3.length : Int) then
      if 0 ≤ i6 ∧ i6 < (x4.length : Int) then
        if ((x3.getD i6.toNat 0 : Int) != (x4.getD i6.toNat 0 : Int)) = true then
          some ((false, ()), ())
        else
          l4 k x3 x4 i5 (IntKind.i64.wrap (i6 + (1 : Int)))
      else
        none
    else
      none
  else
    some ((true, ()), ()) := by kernel_rfl
noncomputable def T (k : Nat) (s1_1 : List Int) (s2_2 : List Int) : Option ((Bool × Unit) × (Unit)) :=
  if ((s1_1.length : Int) != (s2_2.length : Int)) = true then
    some ((false, ()), ())
  else
    l4 k s1_1 s2_2 (s1_1.length : Int) (0 : Int)
theorem of (s1_1 : List Int) (s2_2 : List Int) {r : (Bool × Unit) × (Unit)} (h : Ev (fun k => T k s1_1 s2_2) r) : F (s1_1, s2_2, ()) = some r := Ev.run (fun k => by kernel_rfl) h
theorem ok : CtxOK prog ctx := ⟨nilM, mixed_ok, tab_ok tab_good, nilM, nilM, nilM⟩
theorem S : Sound prog ⟨259, sig, F⟩ := sound_k (res := [.tmp 4]) func259 ok
noncomputable def cloG (y : Unit) (d : List Int × List Int × Unit) : Option (Bool × Unit) := (F (joinIns [] [(false, (.sl (.int .i64))), (false, (.sl (.int .i64)))] d y)).map (·.1)
noncomputable def clo : Clo := ⟨259, ⟨[(false, (.sl (.int .i64))), (false, (.sl (.int .i64)))], [(.val false, .bool, .deep)]⟩, [], cloG⟩
theorem cloS : SoundClo prog clo := sound_clo (s := ⟨[(false, (.sl (.int .i64))), (false, (.sl (.int .i64)))], [(.val false, .bool, .deep)]⟩) (caps := []) rfl S
end slices_Equal_Lint64_int64
namespace impl_inOrder
noncomputable def sig : Sig := ⟨[.val false (.sl (.sl (.int .i64)))], [(.val true, (.sl (.sl (.int .i64))), .deep)]⟩
noncomputable def ctx : Ctx := ⟨tabOf tabl, [⟨156, impl_copyLists.sig, impl_copyLists.F⟩, ⟨257, slices_SortFunc_LLint64_Lint64.sig, slices_SortFunc_LLint64_Lint64.F⟩, ⟨258, slices_CompactFunc_LLint64_Lint64.sig, slices_CompactFunc_LLint64_Lint64.F⟩], [impl_compareSimplices.clo, slices_Equal_Lint64_int64.clo], [], [], []⟩
noncomputable def cfg : Cfg := ⟨ctx, [], [], fun _ => ([], []), fun _ => []⟩
noncomputable def code : Code := (f188).body.getD .skip
noncomputable def fin := finK ctx sig [.cell 2 32]
noncomputable def F (d : List (List Int) × Unit) : Option ((List (List Int) × Unit) × (Unit)) := anyK (runFn cfg fin code (initSt sig.ps d 11))
noncomputable def T (list_1 : List (List Int)) : Option ((List (List Int) × Unit) × (Unit)) :=
  (impl_copyLists.F (list_1, ())).bind fun r2 =>
    (slices_SortFunc_LLint64_Lint64.F (r2.1.1, impl_compareSimplices.cloG (()), ())).bind fun r3 =>
      (slices_CompactFunc_LLint64_Lint64.F (r3.2.1, slices_Equal_Lint64_int64.cloG (()), ())).bind fun r4 =>
        some ((r4.1.1, ()), ())
theorem eq (list_1 : List (List Int)) : F (list_1, ()) = T list_1 := eq_any fun k => by kernel_rfl
theorem ok : CtxOK prog ctx := ⟨nilM, mixed_ok, tab_ok tab_good, consM ⟨impl_copyLists.S, consM ⟨slices_SortFunc_LLint64_Lint64.S, consM ⟨slices_CompactFunc_LLint64_Lint64.S, nilM⟩⟩⟩, consM ⟨impl_compareSimplices.cloS, consM ⟨slices_Equal_Lint64_int64.cloS, nilM⟩⟩, nilM⟩
theorem S : Sound prog ⟨188, sig, F⟩ := sound_k (res := [.cell 2 32]) func188 ok
end impl_inOrder
namespace slices_BinarySearchFunc_LLint64_Lint64_Lint64
noncomputable def sig : Sig := ⟨[.val false (.sl (.sl (.int .i64))), .val false (.sl (.int .i64)), .fnx ⟨[(false, (.sl (.int .i64))), (false, (.sl (.int .i64)))], [(.val false, (.int .i64), .deep)]⟩], [(.val false, (.int .i64), .deep), (.val false, .bool, .deep)]⟩
noncomputable def ctx : Ctx := ⟨tabOf tabl, [], [], [], [], []⟩
noncomputable def cfg : Cfg := ⟨ctx, [], [], fun id => match id with | 3 => ([0, 1, 2, 8, 9, 10], []) | _ => ([], []), fun _ => []⟩
noncomputable def code : Code := (f202).body.getD .skip
noncomputable def fin := finK ctx sig [.tmp 6, .tmp 7]
noncomputable def F (d : List (List Int) × List Int × ((List Int × List Int × Unit) → Option (Int × Unit)) × Unit) : Option ((Int × Bool × Unit) × (Unit)) := anyK (runFn cfg fin code (initSt sig.ps d 49))
noncomputable def l3 (k : Nat) (x4 : List (List Int)) (x5 : List Int) (f6 : (List Int × List Int × Unit) → Option (Int × Unit)) (i7 : Int) (i8 : Int) (i9 : Int) : Option ((Int × Bool × Unit) × (Unit)) :=
  Go.Vm.runT cfg fin k [.inLoop (sub [1, 1, 1, 0, 0, 0] code), .inBlock 0, .code (sub [1, 1, 1, 1] code)]
    ⟨[.val false [⟨(.sl (.sl (.int .i64))), .sh, x4⟩], .val false [⟨(.sl (.int .i64)), .sh, x5⟩], .fnx ⟨[(false, (.sl (.int .i64))), (false, (.sl (.int .i64)))], [(.val false, (.int .i64), .deep)]⟩ f6, .dead, .dead, .dead, .dead, .dead, .val false [⟨(.int .i64), .sh, i7⟩], .val false [⟨(.int .i64), .sh, i8⟩], .val false [⟨(.int .i64), .sh, i9⟩]] ++ deads 38, []⟩
theorem l3_eq (k : Nat) (x4 : List (List Int)) (x5 : List Int) (f6 : (List Int × List Int × Unit) → Option (Int × Unit)) (i7 : Int) (i8 : Int) (i9 : Int) : l3 (k + 1) x4 x5 f6 i7 i8 i9 =
  if (decide (i8 < i9)) = true then
    if (1 : Int) < 0 then
      none
    else
      if 0 ≤ (IntKind.i64.wrap ((IntKind.u64.wrap (IntKind.i64.wrap (i8 + i9))).fdiv (2 ^ (min (1 : Int).toNat IntKind.u64.bits)))) ∧ (IntKind.i64.wrap ((IntKind.u64.wrap (IntKind.i64.wrap (i8 + i9))).fdiv (2 ^ (min (1 : Int).toNat IntKind.u64.bits)))) < (x4.length : Int) then
        (f6 (x4.getD (IntKind.i64.wrap ((IntKind.u64.wrap (IntKind.i64.wrap (i8 + i9))).fdiv (2 ^ (min (1 : Int).toNat IntKind.u64.bits)))).toNat ([] : List Int), x5, ())).bind fun r10 =>
          if (decide ((r10.1 : Int) < (0 : Int))) = true then
            l3 k x4 x5 f6 i7 (IntKind.i64.wrap ((IntKind.i64.wrap ((IntKind.u64.wrap (IntKind.i64.wrap (i8 + i9))).fdiv (2 ^ (min (1 : Int).toNat IntKind.u64.bits)))) + (1 : Int))) i9
          else
            l3 k x4 x5 f6 i7 i8 (IntKind.i64.wrap ((IntKind.u64.wrap (IntKind.i64.wrap (i8 + i9))).fdiv (2 ^ (min (1 : Int).toNat IntKind.u64.bits))))
      else
        none
  else
    if (decide (i8 < i7)) = true then
      if 0 ≤ i8 ∧ i8 < (x4.length : Int) then
        (f6 (x4.getD i8.toNat ([] : List Int), x5, ())).bind fun r11 =>
          some ((i8, ((r11.1 : Int) == (0 : Int), ())), ())
      else
        none
    else
      some ((i8, (false, ())), ()) := by kernel_rfl
noncomputable def T (k : Nat) (x_1 : List (List Int)) (target_2 : List Int) (f_3 : (List Int × List Int × Unit) → Option (Int × Unit)) : Option ((Int × Bool × Unit) × (Unit)) :=
  l3 k x_1 target_2 f_3 (x_1.length : Int) (0 : Int) (x_1.length : Int)
theorem of (x_1 : List (List Int)) (target_2 : List Int) (f_3 : (List Int × List Int × Unit) → Option (Int × Unit)) {r : (Int × Bool × Unit) × (Unit)} (h : Ev (fun k => T k x_1 target_2 f_3) r) : F (x_1, target_2, f_3, ()) = some r := Ev.run (fun k => by kernel_rfl) h
theorem ok : CtxOK prog ctx := ⟨nilM, mixed_ok, tab_ok tab_good, nilM, nilM, nilM⟩
theorem S : Sound prog ⟨202, sig, F⟩ := sound_k (res := [.tmp 6, .tmp 7]) func202 ok
end slices_BinarySearchFunc_LLint64_Lint64_Lint64
namespace impl_indexOf
noncomputable def sig : Sig := ⟨[.val true (.sl (.sl (.int .i64))), .val false (.sl (.int .i64))], [(.val false, (.int .i64), .deep)]⟩
noncomputable def ctx : Ctx := ⟨tabOf tabl, [⟨202, slices_BinarySearchFunc_LLint64_Lint64_Lint64.sig, slices_BinarySearchFunc_LLint64_Lint64_Lint64.F⟩], [impl_compareSimplices.clo], [], [], []⟩
noncomputable def cfg : Cfg := ⟨ctx, [], [], fun _ => ([], []), fun _ => []⟩
noncomputable def code : Code := (f107).body.getD .skip
noncomputable def fin := finK ctx sig [.tmp 4]
noncomputable def F (d : List (List Int) × List Int × Unit) : Option ((Int × Unit) × (Unit)) := anyK (runFn cfg fin code (initSt sig.ps d 17))
noncomputable def T (c_1 : List (List Int)) (s_2 : List Int) : Option ((Int × Unit) × (Unit)) :=
  (slices_BinarySearchFunc_LLint64_Lint64_Lint64.F (c_1, s_2, impl_compareSimplices.cloG (()), ())).bind fun r3 =>
    if (!(r3.1.2.1 : Bool)) = true then
      some (((-1 : Int), ()), ())
    else
      some (((r3.1.1 : Int), ()), ())
theorem eq (c_1 : List (List Int)) (s_2 : List Int) : F (c_1, s_2, ()) = T c_1 s_2 := eq_any fun k => by kernel_rfl
theorem ok : CtxOK prog ctx := ⟨nilM, mixed_ok, tab_ok tab_good, consM ⟨slices_BinarySearchFunc_LLint64_Lint64_Lint64.S, nilM⟩, consM ⟨impl_compareSimplices.cloS, nilM⟩, nilM⟩
theorem S : Sound prog ⟨107, sig, F⟩ := sound_k (res := [.tmp 4]) func107 ok
end impl_indexOf
namespace slices_Concat_Lint64_int64
noncomputable def sig : Sig := ⟨[.val false (.sl (.sl (.int .i64)))], [(.val false, (.sl (.int .i64)), .deep)]⟩
noncomputable def ctx : Ctx := ⟨tabOf tabl, [], [], [], [(293, (.int .i64))], []⟩
noncomputable def cfg : Cfg := ⟨ctx, [], [], fun id => match id with | 3 => ([0, 3, 9, 10, 11], []) | 11 => ([6, 25, 26, 27], [24]) | _ => ([], []), fun _ => []⟩
noncomputable def code : Code := (f273).body.getD .skip
noncomputable def fin := finK ctx sig [.tmp 2]
noncomputable def F (d : List (List Int) × Unit) : Option ((List Int × Unit) × (Unit)) := anyK (runFn cfg fin code (initSt sig.ps d 36))
noncomputable def l3 (k : Nat) (x2 : List (List Int)) (i3 : Int) (x4 : List (List Int)) (i5 : Int) (i6 : Int) : Option ((List Int × Unit) × (Unit)) :=
  Go.Vm.runT cfg fin k [.inLoop (sub [1, 1, 0, 1, 0, 0] code), .inBlock 0, .code (sub [1, 1, 1] code)]
    ⟨[.val false [⟨(.sl (.sl (.int .i64))), .sh, x2⟩], .dead, .dead, .val false [⟨(.int .i64), .sh, i3⟩], .dead, .dead, .dead, .dead, .dead, .val false [⟨(.sl (.sl (.int .i64))), .sh, x4⟩], .val false [⟨(.int .i64), .sh, i5⟩], .val false [⟨(.int .i64), .sh, i6⟩]] ++ deads 24, []⟩
noncomputable def l11 (k : Nat) (x7 : List (List Int)) (i8 : Int) (i9 : Int) (x10 : List Int) : Option ((List Int × Unit) × (Unit)) :=
  Go.Vm.runT cfg fin k [.inLoop (sub [1, 1, 1, 1, 0, 1, 0, 0] code), .inBlock 2, .code (sub [1, 1, 1, 1, 1] code)]
    ⟨[.dead, .dead, .dead, .dead, .dead, .dead, .view 24 (.root 0) 1 false, .dead, .dead, .dead, .dead, .dead, .dead, .dead, .dead, .dead, .dead, .dead, .dead, .dead, .dead, .dead, .dead, .dead, .dead, .val false [⟨(.sl (.sl (.int .i64))), .sh, x7⟩], .val false [⟨(.int .i64), .sh, i8⟩], .val false [⟨(.int .i64), .sh, i9⟩]] ++ deads 8, [(24, ⟨false, [⟨(.sl (.int .i64)), .deep, x10⟩]⟩)]⟩
theorem l3_eq (k : Nat) (x2 : List (List Int)) (i3 : Int) (x4 : List (List Int)) (i5 : Int) (i6 : Int) : l3 (k + 1) x2 i3 x4 i5 i6 =
  if (decide (i6 < i5)) = true then
    if 0 ≤ i6 ∧ i6 < (x4.length : Int) then
      if (decide ((IntKind.i64.wrap (i3 + ((x4.getD i6.toNat ([] : List Int)).length : Int))) < (0 : Int))) = true then
        none
      else
        l3 k x2 (IntKind.i64.wrap (i3 + ((x4.getD i6.toNat ([] : List Int)).length : Int))) x4 i5 (IntKind.i64.wrap (i6 + (1 : Int)))
    else
      none
  else
    if 0 ≤ i3 ∧ i3 ≤ (bigN : Int) then
      l11 k x2 (x2.length : Int) (0 : Int) ([] : List Int)
    else
      none := by kernel_rfl
theorem l11_eq (k : Nat) (x7 : List (List Int)) (i8 : Int) (i9 : Int) (x10 : List Int) : l11 (k + 1) x7 i8 i9 x10 =
  if (decide (i9 < i8)) = true then
    if 0 ≤ i9 ∧ i9 < (x7.length : Int) then
      if x10.length + (x7.getD i9.toNat ([] : List Int)).length ≤ bigA then
        l11 k x7 i8 (IntKind.i64.wrap (i9 + (1 : Int))) (x10 ++ (x7.getD i9.toNat ([] : List Int)))
      else
        none
    else
      none
  else
    some ((x10, ()), ()) := by kernel_rfl
noncomputable def T (k : Nat) (slices_1 : List (List Int)) : Option ((List Int × Unit) × (Unit)) :=
  l3 k slices_1 (0 : Int) slices_1 (slices_1.length : Int) (0 : Int)
theorem of (slices_1 : List (List Int)) {r : (List Int × Unit) × (Unit)} (h : Ev (fun k => T k slices_1) r) : F (slices_1, ()) = some r := Ev.run (fun k => by kernel_rfl) h
theorem ok : CtxOK prog ctx := ⟨nilM, mixed_ok, tab_ok tab_good, nilM, nilM, consM ⟨slices_Grow_Lint64_int64.growOK, nilM⟩⟩
theorem S : Sound prog ⟨273, sig, F⟩ := sound_k (res := [.tmp 2]) func273 ok
end slices_Concat_Lint64_int64
namespace impl_facesOf
noncomputable def sig : Sig := ⟨[.val false (.sl (.int .i64))], [(.val false, (.sl (.sl (.int .i64))), .deep)]⟩
noncomputable def ctx : Ctx := ⟨tabOf tabl, [⟨273, slices_Concat_Lint64_int64.sig, slices_Concat_Lint64_int64.F⟩], [], [], [], []⟩
noncomputable def cfg : Cfg := ⟨ctx, [], [], fun id => match id with | 3 => ([0, 3, 6, 7], [12]) | _ => ([], []), fun _ => []⟩
noncomputable def code : Code := (f197).body.getD .skip
noncomputable def fin := finK ctx sig [.tmp 2]
noncomputable def F (d : List Int × Unit) : Option ((List (List Int) × Unit) × (Unit)) := anyK (runFn cfg fin code (initSt sig.ps d 27))
noncomputable def l3 (k : Nat) (x2 : List Int) (i3 : Int) (i4 : Int) (x5 : List (List Int)) : Option ((List (List Int) × Unit) × (Unit)) :=
  Go.Vm.runT cfg fin k [.inLoop (sub [1, 1, 0, 1, 0, 0] code), .inBlock 0, .code (sub [1, 1, 1] code)]
    ⟨[.val false [⟨(.sl (.int .i64)), .sh, x2⟩], .dead, .dead, .view 12 (.root 0) 1 false, .dead, .dead, .val false [⟨(.int .i64), .sh, i3⟩], .val false [⟨(.int .i64), .sh, i4⟩]] ++ deads 19, [(12, ⟨false, [⟨(.sl (.sl (.int .i64))), .deep, x5⟩]⟩)]⟩
theorem l3_eq (k : Nat) (x2 : List Int) (i3 : Int) (i4 : Int) (x5 : List (List Int)) : l3 (k + 1) x2 i3 i4 x5 =
  if (decide (i4 < i3)) = true then
    if (decide ((x2.length : Int) > (1 : Int))) = true then
      if 0 ≤ (0 : Int) ∧ (0 : Int) ≤ i4 ∧ i4 ≤ (x2.length : Int) then
        if 0 ≤ (IntKind.i64.wrap (i4 + (1 : Int))) ∧ (IntKind.i64.wrap (i4 + (1 : Int))) ≤ (x2.length : Int) ∧ (x2.length : Int) ≤ (x2.length : Int) then
          (slices_Concat_Lint64_int64.F ([cutL x2 (0 : Int) i4, cutL x2 (IntKind.i64.wrap (i4 + (1 : Int))) (x2.length : Int)], ())).bind fun r6 =>
            if x5.length + ([r6.1.1] : List (List Int)).length ≤ bigA then
              l3 k x2 i3 (IntKind.i64.wrap (i4 + (1 : Int))) (x5 ++ ([r6.1.1]))
            else
              none
        else
          none
      else
        none
    else
      l3 k x2 i3 (IntKind.i64.wrap (i4 + (1 : Int))) x5
  else
    some ((x5, ()), ()) := by kernel_rfl
noncomputable def T (k : Nat) (s_1 : List Int) : Option ((List (List Int) × Unit) × (Unit)) :=
  l3 k s_1 (s_1.length : Int) (0 : Int) ([])
theorem of (s_1 : List Int) {r : (List (List Int) × Unit) × (Unit)} (h : Ev (fun k => T k s_1) r) : F (s_1, ()) = some r := Ev.run (fun k => by kernel_rfl) h
theorem ok : CtxOK prog ctx := ⟨nilM, mixed_ok, tab_ok tab_good, consM ⟨slices_Concat_Lint64_int64.S, nilM⟩, nilM, nilM⟩
theorem S : Sound prog ⟨197, sig, F⟩ := sound_k (res := [.tmp 2]) func197 ok
end impl_facesOf
namespace impl_faceIndices
noncomputable def sig : Sig := ⟨[.val true (.sl (.sl (.int .i64))), .val false (.int .i64)], [(.val false, (.sl (.int .i64)), .deep)]⟩
noncomputable def ctx : Ctx := ⟨tabOf tabl, [⟨107, impl_indexOf.sig, impl_indexOf.F⟩, ⟨197, impl_facesOf.sig, impl_facesOf.F⟩], [], [], [], []⟩
noncomputable def cfg : Cfg := ⟨ctx, [], [], fun id => match id with | 3 => ([2, 5, 13, 14, 15], [8, 20, 52]) | _ => ([], []), fun _ => []⟩
noncomputable def code : Code := (f162).body.getD .skip
noncomputable def fin := finK ctx sig [.tmp 4]
noncomputable def F (d : List (List Int) × Int × Unit) : Option ((List Int × Unit) × (Unit)) := anyK (runFn cfg fin code (initSt sig.ps d 27))
noncomputable def l3 (k : Nat) (i4 : Int) (i5 : Int) (x6 : List (List Int)) (x7 : List Int) (x8 : List (List Int)) : Option ((List Int × Unit) × (Unit)) :=
  Go.Vm.runT cfg fin k [.inLoop (sub [1, 1, 0, 1, 0, 0] code), .inBlock 0, .code (sub [1, 1, 1] code)]
    ⟨[.dead, .dead, .ref 8 (.root 0), .dead, .dead, .view 20 (.root 0) 1 false, .dead, .dead, .dead, .dead, .dead, .dead, .dead, .view 52 (.root 0) 1 false, .val false [⟨(.int .i64), .sh, i4⟩], .val false [⟨(.int .i64), .sh, i5⟩]] ++ deads 11, [(8, ⟨true, [⟨(.sl (.sl (.int .i64))), .sh, x6⟩]⟩), (20, ⟨false, [⟨(.sl (.int .i64)), .deep, x7⟩]⟩), (52, ⟨false, [⟨(.sl (.sl (.int .i64))), .deep, x8⟩]⟩)]⟩
theorem l3_eq (k : Nat) (i4 : Int) (i5 : Int) (x6 : List (List Int)) (x7 : List Int) (x8 : List (List Int)) : l3 (k + 1) i4 i5 x6 x7 x8 =
  if (decide (i5 < i4)) = true then
    if 0 ≤ i5 ∧ i5 < (x8.length : Int) then
      (impl_indexOf.F (x6, x8.getD i5.toNat ([] : List Int), ())).bind fun r9 =>
        if x7.length + ([(r9.1.1 : Int)] : List Int).length ≤ bigA then
          l3 k i4 (IntKind.i64.wrap (i5 + (1 : Int))) x6 (x7 ++ ([(r9.1.1 : Int)])) x8
        else
          none
    else
      none
  else
    some ((x7, ()), ()) := by kernel_rfl
noncomputable def T (k : Nat) (c_1 : List (List Int)) (k_2 : Int) : Option ((List Int × Unit) × (Unit)) :=
  if 0 ≤ k_2 ∧ k_2 < (c_1.length : Int) then
    (impl_facesOf.F (c_1.getD k_2.toNat ([] : List Int), ())).bind fun r3 =>
      l3 k (r3.1.1.length : Int) (0 : Int) c_1 ([]) r3.1.1
  else
    none
theorem of (c_1 : List (List Int)) (k_2 : Int) {r : (List Int × Unit) × (Unit)} (h : Ev (fun k => T k c_1 k_2) r) : F (c_1, k_2, ()) = some r := Ev.run (fun k => by kernel_rfl) h
theorem ok : CtxOK prog ctx := ⟨nilM, mixed_ok, tab_ok tab_good, consM ⟨impl_indexOf.S, consM ⟨impl_facesOf.S, nilM⟩⟩, nilM, nilM⟩
theorem S : Sound prog ⟨162, sig, F⟩ := sound_k (res := [.tmp 4]) func162 ok
end impl_faceIndices
namespace impl_size_Lint64
noncomputable def sig : Sig := ⟨[.val false (.sl (.sl (.int .i64)))], [(.val false, (.int .i64), .deep)]⟩
noncomputable def ctx : Ctx := ⟨tabOf tabl, [], [], [], [], []⟩
noncomputable def cfg : Cfg := ⟨ctx, [], [], fun _ => ([], []), fun _ => []⟩
noncomputable def code : Code := (f224).body.getD .skip
noncomputable def fin := finK ctx sig [.tmp 2]
noncomputable def F (d : List (List Int) × Unit) : Option ((Int × Unit) × (Unit)) := anyK (runFn cfg fin code (initSt sig.ps d 5))
noncomputable def T (list_1 : List (List Int)) : Option ((Int × Unit) × (Unit)) :=
  some (((list_1.length : Int), ()), ())
theorem eq (list_1 : List (List Int)) : F (list_1, ()) = T list_1 := eq_any fun k => by kernel_rfl
theorem ok : CtxOK prog ctx := ⟨nilM, mixed_ok, tab_ok tab_good, nilM, nilM, nilM⟩
theorem S : Sound prog ⟨224, sig, F⟩ := sound_k (res := [.tmp 2]) func224 ok
end impl_size_Lint64
namespace impl_arrows
noncomputable def sig : Sig := ⟨[.val true (.sl (.sl (.int .i64)))], [(.val false, (.sl TEdge), .deep)]⟩
noncomputable def ctx : Ctx := ⟨tabOf tabl, [⟨162, impl_faceIndices.sig, impl_faceIndices.F⟩, ⟨224, impl_size_Lint64.sig, impl_size_Lint64.F⟩], [], [], [], []⟩
noncomputable def cfg : Cfg := ⟨ctx, [], [], fun id => match id with | 3 => ([1, 3, 9, 10], [4, 12]) | 6 => ([1, 3, 4, 9, 10, 15, 16, 17], [4, 12, 60]) | _ => ([], []), fun _ => []⟩
noncomputable def code : Code := (f210).body.getD .skip
noncomputable def fin := finK ctx sig [.tmp 2]
noncomputable def F (d : List (List Int) × Unit) : Option ((List (Int × Int × Int) × Unit) × (Unit)) := anyK (runFn cfg fin code (initSt sig.ps d 32))
noncomputable def l3 (k : Nat) (i3 : Int) (i4 : Int) (x5 : List (List Int)) (x6 : List (Int × Int × Int)) : Option ((List (Int × Int × Int) × Unit) × (Unit)) :=
  Go.Vm.runT cfg fin k [.inLoop (sub [1, 1, 0, 1, 0, 0] code), .inBlock 0, .code (sub [1, 1, 1] code)]
    ⟨[.dead, .ref 4 (.root 0), .dead, .view 12 (.root 0) 1 false, .dead, .dead, .dead, .dead, .dead, .val false [⟨(.int .i64), .sh, i3⟩], .val false [⟨(.int .i64), .sh, i4⟩]] ++ deads 21, [(4, ⟨true, [⟨(.sl (.sl (.int .i64))), .sh, x5⟩]⟩), (12, ⟨false, [⟨(.sl TEdge), .deep, x6⟩]⟩)]⟩
noncomputable def l6 (k : Nat) (i8 : Int) (i9 : Int) (i10 : Int) (i11 : Int) (i12 : Int) (x13 : List (List Int)) (x14 : List (Int × Int × Int)) (x15 : List Int) : Option ((List (Int × Int × Int) × Unit) × (Unit)) :=
  Go.Vm.runT cfg fin k [.inLoop (sub [1, 1, 0, 1, 0, 0, 1, 1, 0, 0, 1, 1, 0, 0] code), .inBlock 2, .inBlock 1, .code (sub [1, 1, 0, 1, 0, 0, 1, 1, 1] code), .inLoop (sub [1, 1, 0, 1, 0, 0] code), .inBlock 0, .code (sub [1, 1, 1] code)]
    ⟨[.dead, .ref 4 (.root 0), .dead, .view 12 (.root 0) 1 false, .val false [⟨(.int .i64), .sh, i8⟩], .dead, .dead, .dead, .dead, .val false [⟨(.int .i64), .sh, i9⟩], .val false [⟨(.int .i64), .sh, i10⟩], .dead, .dead, .dead, .dead, .view 60 (.root 0) 1 false, .val false [⟨(.int .i64), .sh, i11⟩], .val false [⟨(.int .i64), .sh, i12⟩]] ++ deads 14, [(4, ⟨true, [⟨(.sl (.sl (.int .i64))), .sh, x13⟩]⟩), (12, ⟨false, [⟨(.sl TEdge), .deep, x14⟩]⟩), (60, ⟨false, [⟨(.sl (.int .i64)), .deep, x15⟩]⟩)]⟩
theorem l3_eq (k : Nat) (i3 : Int) (i4 : Int) (x5 : List (List Int)) (x6 : List (Int × Int × Int)) : l3 (k + 1) i3 i4 x5 x6 =
  if (decide (i4 < i3)) = true then
    (impl_faceIndices.F (x5, i4, ())).bind fun r7 =>
      l6 k i4 i3 i4 (r7.1.1.length : Int) (0 : Int) x5 x6 r7.1.1
  else
    some ((x6, ()), ()) := by kernel_rfl
theorem l6_eq (k : Nat) (i8 : Int) (i9 : Int) (i10 : Int) (i11 : Int) (i12 : Int) (x13 : List (List Int)) (x14 : List (Int × Int × Int)) (x15 : List Int) : l6 (k + 1) i8 i9 i10 i11 i12 x13 x14 x15 =
  if (decide (i12 < i11)) = true then
    if 0 ≤ i12 ∧ i12 < (x15.length : Int) then
      if x14.length + ([(i8, (i12, (x15.getD i12.toNat 0 : Int)))] : List (Int × Int × Int)).length ≤ bigA then
        l6 k i8 i9 i10 i11 (IntKind.i64.wrap (i12 + (1 : Int))) x13 (x14 ++ ([(i8, (i12, (x15.getD i12.toNat 0 : Int)))])) x15
      else
        none
    else
      none
  else
    l3 k i9 (IntKind.i64.wrap (i10 + (1 : Int))) x13 x14 := by kernel_rfl
noncomputable def T (k : Nat) (c_1 : List (List Int)) : Option ((List (Int × Int × Int) × Unit) × (Unit)) :=
  (impl_size_Lint64.F (c_1, ())).bind fun r2 =>
    l3 k (r2.1.1 : Int) (0 : Int) c_1 ([])
theorem of (c_1 : List (List Int)) {r : (List (Int × Int × Int) × Unit) × (Unit)} (h : Ev (fun k => T k c_1) r) : F (c_1, ()) = some r := Ev.run (fun k => by kernel_rfl) h
theorem ok : CtxOK prog ctx := ⟨nilM, mixed_ok, tab_ok tab_good, consM ⟨impl_faceIndices.S, consM ⟨impl_size_Lint64.S, nilM⟩⟩, nilM, nilM⟩
theorem S : Sound prog ⟨210, sig, F⟩ := sound_k (res := [.tmp 2]) func210 ok
end impl_arrows
namespace impl_copyMatrix
noncomputable def sig : Sig := ⟨[.val true TMatrix], [(.val true, TMatrix, .deep)]⟩
noncomputable def ctx : Ctx := ⟨tabOf tabl, [⟨157, slices_Clone_Lint64_int64.sig, slices_Clone_Lint64_int64.F⟩], [], [], [], []⟩
noncomputable def cfg : Cfg := ⟨ctx, [], [], fun _ => ([], []), fun _ => []⟩
noncomputable def code : Code := (f211).body.getD .skip
noncomputable def fin := finK ctx sig [.cell 2 87]
noncomputable def F (d : (Int × Int × Int × List Int) × Unit) : Option (((Int × Int × Int × List Int) × Unit) × (Unit)) := anyK (runFn cfg fin code (initSt sig.ps d 8))
noncomputable def T (m_1 : Int) (m_2 : Int) (m_3 : Int) (m_4 : List Int) : Option (((Int × Int × Int × List Int) × Unit) × (Unit)) :=
  (slices_Clone_Lint64_int64.F (m_4, ())).bind fun r5 =>
    some (((m_1, (m_2, (m_3, r5.1.1))), ()), ())
theorem eq (m_1 : Int) (m_2 : Int) (m_3 : Int) (m_4 : List Int) : F ((m_1, (m_2, (m_3, m_4))), ()) = T m_1 m_2 m_3 m_4 := eq_any fun k => by kernel_rfl
theorem ok : CtxOK prog ctx := ⟨nilM, mixed_ok, tab_ok tab_good, consM ⟨slices_Clone_Lint64_int64.S, nilM⟩, nilM, nilM⟩
theorem S : Sound prog ⟨211, sig, F⟩ := sound_k (res := [.cell 2 87]) func211 ok
end impl_copyMatrix
namespace impl_sheafOf
noncomputable def sig : Sig := ⟨[.val true (.sl (.sl (.int .i64))), .val false (.int .i64), .val false (.sl (.int .i64)), .fnx ⟨[(true, TEdge)], [(.val true, TMatrix, .deep)]⟩], [(.val true, TSheaf, .deep)]⟩
noncomputable def ctx : Ctx := ⟨tabOf tabl, [⟨157, slices_Clone_Lint64_int64.sig, slices_Clone_Lint64_int64.F⟩, ⟨188, impl_inOrder.sig, impl_inOrder.F⟩, ⟨210, impl_arrows.sig, impl_arrows.F⟩, ⟨211, impl_copyMatrix.sig, impl_copyMatrix.F⟩], [], [], [], []⟩
noncomputable def cfg : Cfg := ⟨ctx, [], [], fun id => match id with | 3 => ([3, 8, 9, 20, 21, 22], [32, 36, 80]) | _ => ([], []), fun _ => []⟩
noncomputable def code : Code := (f122).body.getD .skip
noncomputable def fin := finK ctx sig [.cell 8 46]
noncomputable def F (d : List (List Int) × Int × List Int × (((Int × Int × Int) × Unit) → Option ((Int × Int × Int × List Int) × Unit)) × Unit) : Option (((List (List Int) × Int × List Int × List (Int × Int × Int × List Int)) × Unit) × (Unit)) := anyK (runFn cfg fin code (initSt sig.ps d 37))
noncomputable def l3 (k : Nat) (f8 : ((Int × Int × Int) × Unit) → Option ((Int × Int × Int × List Int) × Unit)) (i9 : Int) (i10 : Int) (x11 : List (List Int)) (i12 : Int) (x13 : List Int) (x14 : List (Int × Int × Int × List Int)) (x15 : List (List Int)) (i16 : Int) (x17 : List Int) (x18 : List (Int × Int × Int × List Int)) (x19 : List (Int × Int × Int)) : Option (((List (List Int) × Int × List Int × List (Int × Int × Int × List Int)) × Unit) × (Unit)) :=
  Go.Vm.runT cfg fin k [.inLoop (sub [1, 1, 0, 1, 0, 0] code), .inBlock 0, .code (sub [1, 1, 1] code)]
    ⟨[.dead, .dead, .dead, .fnx ⟨[(true, TEdge)], [(.val true, TMatrix, .deep)]⟩ f8, .dead, .dead, .dead, .dead, .ref 32 (.root 0), .ref 36 (.root 0), .dead, .dead, .dead, .dead, .dead, .dead, .dead, .dead, .dead, .dead, .view 80 (.root 0) 1 false, .val false [⟨(.int .i64), .sh, i9⟩], .val false [⟨(.int .i64), .sh, i10⟩]] ++ deads 14, [(32, ⟨true, [⟨(.sl (.sl (.int .i64))), .deep, x11⟩, ⟨(.int .i64), .sh, i12⟩, ⟨(.sl (.int .i64)), .deep, x13⟩, ⟨(.sl TMatrix), .deep, x14⟩]⟩), (36, ⟨true, [⟨(.sl (.sl (.int .i64))), .deep, x15⟩, ⟨(.int .i64), .sh, i16⟩, ⟨(.sl (.int .i64)), .deep, x17⟩, ⟨(.sl TMatrix), .deep, x18⟩]⟩), (80, ⟨false, [⟨(.sl TEdge), .deep, x19⟩]⟩)]⟩
theorem l3_eq (k : Nat) (f8 : ((Int × Int × Int) × Unit) → Option ((Int × Int × Int × List Int) × Unit)) (i9 : Int) (i10 : Int) (x11 : List (List Int)) (i12 : Int) (x13 : List Int) (x14 : List (Int × Int × Int × List Int)) (x15 : List (List Int)) (i16 : Int) (x17 : List Int) (x18 : List (Int × Int × Int × List Int)) (x19 : List (Int × Int × Int)) : l3 (k + 1) f8 i9 i10 x11 i12 x13 x14 x15 i16 x17 x18 x19 =
  if (decide (i10 < i9)) = true then
    if 0 ≤ i10 ∧ i10 < (x19.length : Int) then
      (f8 (x19.getD i10.toNat (0, 0, 0), ())).bind fun r20 =>
        (impl_copyMatrix.F (r20.1, ())).bind fun r21 =>
          if x18.length + ([r21.1.1] : List (Int × Int × Int × List Int)).length ≤ bigA then
            l3 k f8 i9 (IntKind.i64.wrap (i10 + (1 : Int))) x11 i12 x13 x14 x15 i16 x17 (x18 ++ ([r21.1.1])) x19
          else
            none
    else
      none
  else
    some (((x15, (i16, (x17, x18))), ()), ()) := by kernel_rfl
noncomputable def T (k : Nat) (c_1 : List (List Int)) (p_2 : Int) (stalks_3 : List Int) (f_4 : ((Int × Int × Int) × Unit) → Option ((Int × Int × Int × List Int) × Unit)) : Option (((List (List Int) × Int × List Int × List (Int × Int × Int × List Int)) × Unit) × (Unit)) :=
  (impl_inOrder.F (c_1, ())).bind fun r5 =>
    (slices_Clone_Lint64_int64.F (stalks_3, ())).bind fun r6 =>
      (impl_arrows.F (c_1, ())).bind fun r7 =>
        l3 k f_4 (r7.1.1.length : Int) (0 : Int) ([]) 0 ([]) ([]) r5.1.1 p_2 r6.1.1 ([]) r7.1.1
theorem of (c_1 : List (List Int)) (p_2 : Int) (stalks_3 : List Int) (f_4 : ((Int × Int × Int) × Unit) → Option ((Int × Int × Int × List Int) × Unit)) {r : ((List (List Int) × Int × List Int × List (Int × Int × Int × List Int)) × Unit) × (Unit)} (h : Ev (fun k => T k c_1 p_2 stalks_3 f_4) r) : F (c_1, p_2, stalks_3, f_4, ()) = some r := Ev.run (fun k => by kernel_rfl) h
theorem ok : CtxOK prog ctx := ⟨nilM, mixed_ok, tab_ok tab_good, consM ⟨slices_Clone_Lint64_int64.S, consM ⟨impl_inOrder.S, consM ⟨impl_arrows.S, consM ⟨impl_copyMatrix.S, nilM⟩⟩⟩⟩, nilM, nilM⟩
theorem S : Sound prog ⟨122, sig, F⟩ := sound_k (res := [.cell 8 46]) func122 ok
end impl_sheafOf
namespace slices_IndexFunc_Limpl_Sheaf_impl_Sheaf
noncomputable def sig : Sig := ⟨[.val false (.sl TSheaf), .fnx ⟨[(true, TSheaf)], [(.val false, .bool, .deep)]⟩], [(.val false, (.int .i64), .deep)]⟩
noncomputable def ctx : Ctx := ⟨tabOf tabl, [], [], [], [], []⟩
noncomputable def cfg : Cfg := ⟨ctx, [], [], fun id => match id with | 2 => ([0, 1, 7, 8], []) | _ => ([], []), fun _ => []⟩
noncomputable def code : Code := (f277).body.getD .skip
noncomputable def fin := finK ctx sig [.tmp 4]
noncomputable def F (d : List (List (List Int) × Int × List Int × List (Int × Int × Int × List Int)) × (((List (List Int) × Int × List Int × List (Int × Int × Int × List Int)) × Unit) → Option (Bool × Unit)) × Unit) : Option ((Int × Unit) × (Unit)) := anyK (runFn cfg fin code (initSt sig.ps d 19))
noncomputable def l2 (k : Nat) (x3 : List (List (List Int) × Int × List Int × List (Int × Int × Int × List Int))) (f4 : ((List (List Int) × Int × List Int × List (Int × Int × Int × List Int)) × Unit) → Option (Bool × Unit)) (i5 : Int) (i6 : Int) : Option ((Int × Unit) × (Unit)) :=
  Go.Vm.runT cfg fin k [.inLoop (sub [1, 0, 1, 0, 0] code), .inBlock 0, .code (sub [1, 1] code)]
    ⟨[.val false [⟨(.sl TSheaf), .sh, x3⟩], .fnx ⟨[(true, TSheaf)], [(.val false, .bool, .deep)]⟩ f4, .dead, .dead, .dead, .dead, .dead, .val false [⟨(.int .i64), .sh, i5⟩], .val false [⟨(.int .i64), .sh, i6⟩]] ++ deads 10, []⟩
theorem l2_eq (k : Nat) (x3 : List (List (List Int) × Int × List Int × List (Int × Int × Int × List Int))) (f4 : ((List (List Int) × Int × List Int × List (Int × Int × Int × List Int)) × Unit) → Option (Bool × Unit)) (i5 : Int) (i6 : Int) : l2 (k + 1) x3 f4 i5 i6 =
  if (decide (i6 < i5)) = true then
    if 0 ≤ i6 ∧ i6 < (x3.length : Int) then
      (f4 (x3.getD i6.toNat (([] : List (List Int)), 0, ([] : List Int), ([] : List (Int × Int × Int × List Int))), ())).bind fun r7 =>
        if (r7.1 : Bool) = true then
          some ((i6, ()), ())
        else
          l2 k x3 f4 i5 (IntKind.i64.wrap (i6 + (1 : Int)))
    else
      none
  else
    some (((-1 : Int), ()), ()) := by kernel_rfl
noncomputable def T (k : Nat) (s_1 : List (List (List Int) × Int × List Int × List (Int × Int × Int × List Int))) (f_2 : ((List (List Int) × Int × List Int × List (Int × Int × Int × List Int)) × Unit) → Option (Bool × Unit)) : Option ((Int × Unit) × (Unit)) :=
  l2 k s_1 f_2 (s_1.length : Int) (0 : Int)
theorem of (s_1 : List (List (List Int) × Int × List Int × List (Int × Int × Int × List Int))) (f_2 : ((List (List Int) × Int × List Int × List (Int × Int × Int × List Int)) × Unit) → Option (Bool × Unit)) {r : (Int × Unit) × (Unit)} (h : Ev (fun k => T k s_1 f_2) r) : F (s_1, f_2, ()) = some r := Ev.run (fun k => by kernel_rfl) h
theorem ok : CtxOK prog ctx := ⟨nilM, mixed_ok, tab_ok tab_good, nilM, nilM, nilM⟩
theorem S : Sound prog ⟨277, sig, F⟩ := sound_k (res := [.tmp 4]) func277 ok
end slices_IndexFunc_Limpl_Sheaf_impl_Sheaf
namespace slices_ContainsFunc_Limpl_Sheaf_impl_Sheaf
noncomputable def sig : Sig := ⟨[.val false (.sl TSheaf), .fnx ⟨[(true, TSheaf)], [(.val false, .bool, .deep)]⟩], [(.val false, .bool, .deep)]⟩
noncomputable def ctx : Ctx := ⟨tabOf tabl, [⟨277, slices_IndexFunc_Limpl_Sheaf_impl_Sheaf.sig, slices_IndexFunc_Limpl_Sheaf_impl_Sheaf.F⟩], [], [], [], []⟩
noncomputable def cfg : Cfg := ⟨ctx, [], [], fun _ => ([], []), fun _ => []⟩
noncomputable def code : Code := (f216).body.getD .skip
noncomputable def fin := finK ctx sig [.tmp 4]
noncomputable def F (d : List (List (List Int) × Int × List Int × List (Int × Int × Int × List Int)) × (((List (List Int) × Int × List Int × List (Int × Int × Int × List Int)) × Unit) → Option (Bool × Unit)) × Unit) : Option ((Bool × Unit) × (Unit)) := anyK (runFn cfg fin code (initSt sig.ps d 9))
noncomputable def T (s_1 : List (List (List Int) × Int × List Int × List (Int × Int × Int × List Int))) (f_2 : ((List (List Int) × Int × List Int × List (Int × Int × Int × List Int)) × Unit) → Option (Bool × Unit)) : Option ((Bool × Unit) × (Unit)) :=
  (slices_IndexFunc_Limpl_Sheaf_impl_Sheaf.F (s_1, f_2, ())).bind fun r3 =>
    some ((decide ((r3.1.1 : Int) ≥ (0 : Int)), ()), ())
theorem eq (s_1 : List (List (List Int) × Int × List Int × List (Int × Int × Int × List Int))) (f_2 : ((List (List Int) × Int × List Int × List (Int × Int × Int × List Int)) × Unit) → Option (Bool × Unit)) : F (s_1, f_2, ()) = T s_1 f_2 := eq_any fun k => by kernel_rfl
theorem ok : CtxOK prog ctx := ⟨nilM, mixed_ok, tab_ok tab_good, consM ⟨slices_IndexFunc_Limpl_Sheaf_impl_Sheaf.S, nilM⟩, nilM, nilM⟩
theorem S : Sound prog ⟨216, sig, F⟩ := sound_k (res := [.tmp 4]) func216 ok
end slices_ContainsFunc_Limpl_Sheaf_impl_Sheaf
namespace slices_IndexFunc_Lint64_int64
noncomputable def sig : Sig := ⟨[.val false (.sl (.int .i64)), .fnx ⟨[(false, (.int .i64))], [(.val false, .bool, .deep)]⟩], [(.val false, (.int .i64), .deep)]⟩
noncomputable def ctx : Ctx := ⟨tabOf tabl, [], [], [], [], []⟩
noncomputable def cfg : Cfg := ⟨ctx, [], [], fun id => match id with | 2 => ([0, 1, 7, 8], []) | _ => ([], []), fun _ => []⟩
noncomputable def code : Code := (f209).body.getD .skip
noncomputable def fin := finK ctx sig [.tmp 4]
noncomputable def F (d : List Int × ((Int × Unit) → Option (Bool × Unit)) × Unit) : Option ((Int × Unit) × (Unit)) := anyK (runFn cfg fin code (initSt sig.ps d 19))
noncomputable def l2 (k : Nat) (x3 : List Int) (f4 : (Int × Unit) → Option (Bool × Unit)) (i5 : Int) (i6 : Int) : Option ((Int × Unit) × (Unit)) :=
  Go.Vm.runT cfg fin k [.inLoop (sub [1, 0, 1, 0, 0] code), .inBlock 0, .code (sub [1, 1] code)]
    ⟨[.val false [⟨(.sl (.int .i64)), .sh, x3⟩], .fnx ⟨[(false, (.int .i64))], [(.val false, .bool, .deep)]⟩ f4, .dead, .dead, .dead, .dead, .dead, .val false [⟨(.int .i64), .sh, i5⟩], .val false [⟨(.int .i64), .sh, i6⟩]] ++ deads 10, []⟩
theorem l2_eq (k : Nat) (x3 : List Int) (f4 : (Int × Unit) → Option (Bool × Unit)) (i5 : Int) (i6 : Int) : l2 (k + 1) x3 f4 i5 i6 =
  if (decide (i6 < i5)) = true then
    if 0 ≤ i6 ∧ i6 < (x3.length : Int) then
      (f4 ((x3.getD i6.toNat 0 : Int), ())).bind fun r7 =>
        if (r7.1 : Bool) = true then
          some ((i6, ()), ())
        else
          l2 k x3 f4 i5 (IntKind.i64.wrap (i6 + (1 : Int)))
    else
      none
  else
    some (((-1 : Int), ()), ()) := by kernel_rfl
noncomputable def T (k : Nat) (s_1 : List Int) (f_2 : (Int × Unit) → Option (Bool × Unit)) : Option ((Int × Unit) × (Unit)) :=
  l2 k s_1 f_2 (s_1.length : Int) (0 : Int)
theorem of (s_1 : List Int) (f_2 : (Int × Unit) → Option (Bool × Unit)) {r : (Int × Unit) × (Unit)} (h : Ev (fun k => T k s_1 f_2) r) : F (s_1, f_2, ()) = some r := Ev.run (fun k => by kernel_rfl) h
theorem ok : CtxOK prog ctx := ⟨nilM, mixed_ok, tab_ok tab_good, nilM, nilM, nilM⟩
theorem S : Sound prog ⟨209, sig, F⟩ := sound_k (res := [.tmp 4]) func209 ok
end slices_IndexFunc_Lint64_int64
namespace slices_ContainsFunc_Lint64_int64
noncomputable def sig : Sig := ⟨[.val false (.sl (.int .i64)), .fnx ⟨[(false, (.int .i64))], [(.val false, .bool, .deep)]⟩], [(.val false, .bool, .deep)]⟩
noncomputable def ctx : Ctx := ⟨tabOf tabl, [⟨209, slices_IndexFunc_Lint64_int64.sig, slices_IndexFunc_Lint64_int64.F⟩], [], [], [], []⟩
noncomputable def cfg : Cfg := ⟨ctx, [], [], fun _ => ([], []), fun _ => []⟩
noncomputable def code : Code := (f119).body.getD .skip
noncomputable def fin := finK ctx sig [.tmp 4]
noncomputable def F (d : List Int × ((Int × Unit) → Option (Bool × Unit)) × Unit) : Option ((Bool × Unit) × (Unit)) := anyK (runFn cfg fin code (initSt sig.ps d 9))
noncomputable def T (s_1 : List Int) (f_2 : (Int × Unit) → Option (Bool × Unit)) : Option ((Bool × Unit) × (Unit)) :=
  (slices_IndexFunc_Lint64_int64.F (s_1, f_2, ())).bind fun r3 =>
    some ((decide ((r3.1.1 : Int) ≥ (0 : Int)), ()), ())
theorem eq (s_1 : List Int) (f_2 : (Int × Unit) → Option (Bool × Unit)) : F (s_1, f_2, ()) = T s_1 f_2 := eq_any fun k => by kernel_rfl
theorem ok : CtxOK prog ctx := ⟨nilM, mixed_ok, tab_ok tab_good, consM ⟨slices_IndexFunc_Lint64_int64.S, nilM⟩, nilM, nilM⟩
theorem S : Sound prog ⟨119, sig, F⟩ := sound_k (res := [.tmp 4]) func119 ok
end slices_ContainsFunc_Lint64_int64
namespace impl_isRising
noncomputable def sig : Sig := ⟨[.val false (.sl (.int .i64))], [(.val false, .bool, .deep)]⟩
noncomputable def ctx : Ctx := ⟨tabOf tabl, [], [], [], [], []⟩
noncomputable def cfg : Cfg := ⟨ctx, [], [], fun id => match id with | 2 => ([0, 3], []) | _ => ([], []), fun _ => []⟩
noncomputable def code : Code := (f267).body.getD .skip
noncomputable def fin := finK ctx sig [.tmp 2]
noncomputable def F (d : List Int × Unit) : Option ((Bool × Unit) × (Unit)) := anyK (runFn cfg fin code (initSt sig.ps d 20))
noncomputable def l2 (k : Nat) (x2 : List Int) (i3 : Int) : Option ((Bool × Unit) × (Unit)) :=
  Go.Vm.runT cfg fin k [.inLoop (sub [1, 0, 1, 0, 0] code), .inBlock 0, .code (sub [1, 1] code)]
    ⟨[.val false [⟨(.sl (.int .i64)), .sh, x2⟩], .dead, .dead, .val false [⟨(.int .i64), .sh, i3⟩]] ++ deads 16, []⟩
theorem l2_eq (k : Nat) (x2 : List Int) (i3 : Int) : l2 (k + 1) x2 i3 =
  if (decide (i3 < (x2.length : Int))) = true then
    if 0 ≤ (IntKind.i64.wrap (i3 - (1 : Int))) ∧ (IntKind.i64.wrap (i3 - (1 : Int))) < (x2.length : Int) then
      if 0 ≤ i3 ∧ i3 < (x2.length : Int) then
        if (decide ((x2.getD (IntKind.i64.wrap (i3 - (1 : Int))).toNat 0) ≥ (x2.getD i3.toNat 0 : Int))) = true then
          some ((false, ()), ())
        else
          l2 k x2 (IntKind.i64.wrap (i3 + (1 : Int)))
      else
        none
    else
      none
  else
    some ((true, ()), ()) := by kernel_rfl
noncomputable def T (k : Nat) (list_1 : List Int) : Option ((Bool × Unit) × (Unit)) :=
  l2 k list_1 (1 : Int)
theorem of (list_1 : List Int) {r : (Bool × Unit) × (Unit)} (h : Ev (fun k => T k list_1) r) : F (list_1, ()) = some r := Ev.run (fun k => by kernel_rfl) h
theorem ok : CtxOK prog ctx := ⟨nilM, mixed_ok, tab_ok tab_good, nilM, nilM, nilM⟩
theorem S : Sound prog ⟨267, sig, F⟩ := sound_k (res := [.tmp 2]) func267 ok
end impl_isRising
namespace impl_within
noncomputable def sig : Sig := ⟨[.val false (.int .i64), .val false (.int .i64), .val false (.int .i64)], [(.val false, .bool, .deep)]⟩
noncomputable def ctx : Ctx := ⟨tabOf tabl, [], [], [], [], []⟩
noncomputable def cfg : Cfg := ⟨ctx, [], [], fun _ => ([], []), fun _ => []⟩
noncomputable def code : Code := (f121).body.getD .skip
noncomputable def fin := finK ctx sig [.tmp 6]
noncomputable def F (d : Int × Int × Int × Unit) : Option ((Bool × Unit) × (Unit)) := anyK (runFn cfg fin code (initSt sig.ps d 15))
noncomputable def T (n_1 : Int) (low_2 : Int) (high_3 : Int) : Option ((Bool × Unit) × (Unit)) :=
  if (decide (n_1 ≥ low_2)) = true then
    some ((decide (n_1 ≤ high_3), ()), ())
  else
    some ((false, ()), ())
theorem eq (n_1 : Int) (low_2 : Int) (high_3 : Int) : F (n_1, low_2, high_3, ()) = T n_1 low_2 high_3 := eq_any fun k => by kernel_rfl
theorem ok : CtxOK prog ctx := ⟨nilM, mixed_ok, tab_ok tab_good, nilM, nilM, nilM⟩
theorem S : Sound prog ⟨121, sig, F⟩ := sound_k (res := [.tmp 6]) func121 ok
end impl_within
namespace impl_isVertex
noncomputable def sig : Sig := ⟨[.val false (.int .i64)], [(.val false, .bool, .deep)]⟩
noncomputable def ctx : Ctx := ⟨tabOf tabl, [⟨121, impl_within.sig, impl_within.F⟩], [], [], [], []⟩
noncomputable def cfg : Cfg := ⟨ctx, [], [], fun _ => ([], []), fun _ => []⟩
noncomputable def code : Code := (f269).body.getD .skip
noncomputable def fin := finK ctx sig [.tmp 2]
noncomputable def F (d : Int × Unit) : Option ((Bool × Unit) × (Unit)) := anyK (runFn cfg fin code (initSt sig.ps d 5))
noncomputable def T (v_1 : Int) : Option ((Bool × Unit) × (Unit)) :=
  (impl_within.F (v_1, (0 : Int), (9 : Int), ())).bind fun r2 =>
    some (((r2.1.1 : Bool), ()), ())
theorem eq (v_1 : Int) : F (v_1, ()) = T v_1 := eq_any fun k => by kernel_rfl
theorem ok : CtxOK prog ctx := ⟨nilM, mixed_ok, tab_ok tab_good, consM ⟨impl_within.S, nilM⟩, nilM, nilM⟩
theorem S : Sound prog ⟨269, sig, F⟩ := sound_k (res := [.tmp 2]) func269 ok
end impl_isVertex
namespace impl_ValidSimplex_1
noncomputable def sig : Sig := ⟨[.val false (.int .i64)], [(.val false, .bool, .deep)]⟩
noncomputable def ctx : Ctx := ⟨tabOf tabl, [⟨269, impl_isVertex.sig, impl_isVertex.F⟩], [], [], [], []⟩
noncomputable def cfg : Cfg := ⟨ctx, [], [], fun _ => ([], []), fun _ => []⟩
noncomputable def code : Code := (f268).body.getD .skip
noncomputable def fin := finK ctx sig [.tmp 2]
noncomputable def F (d : Int × Unit) : Option ((Bool × Unit) × (Unit)) := anyK (runFn cfg fin code (initSt sig.ps d 6))
noncomputable def T (v_1 : Int) : Option ((Bool × Unit) × (Unit)) :=
  (impl_isVertex.F (v_1, ())).bind fun r2 =>
    some ((!(r2.1.1 : Bool), ()), ())
theorem eq (v_1 : Int) : F (v_1, ()) = T v_1 := eq_any fun k => by kernel_rfl
theorem ok : CtxOK prog ctx := ⟨nilM, mixed_ok, tab_ok tab_good, consM ⟨impl_isVertex.S, nilM⟩, nilM, nilM⟩
theorem S : Sound prog ⟨268, sig, F⟩ := sound_k (res := [.tmp 2]) func268 ok
noncomputable def cloG (y : Unit) (d : Int × Unit) : Option (Bool × Unit) := (F (joinIns [] [(false, (.int .i64))] d y)).map (·.1)
noncomputable def clo : Clo := ⟨268, ⟨[(false, (.int .i64))], [(.val false, .bool, .deep)]⟩, [], cloG⟩
theorem cloS : SoundClo prog clo := sound_clo (s := ⟨[(false, (.int .i64))], [(.val false, .bool, .deep)]⟩) (caps := []) rfl S
end impl_ValidSimplex_1
namespace impl_ValidSimplex
noncomputable def sig : Sig := ⟨[.val false (.sl (.int .i64))], [(.val false, .bool, .deep)]⟩
noncomputable def ctx : Ctx := ⟨tabOf tabl, [⟨119, slices_ContainsFunc_Lint64_int64.sig, slices_ContainsFunc_Lint64_int64.F⟩, ⟨267, impl_isRising.sig, impl_isRising.F⟩], [impl_ValidSimplex_1.clo], [], [], []⟩
noncomputable def cfg : Cfg := ⟨ctx, [], [], fun _ => ([], []), fun _ => []⟩
noncomputable def code : Code := (f194).body.getD .skip
noncomputable def fin := finK ctx sig [.tmp 2]
noncomputable def F (d : List Int × Unit) : Option ((Bool × Unit) × (Unit)) := anyK (runFn cfg fin code (initSt sig.ps d 20))
noncomputable def T (s_1 : List Int) : Option ((Bool × Unit) × (Unit)) :=
  if (decide ((s_1.length : Int) ≥ (1 : Int))) = true then
    if (decide ((s_1.length : Int) ≤ (4 : Int))) = true then
      (impl_isRising.F (s_1, ())).bind fun r2 =>
        if (r2.1.1 : Bool) = true then
          (slices_ContainsFunc_Lint64_int64.F (s_1, impl_ValidSimplex_1.cloG (()), ())).bind fun r3 =>
            some ((!(r3.1.1 : Bool), ()), ())
        else
          some ((false, ()), ())
    else
      some ((false, ()), ())
  else
    some ((false, ()), ())
theorem eq (s_1 : List Int) : F (s_1, ()) = T s_1 := eq_any fun k => by kernel_rfl
theorem ok : CtxOK prog ctx := ⟨nilM, mixed_ok, tab_ok tab_good, consM ⟨slices_ContainsFunc_Lint64_int64.S, consM ⟨impl_isRising.S, nilM⟩⟩, consM ⟨impl_ValidSimplex_1.cloS, nilM⟩, nilM⟩
theorem S : Sound prog ⟨194, sig, F⟩ := sound_k (res := [.tmp 2]) func194 ok
end impl_ValidSimplex
namespace slices_IndexFunc_LLint64_Lint64
noncomputable def sig : Sig := ⟨[.val false (.sl (.sl (.int .i64))), .fnx ⟨[(false, (.sl (.int .i64)))], [(.val false, .bool, .deep)]⟩], [(.val false, (.int .i64), .deep)]⟩
noncomputable def ctx : Ctx := ⟨tabOf tabl, [], [], [], [], []⟩
noncomputable def cfg : Cfg := ⟨ctx, [], [], fun id => match id with | 2 => ([0, 1, 7, 8], []) | _ => ([], []), fun _ => []⟩
noncomputable def code : Code := (f239).body.getD .skip
noncomputable def fin := finK ctx sig [.tmp 4]
noncomputable def F (d : List (List Int) × ((List Int × Unit) → Option (Bool × Unit)) × Unit) : Option ((Int × Unit) × (Unit)) := anyK (runFn cfg fin code (initSt sig.ps d 19))
noncomputable def l2 (k : Nat) (x3 : List (List Int)) (f4 : (List Int × Unit) → Option (Bool × Unit)) (i5 : Int) (i6 : Int) : Option ((Int × Unit) × (Unit)) :=
  Go.Vm.runT cfg fin k [.inLoop (sub [1, 0, 1, 0, 0] code), .inBlock 0, .code (sub [1, 1] code)]
    ⟨[.val false [⟨(.sl (.sl (.int .i64))), .sh, x3⟩], .fnx ⟨[(false, (.sl (.int .i64)))], [(.val false, .bool, .deep)]⟩ f4, .dead, .dead, .dead, .dead, .dead, .val false [⟨(.int .i64), .sh, i5⟩], .val false [⟨(.int .i64), .sh, i6⟩]] ++ deads 10, []⟩
theorem l2_eq (k : Nat) (x3 : List (List Int)) (f4 : (List Int × Unit) → Option (Bool × Unit)) (i5 : Int) (i6 : Int) : l2 (k + 1) x3 f4 i5 i6 =
  if (decide (i6 < i5)) = true then
    if 0 ≤ i6 ∧ i6 < (x3.length : Int) then
      (f4 (x3.getD i6.toNat ([] : List Int), ())).bind fun r7 =>
        if (r7.1 : Bool) = true then
          some ((i6, ()), ())
        else
          l2 k x3 f4 i5 (IntKind.i64.wrap (i6 + (1 : Int)))
    else
      none
  else
    some (((-1 : Int), ()), ()) := by kernel_rfl
noncomputable def T (k : Nat) (s_1 : List (List Int)) (f_2 : (List Int × Unit) → Option (Bool × Unit)) : Option ((Int × Unit) × (Unit)) :=
  l2 k s_1 f_2 (s_1.length : Int) (0 : Int)
theorem of (s_1 : List (List Int)) (f_2 : (List Int × Unit) → Option (Bool × Unit)) {r : (Int × Unit) × (Unit)} (h : Ev (fun k => T k s_1 f_2) r) : F (s_1, f_2, ()) = some r := Ev.run (fun k => by kernel_rfl) h
theorem ok : CtxOK prog ctx := ⟨nilM, mixed_ok, tab_ok tab_good, nilM, nilM, nilM⟩
theorem S : Sound prog ⟨239, sig, F⟩ := sound_k (res := [.tmp 4]) func239 ok
end slices_IndexFunc_LLint64_Lint64
namespace slices_ContainsFunc_LLint64_Lint64
noncomputable def sig : Sig := ⟨[.val false (.sl (.sl (.int .i64))), .fnx ⟨[(false, (.sl (.int .i64)))], [(.val false, .bool, .deep)]⟩], [(.val false, .bool, .deep)]⟩
noncomputable def ctx : Ctx := ⟨tabOf tabl, [⟨239, slices_IndexFunc_LLint64_Lint64.sig, slices_IndexFunc_LLint64_Lint64.F⟩], [], [], [], []⟩
noncomputable def cfg : Cfg := ⟨ctx, [], [], fun _ => ([], []), fun _ => []⟩
noncomputable def code : Code := (f196).body.getD .skip
noncomputable def fin := finK ctx sig [.tmp 4]
noncomputable def F (d : List (List Int) × ((List Int × Unit) → Option (Bool × Unit)) × Unit) : Option ((Bool × Unit) × (Unit)) := anyK (runFn cfg fin code (initSt sig.ps d 9))
noncomputable def T (s_1 : List (List Int)) (f_2 : (List Int × Unit) → Option (Bool × Unit)) : Option ((Bool × Unit) × (Unit)) :=
  (slices_IndexFunc_LLint64_Lint64.F (s_1, f_2, ())).bind fun r3 =>
    some ((decide ((r3.1.1 : Int) ≥ (0 : Int)), ()), ())
theorem eq (s_1 : List (List Int)) (f_2 : (List Int × Unit) → Option (Bool × Unit)) : F (s_1, f_2, ()) = T s_1 f_2 := eq_any fun k => by kernel_rfl
theorem ok : CtxOK prog ctx := ⟨nilM, mixed_ok, tab_ok tab_good, consM ⟨slices_IndexFunc_LLint64_Lint64.S, nilM⟩, nilM, nilM⟩
theorem S : Sound prog ⟨196, sig, F⟩ := sound_k (res := [.tmp 4]) func196 ok
end slices_ContainsFunc_LLint64_Lint64
namespace impl_ValidComplex_1
noncomputable def sig : Sig := ⟨[.val false (.sl (.int .i64)), .rptr (.sl (.sl (.int .i64))), .rptr (.int .i64)], [(.val false, .bool, .deep)]⟩
noncomputable def ctx : Ctx := ⟨tabOf tabl, [⟨107, impl_indexOf.sig, impl_indexOf.F⟩], [], [], [], []⟩
noncomputable def cfg : Cfg := ⟨ctx, [], [], fun _ => ([], []), fun _ => []⟩
noncomputable def code : Code := (f198).body.getD .skip
noncomputable def fin := finK ctx sig [.tmp 4]
noncomputable def F (d : List Int × List (List Int) × Int × Unit) : Option ((Bool × Unit) × (Unit)) := anyK (runFn cfg fin code (initSt sig.ps d 13))
noncomputable def T (f_1 : List Int) (a_2 : List (List Int)) (a_3 : Int) : Option ((Bool × Unit) × (Unit)) :=
  if 0 ≤ (0 : Int) ∧ (0 : Int) ≤ a_3 ∧ a_3 ≤ (a_2.length : Int) then
    (impl_indexOf.F (cutL a_2 (0 : Int) a_3, f_1, ())).bind fun r4 =>
      some ((decide ((r4.1.1 : Int) < (0 : Int)), ()), ())
  else
    none
theorem eq (f_1 : List Int) (a_2 : List (List Int)) (a_3 : Int) : F (f_1, a_2, a_3, ()) = T f_1 a_2 a_3 := eq_any fun k => by kernel_rfl
theorem ok : CtxOK prog ctx := ⟨nilM, mixed_ok, tab_ok tab_good, consM ⟨impl_indexOf.S, nilM⟩, nilM, nilM⟩
theorem S : Sound prog ⟨198, sig, F⟩ := sound_k (res := [.tmp 4]) func198 ok
noncomputable def cloG (y : List (List Int) × Int × Unit) (d : List Int × Unit) : Option (Bool × Unit) := (F (joinIns [.rptr (.sl (.sl (.int .i64))), .rptr (.int .i64)] [(false, (.sl (.int .i64)))] d y)).map (·.1)
noncomputable def clo : Clo := ⟨198, ⟨[(false, (.sl (.int .i64)))], [(.val false, .bool, .deep)]⟩, [.rptr (.sl (.sl (.int .i64))), .rptr (.int .i64)], cloG⟩
theorem cloS : SoundClo prog clo := sound_clo (s := ⟨[(false, (.sl (.int .i64)))], [(.val false, .bool, .deep)]⟩) (caps := [.rptr (.sl (.sl (.int .i64))), .rptr (.int .i64)]) rfl S
end impl_ValidComplex_1
namespace impl_ValidComplex
noncomputable def sig : Sig := ⟨[.val true (.sl (.sl (.int .i64)))], [(.val false, .bool, .deep)]⟩
noncomputable def ctx : Ctx := ⟨tabOf tabl, [⟨194, impl_ValidSimplex.sig, impl_ValidSimplex.F⟩, ⟨195, impl_compareSimplices.sig, impl_compareSimplices.F⟩, ⟨196, slices_ContainsFunc_LLint64_Lint64.sig, slices_ContainsFunc_LLint64_Lint64.F⟩, ⟨197, impl_facesOf.sig, impl_facesOf.F⟩], [impl_ValidComplex_1.clo], [], [], []⟩
noncomputable def cfg : Cfg := ⟨ctx, [], [], fun id => match id with | 2 => ([1, 6, 7, 8], [4]) | _ => ([], []), fun _ => []⟩
noncomputable def code : Code := (f104).body.getD .skip
noncomputable def fin := finK ctx sig [.tmp 2]
noncomputable def F (d : List (List Int) × Unit) : Option ((Bool × Unit) × (Unit)) := anyK (runFn cfg fin code (initSt sig.ps d 40))
noncomputable def l2 (k : Nat) (x2 : List (List Int)) (i3 : Int) (i4 : Int) (x5 : List (List Int)) : Option ((Bool × Unit) × (Unit)) :=
  Go.Vm.runT cfg fin k [.inLoop (sub [1, 0, 1, 0, 0] code), .inBlock 0, .code (sub [1, 1] code)]
    ⟨[.dead, .ref 4 (.root 0), .dead, .dead, .dead, .dead, .val false [⟨(.sl (.sl (.int .i64))), .sh, x2⟩], .val false [⟨(.int .i64), .sh, i3⟩], .val false [⟨(.int .i64), .sh, i4⟩]] ++ deads 31, [(4, ⟨true, [⟨(.sl (.sl (.int .i64))), .sh, x5⟩]⟩)]⟩
theorem l2_eq (k : Nat) (x2 : List (List Int)) (i3 : Int) (i4 : Int) (x5 : List (List Int)) : l2 (k + 1) x2 i3 i4 x5 =
  if (decide (i4 < i3)) = true then
    if 0 ≤ i4 ∧ i4 < (x2.length : Int) then
      (impl_ValidSimplex.F (x2.getD i4.toNat ([] : List Int), ())).bind fun r6 =>
        if (!(r6.1.1 : Bool)) = true then
          some ((false, ()), ())
        else
          if (decide (i4 > (0 : Int))) = true then
            if 0 ≤ (IntKind.i64.wrap (i4 - (1 : Int))) ∧ (IntKind.i64.wrap (i4 - (1 : Int))) < (x5.length : Int) then
              (impl_compareSimplices.F (x5.getD (IntKind.i64.wrap (i4 - (1 : Int))).toNat ([] : List Int), x2.getD i4.toNat ([] : List Int), ())).bind fun r7 =>
                if (decide ((r7.1.1 : Int) ≥ (0 : Int))) = true then
                  some ((false, ()), ())
                else
                  (impl_facesOf.F (x2.getD i4.toNat ([] : List Int), ())).bind fun r8 =>
                    (slices_ContainsFunc_LLint64_Lint64.F (r8.1.1, impl_ValidComplex_1.cloG (x5, i4, ()), ())).bind fun r9 =>
                      if (r9.1.1 : Bool) = true then
                        some ((false, ()), ())
                      else
                        l2 k x2 i3 (IntKind.i64.wrap (i4 + (1 : Int))) x5
            else
              none
          else
            (impl_facesOf.F (x2.getD i4.toNat ([] : List Int), ())).bind fun r10 =>
              (slices_ContainsFunc_LLint64_Lint64.F (r10.1.1, impl_ValidComplex_1.cloG (x5, i4, ()), ())).bind fun r11 =>
                if (r11.1.1 : Bool) = true then
                  some ((false, ()), ())
                else
                  l2 k x2 i3 (IntKind.i64.wrap (i4 + (1 : Int))) x5
    else
      none
  else
    some ((decide ((x5.length : Int) ≤ (48 : Int)), ()), ()) := by kernel_rfl
noncomputable def T (k : Nat) (c_1 : List (List Int)) : Option ((Bool × Unit) × (Unit)) :=
  l2 k c_1 (c_1.length : Int) (0 : Int) c_1
theorem of (c_1 : List (List Int)) {r : (Bool × Unit) × (Unit)} (h : Ev (fun k => T k c_1) r) : F (c_1, ()) = some r := Ev.run (fun k => by kernel_rfl) h
theorem ok : CtxOK prog ctx := ⟨nilM, mixed_ok, tab_ok tab_good, consM ⟨impl_ValidSimplex.S, consM ⟨impl_compareSimplices.S, consM ⟨slices_ContainsFunc_LLint64_Lint64.S, consM ⟨impl_facesOf.S, nilM⟩⟩⟩⟩, consM ⟨impl_ValidComplex_1.cloS, nilM⟩, nilM⟩
theorem S : Sound prog ⟨104, sig, F⟩ := sound_k (res := [.tmp 2]) func104 ok
end impl_ValidComplex
namespace impl_size_int64
noncomputable def sig : Sig := ⟨[.val false (.sl (.int .i64))], [(.val false, (.int .i64), .deep)]⟩
noncomputable def ctx : Ctx := ⟨tabOf tabl, [], [], [], [], []⟩
noncomputable def cfg : Cfg := ⟨ctx, [], [], fun _ => ([], []), fun _ => []⟩
noncomputable def code : Code := (f161).body.getD .skip
noncomputable def fin := finK ctx sig [.tmp 2]
noncomputable def F (d : List Int × Unit) : Option ((Int × Unit) × (Unit)) := anyK (runFn cfg fin code (initSt sig.ps d 5))
noncomputable def T (list_1 : List Int) : Option ((Int × Unit) × (Unit)) :=
  some (((list_1.length : Int), ()), ())
theorem eq (list_1 : List Int) : F (list_1, ()) = T list_1 := eq_any fun k => by kernel_rfl
theorem ok : CtxOK prog ctx := ⟨nilM, mixed_ok, tab_ok tab_good, nilM, nilM, nilM⟩
theorem S : Sound prog ⟨161, sig, F⟩ := sound_k (res := [.tmp 2]) func161 ok
end impl_size_int64
namespace impl_simplicesOf
noncomputable def sig : Sig := ⟨[.val true (.sl (.sl (.int .i64))), .val false (.int .i64)], [(.val false, (.sl (.int .i64)), .deep)]⟩
noncomputable def ctx : Ctx := ⟨tabOf tabl, [⟨161, impl_size_int64.sig, impl_size_int64.F⟩], [], [], [], []⟩
noncomputable def cfg : Cfg := ⟨ctx, [], [], fun id => match id with | 3 => ([1, 5, 9, 10, 11], [20]) | _ => ([], []), fun _ => []⟩
noncomputable def code : Code := (f79).body.getD .skip
noncomputable def fin := finK ctx sig [.tmp 4]
noncomputable def F (d : List (List Int) × Int × Unit) : Option ((List Int × Unit) × (Unit)) := anyK (runFn cfg fin code (initSt sig.ps d 27))
noncomputable def l3 (k : Nat) (i3 : Int) (x4 : List (List Int)) (i5 : Int) (i6 : Int) (x7 : List Int) : Option ((List Int × Unit) × (Unit)) :=
  Go.Vm.runT cfg fin k [.inLoop (sub [1, 1, 0, 1, 0, 0] code), .inBlock 0, .code (sub [1, 1, 1] code)]
    ⟨[.dead, .val false [⟨(.int .i64), .sh, i3⟩], .dead, .dead, .dead, .view 20 (.root 0) 1 false, .dead, .dead, .dead, .val false [⟨(.sl (.sl (.int .i64))), .sh, x4⟩], .val false [⟨(.int .i64), .sh, i5⟩], .val false [⟨(.int .i64), .sh, i6⟩]] ++ deads 15, [(20, ⟨false, [⟨(.sl (.int .i64)), .deep, x7⟩]⟩)]⟩
theorem l3_eq (k : Nat) (i3 : Int) (x4 : List (List Int)) (i5 : Int) (i6 : Int) (x7 : List Int) : l3 (k + 1) i3 x4 i5 i6 x7 =
  if (decide (i6 < i5)) = true then
    if 0 ≤ i6 ∧ i6 < (x4.length : Int) then
      (impl_size_int64.F (x4.getD i6.toNat ([] : List Int), ())).bind fun r8 =>
        if ((r8.1.1 : Int) == (IntKind.i64.wrap (i3 + (1 : Int)))) = true then
          if x7.length + ([i6] : List Int).length ≤ bigA then
            l3 k i3 x4 i5 (IntKind.i64.wrap (i6 + (1 : Int))) (x7 ++ ([i6]))
          else
            none
        else
          l3 k i3 x4 i5 (IntKind.i64.wrap (i6 + (1 : Int))) x7
    else
      none
  else
    some ((x7, ()), ()) := by kernel_rfl
noncomputable def T (k : Nat) (c_1 : List (List Int)) (dimension_2 : Int) : Option ((List Int × Unit) × (Unit)) :=
  l3 k dimension_2 c_1 (c_1.length : Int) (0 : Int) ([])
theorem of (c_1 : List (List Int)) (dimension_2 : Int) {r : (List Int × Unit) × (Unit)} (h : Ev (fun k => T k c_1 dimension_2) r) : F (c_1, dimension_2, ()) = some r := Ev.run (fun k => by kernel_rfl) h
theorem ok : CtxOK prog ctx := ⟨nilM, mixed_ok, tab_ok tab_good, consM ⟨impl_size_int64.S, nilM⟩, nilM, nilM⟩
theorem S : Sound prog ⟨79, sig, F⟩ := sound_k (res := [.tmp 4]) func79 ok
end impl_simplicesOf
namespace impl_stalkSum
noncomputable def sig : Sig := ⟨[.val true TSheaf, .val false (.int .i64)], [(.val false, (.int .i64), .deep)]⟩
noncomputable def ctx : Ctx := ⟨tabOf tabl, [⟨79, impl_simplicesOf.sig, impl_simplicesOf.F⟩], [], [], [], []⟩
noncomputable def cfg : Cfg := ⟨ctx, [], [], fun id => match id with | 3 => ([2, 5, 11, 12, 13], [8, 44]) | _ => ([], []), fun _ => []⟩
noncomputable def code : Code := (f68).body.getD .skip
noncomputable def fin := finK ctx sig [.tmp 4]
noncomputable def F (d : (List (List Int) × Int × List Int × List (Int × Int × Int × List Int)) × Int × Unit) : Option ((Int × Unit) × (Unit)) := anyK (runFn cfg fin code (initSt sig.ps d 26))
noncomputable def l3 (k : Nat) (i7 : Int) (i8 : Int) (i9 : Int) (x10 : List (List Int)) (i11 : Int) (x12 : List Int) (x13 : List (Int × Int × Int × List Int)) (x14 : List Int) : Option ((Int × Unit) × (Unit)) :=
  Go.Vm.runT cfg fin k [.inLoop (sub [1, 1, 0, 1, 0, 0] code), .inBlock 0, .code (sub [1, 1, 1] code)]
    ⟨[.dead, .dead, .ref 8 (.root 0), .dead, .dead, .val false [⟨(.int .i64), .sh, i7⟩], .dead, .dead, .dead, .dead, .dead, .view 44 (.root 0) 1 false, .val false [⟨(.int .i64), .sh, i8⟩], .val false [⟨(.int .i64), .sh, i9⟩]] ++ deads 12, [(8, ⟨true, [⟨(.sl (.sl (.int .i64))), .sh, x10⟩, ⟨(.int .i64), .sh, i11⟩, ⟨(.sl (.int .i64)), .sh, x12⟩, ⟨(.sl TMatrix), .sh, x13⟩]⟩), (44, ⟨false, [⟨(.sl (.int .i64)), .deep, x14⟩]⟩)]⟩
theorem l3_eq (k : Nat) (i7 : Int) (i8 : Int) (i9 : Int) (x10 : List (List Int)) (i11 : Int) (x12 : List Int) (x13 : List (Int × Int × Int × List Int)) (x14 : List Int) : l3 (k + 1) i7 i8 i9 x10 i11 x12 x13 x14 =
  if (decide (i9 < i8)) = true then
    if 0 ≤ i9 ∧ i9 < (x14.length : Int) then
      if 0 ≤ (x14.getD i9.toNat 0 : Int) ∧ (x14.getD i9.toNat 0 : Int) < (x12.length : Int) then
        l3 k (IntKind.i64.wrap (i7 + (x12.getD (x14.getD i9.toNat 0 : Int).toNat 0))) i8 (IntKind.i64.wrap (i9 + (1 : Int))) x10 i11 x12 x13 x14
      else
        none
    else
      none
  else
    some ((i7, ()), ()) := by kernel_rfl
noncomputable def T (k : Nat) (s_1 : List (List Int)) (s_2 : Int) (s_3 : List Int) (s_4 : List (Int × Int × Int × List Int)) (k_5 : Int) : Option ((Int × Unit) × (Unit)) :=
  (impl_simplicesOf.F (s_1, k_5, ())).bind fun r6 =>
    l3 k (0 : Int) (r6.1.1.length : Int) (0 : Int) s_1 s_2 s_3 s_4 r6.1.1
theorem of (s_1 : List (List Int)) (s_2 : Int) (s_3 : List Int) (s_4 : List (Int × Int × Int × List Int)) (k_5 : Int) {r : (Int × Unit) × (Unit)} (h : Ev (fun k => T k s_1 s_2 s_3 s_4 k_5) r) : F ((s_1, (s_2, (s_3, s_4))), k_5, ()) = some r := Ev.run (fun k => by kernel_rfl) h
theorem ok : CtxOK prog ctx := ⟨nilM, mixed_ok, tab_ok tab_good, consM ⟨impl_simplicesOf.S, nilM⟩, nilM, nilM⟩
theorem S : Sound prog ⟨68, sig, F⟩ := sound_k (res := [.tmp 4]) func68 ok
end impl_stalkSum
namespace impl_areStalks_1
noncomputable def sig : Sig := ⟨[.val false (.int .i64)], [(.val false, .bool, .deep)]⟩
noncomputable def ctx : Ctx := ⟨tabOf tabl, [⟨121, impl_within.sig, impl_within.F⟩], [], [], [], []⟩
noncomputable def cfg : Cfg := ⟨ctx, [], [], fun _ => ([], []), fun _ => []⟩
noncomputable def code : Code := (f220).body.getD .skip
noncomputable def fin := finK ctx sig [.tmp 2]
noncomputable def F (d : Int × Unit) : Option ((Bool × Unit) × (Unit)) := anyK (runFn cfg fin code (initSt sig.ps d 6))
noncomputable def T (n_1 : Int) : Option ((Bool × Unit) × (Unit)) :=
  (impl_within.F (n_1, (0 : Int), (3 : Int), ())).bind fun r2 =>
    some ((!(r2.1.1 : Bool), ()), ())
theorem eq (n_1 : Int) : F (n_1, ()) = T n_1 := eq_any fun k => by kernel_rfl
theorem ok : CtxOK prog ctx := ⟨nilM, mixed_ok, tab_ok tab_good, consM ⟨impl_within.S, nilM⟩, nilM, nilM⟩
theorem S : Sound prog ⟨220, sig, F⟩ := sound_k (res := [.tmp 2]) func220 ok
noncomputable def cloG (y : Unit) (d : Int × Unit) : Option (Bool × Unit) := (F (joinIns [] [(false, (.int .i64))] d y)).map (·.1)
noncomputable def clo : Clo := ⟨220, ⟨[(false, (.int .i64))], [(.val false, .bool, .deep)]⟩, [], cloG⟩
theorem cloS : SoundClo prog clo := sound_clo (s := ⟨[(false, (.int .i64))], [(.val false, .bool, .deep)]⟩) (caps := []) rfl S
end impl_areStalks_1
namespace impl_areStalks
noncomputable def sig : Sig := ⟨[.val true (.sl (.sl (.int .i64))), .val false (.sl (.int .i64))], [(.val false, .bool, .deep)]⟩
noncomputable def ctx : Ctx := ⟨tabOf tabl, [⟨68, impl_stalkSum.sig, impl_stalkSum.F⟩, ⟨119, slices_ContainsFunc_Lint64_int64.sig, slices_ContainsFunc_Lint64_int64.F⟩], [impl_areStalks_1.clo], [], [], []⟩
noncomputable def cfg : Cfg := ⟨ctx, [], [], fun id => match id with | 4 => ([1, 2, 16], [8]) | _ => ([], []), fun _ => []⟩
noncomputable def code : Code := (f133).body.getD .skip
noncomputable def fin := finK ctx sig [.tmp 4]
noncomputable def F (d : List (List Int) × List Int × Unit) : Option ((Bool × Unit) × (Unit)) := anyK (runFn cfg fin code (initSt sig.ps d 26))
noncomputable def l4 (k : Nat) (x4 : List Int) (i5 : Int) (x6 : List (List Int)) : Option ((Bool × Unit) × (Unit)) :=
  Go.Vm.runT cfg fin k [.inLoop (sub [1, 1, 0, 1, 0, 0] code), .inBlock 0, .code (sub [1, 1, 1] code)]
    ⟨[.dead, .val false [⟨(.sl (.int .i64)), .sh, x4⟩], .ref 8 (.root 0), .dead, .dead, .dead, .dead, .dead, .dead, .dead, .dead, .dead, .dead, .dead, .dead, .dead, .val false [⟨(.int .i64), .sh, i5⟩]] ++ deads 9, [(8, ⟨true, [⟨(.sl (.sl (.int .i64))), .sh, x6⟩]⟩)]⟩
theorem l4_eq (k : Nat) (x4 : List Int) (i5 : Int) (x6 : List (List Int)) : l4 (k + 1) x4 i5 x6 =
  if (decide (i5 < (4 : Int))) = true then
    (impl_stalkSum.F ((x6, (0, (x4, []))), i5, ())).bind fun r7 =>
      if (decide ((r7.1.1 : Int) > (32 : Int))) = true then
        some ((false, ()), ())
      else
        l4 k x4 (IntKind.i64.wrap (i5 + (1 : Int))) x6
  else
    some ((true, ()), ()) := by kernel_rfl
noncomputable def T (k : Nat) (c_1 : List (List Int)) (stalks_2 : List Int) : Option ((Bool × Unit) × (Unit)) :=
  if ((stalks_2.length : Int) != (c_1.length : Int)) = true then
    some ((false, ()), ())
  else
    (slices_ContainsFunc_Lint64_int64.F (stalks_2, impl_areStalks_1.cloG (()), ())).bind fun r3 =>
      if (r3.1.1 : Bool) = true then
        some ((false, ()), ())
      else
        l4 k stalks_2 (0 : Int) c_1
theorem of (c_1 : List (List Int)) (stalks_2 : List Int) {r : (Bool × Unit) × (Unit)} (h : Ev (fun k => T k c_1 stalks_2) r) : F (c_1, stalks_2, ()) = some r := Ev.run (fun k => by kernel_rfl) h
theorem ok : CtxOK prog ctx := ⟨nilM, mixed_ok, tab_ok tab_good, consM ⟨impl_stalkSum.S, consM ⟨slices_ContainsFunc_Lint64_int64.S, nilM⟩⟩, consM ⟨impl_areStalks_1.cloS, nilM⟩, nilM⟩
theorem S : Sound prog ⟨133, sig, F⟩ := sound_k (res := [.tmp 4]) func133 ok
end impl_areStalks
namespace impl_ValidPrime
noncomputable def sig : Sig := ⟨[.val false (.int .i64)], [(.val false, .bool, .deep)]⟩
noncomputable def ctx : Ctx := ⟨tabOf tabl, [⟨121, impl_within.sig, impl_within.F⟩], [], [], [], []⟩
noncomputable def cfg : Cfg := ⟨ctx, [], [], fun id => match id with | 4 => ([0, 3], []) | _ => ([], []), fun _ => []⟩
noncomputable def code : Code := (f178).body.getD .skip
noncomputable def fin := finK ctx sig [.tmp 2]
noncomputable def F (d : Int × Unit) : Option ((Bool × Unit) × (Unit)) := anyK (runFn cfg fin code (initSt sig.ps d 18))
noncomputable def l4 (k : Nat) (i3 : Int) (i4 : Int) : Option ((Bool × Unit) × (Unit)) :=
  Go.Vm.runT cfg fin k [.inLoop (sub [1, 1, 0, 1, 0, 0] code), .inBlock 0, .code (sub [1, 1, 1] code)]
    ⟨[.val false [⟨(.int .i64), .sh, i3⟩], .dead, .dead, .val false [⟨(.int .i64), .sh, i4⟩]] ++ deads 14, []⟩
theorem l4_eq (k : Nat) (i3 : Int) (i4 : Int) : l4 (k + 1) i3 i4 =
  if (decide ((IntKind.i64.wrap (i4 * i4)) ≤ i3)) = true then
    if i4 = 0 then
      none
    else
      if ((i3.tmod i4) == (0 : Int)) = true then
        some ((false, ()), ())
      else
        l4 k i3 (IntKind.i64.wrap (i4 + (1 : Int)))
  else
    some ((true, ()), ()) := by kernel_rfl
noncomputable def T (k : Nat) (p_1 : Int) : Option ((Bool × Unit) × (Unit)) :=
  (impl_within.F (p_1, (2 : Int), (251 : Int), ())).bind fun r2 =>
    if (!(r2.1.1 : Bool)) = true then
      some ((false, ()), ())
    else
      l4 k p_1 (2 : Int)
theorem of (p_1 : Int) {r : (Bool × Unit) × (Unit)} (h : Ev (fun k => T k p_1) r) : F (p_1, ()) = some r := Ev.run (fun k => by kernel_rfl) h
theorem ok : CtxOK prog ctx := ⟨nilM, mixed_ok, tab_ok tab_good, consM ⟨impl_within.S, nilM⟩, nilM, nilM⟩
theorem S : Sound prog ⟨178, sig, F⟩ := sound_k (res := [.tmp 2]) func178 ok
end impl_ValidPrime
namespace impl_isElement
noncomputable def sig : Sig := ⟨[.val false (.int .i64), .val false (.int .i64)], [(.val false, .bool, .deep)]⟩
noncomputable def ctx : Ctx := ⟨tabOf tabl, [⟨121, impl_within.sig, impl_within.F⟩], [], [], [], []⟩
noncomputable def cfg : Cfg := ⟨ctx, [], [], fun _ => ([], []), fun _ => []⟩
noncomputable def code : Code := (f275).body.getD .skip
noncomputable def fin := finK ctx sig [.tmp 4]
noncomputable def F (d : Int × Int × Unit) : Option ((Bool × Unit) × (Unit)) := anyK (runFn cfg fin code (initSt sig.ps d 9))
noncomputable def T (a_1 : Int) (p_2 : Int) : Option ((Bool × Unit) × (Unit)) :=
  (impl_within.F (a_1, (0 : Int), IntKind.i64.wrap (p_2 - (1 : Int)), ())).bind fun r3 =>
    some (((r3.1.1 : Bool), ()), ())
theorem eq (a_1 : Int) (p_2 : Int) : F (a_1, p_2, ()) = T a_1 p_2 := eq_any fun k => by kernel_rfl
theorem ok : CtxOK prog ctx := ⟨nilM, mixed_ok, tab_ok tab_good, consM ⟨impl_within.S, nilM⟩, nilM, nilM⟩
theorem S : Sound prog ⟨275, sig, F⟩ := sound_k (res := [.tmp 4]) func275 ok
end impl_isElement
namespace impl_areElements_1
noncomputable def sig : Sig := ⟨[.val false (.int .i64), .rptr (.int .i64)], [(.val false, .bool, .deep)]⟩
noncomputable def ctx : Ctx := ⟨tabOf tabl, [⟨275, impl_isElement.sig, impl_isElement.F⟩], [], [], [], []⟩
noncomputable def cfg : Cfg := ⟨ctx, [], [], fun _ => ([], []), fun _ => []⟩
noncomputable def code : Code := (f274).body.getD .skip
noncomputable def fin := finK ctx sig [.tmp 3]
noncomputable def F (d : Int × Int × Unit) : Option ((Bool × Unit) × (Unit)) := anyK (runFn cfg fin code (initSt sig.ps d 8))
noncomputable def T (a_1 : Int) (a_2 : Int) : Option ((Bool × Unit) × (Unit)) :=
  (impl_isElement.F (a_1, a_2, ())).bind fun r3 =>
    some ((!(r3.1.1 : Bool), ()), ())
theorem eq (a_1 : Int) (a_2 : Int) : F (a_1, a_2, ()) = T a_1 a_2 := eq_any fun k => by kernel_rfl
theorem ok : CtxOK prog ctx := ⟨nilM, mixed_ok, tab_ok tab_good, consM ⟨impl_isElement.S, nilM⟩, nilM, nilM⟩
theorem S : Sound prog ⟨274, sig, F⟩ := sound_k (res := [.tmp 3]) func274 ok
noncomputable def cloG (y : Int × Unit) (d : Int × Unit) : Option (Bool × Unit) := (F (joinIns [.rptr (.int .i64)] [(false, (.int .i64))] d y)).map (·.1)
noncomputable def clo : Clo := ⟨274, ⟨[(false, (.int .i64))], [(.val false, .bool, .deep)]⟩, [.rptr (.int .i64)], cloG⟩
theorem cloS : SoundClo prog clo := sound_clo (s := ⟨[(false, (.int .i64))], [(.val false, .bool, .deep)]⟩) (caps := [.rptr (.int .i64)]) rfl S
end impl_areElements_1
namespace impl_areElements
noncomputable def sig : Sig := ⟨[.val false (.sl (.int .i64)), .val false (.int .i64)], [(.val false, .bool, .deep)]⟩
noncomputable def ctx : Ctx := ⟨tabOf tabl, [⟨119, slices_ContainsFunc_Lint64_int64.sig, slices_ContainsFunc_Lint64_int64.F⟩], [impl_areElements_1.clo], [], [], []⟩
noncomputable def cfg : Cfg := ⟨ctx, [], [], fun _ => ([], []), fun _ => []⟩
noncomputable def code : Code := (f199).body.getD .skip
noncomputable def fin := finK ctx sig [.tmp 4]
noncomputable def F (d : List Int × Int × Unit) : Option ((Bool × Unit) × (Unit)) := anyK (runFn cfg fin code (initSt sig.ps d 9))
noncomputable def T (list_1 : List Int) (p_2 : Int) : Option ((Bool × Unit) × (Unit)) :=
  (slices_ContainsFunc_Lint64_int64.F (list_1, impl_areElements_1.cloG (p_2, ()), ())).bind fun r3 =>
    some ((!(r3.1.1 : Bool), ()), ())
theorem eq (list_1 : List Int) (p_2 : Int) : F (list_1, p_2, ()) = T list_1 p_2 := eq_any fun k => by kernel_rfl
theorem ok : CtxOK prog ctx := ⟨nilM, mixed_ok, tab_ok tab_good, consM ⟨slices_ContainsFunc_Lint64_int64.S, nilM⟩, consM ⟨impl_areElements_1.cloS, nilM⟩, nilM⟩
theorem S : Sound prog ⟨199, sig, F⟩ := sound_k (res := [.tmp 4]) func199 ok
end impl_areElements
namespace impl_isSide
noncomputable def sig : Sig := ⟨[.val false (.int .i64)], [(.val false, .bool, .deep)]⟩
noncomputable def ctx : Ctx := ⟨tabOf tabl, [⟨121, impl_within.sig, impl_within.F⟩], [], [], [], []⟩
noncomputable def cfg : Cfg := ⟨ctx, [], [], fun _ => ([], []), fun _ => []⟩
noncomputable def code : Code := (f284).body.getD .skip
noncomputable def fin := finK ctx sig [.tmp 2]
noncomputable def F (d : Int × Unit) : Option ((Bool × Unit) × (Unit)) := anyK (runFn cfg fin code (initSt sig.ps d 5))
noncomputable def T (n_1 : Int) : Option ((Bool × Unit) × (Unit)) :=
  (impl_within.F (n_1, (0 : Int), (32 : Int), ())).bind fun r2 =>
    some (((r2.1.1 : Bool), ()), ())
theorem eq (n_1 : Int) : F (n_1, ()) = T n_1 := eq_any fun k => by kernel_rfl
theorem ok : CtxOK prog ctx := ⟨nilM, mixed_ok, tab_ok tab_good, consM ⟨impl_within.S, nilM⟩, nilM, nilM⟩
theorem S : Sound prog ⟨284, sig, F⟩ := sound_k (res := [.tmp 2]) func284 ok
end impl_isSide
namespace impl_ValidMatrix
noncomputable def sig : Sig := ⟨[.val true TMatrix], [(.val false, .bool, .deep)]⟩
noncomputable def ctx : Ctx := ⟨tabOf tabl, [⟨161, impl_size_int64.sig, impl_size_int64.F⟩, ⟨178, impl_ValidPrime.sig, impl_ValidPrime.F⟩, ⟨199, impl_areElements.sig, impl_areElements.F⟩, ⟨284, impl_isSide.sig, impl_isSide.F⟩], [], [], [], []⟩
noncomputable def cfg : Cfg := ⟨ctx, [], [], fun _ => ([], []), fun _ => []⟩
noncomputable def code : Code := (f238).body.getD .skip
noncomputable def fin := finK ctx sig [.tmp 2]
noncomputable def F (d : (Int × Int × Int × List Int) × Unit) : Option ((Bool × Unit) × (Unit)) := anyK (runFn cfg fin code (initSt sig.ps d 34))
noncomputable def T (m_1 : Int) (m_2 : Int) (m_3 : Int) (m_4 : List Int) : Option ((Bool × Unit) × (Unit)) :=
  (impl_ValidPrime.F (m_1, ())).bind fun r5 =>
    if (r5.1.1 : Bool) = true then
      (impl_isSide.F (m_2, ())).bind fun r6 =>
        if (r6.1.1 : Bool) = true then
          (impl_isSide.F (m_3, ())).bind fun r7 =>
            if (r7.1.1 : Bool) = true then
              (impl_size_int64.F (m_4, ())).bind fun r8 =>
                if ((r8.1.1 : Int) == (IntKind.i64.wrap (m_2 * m_3))) = true then
                  (impl_areElements.F (m_4, m_1, ())).bind fun r9 =>
                    some (((r9.1.1 : Bool), ()), ())
                else
                  some ((false, ()), ())
            else
              some ((false, ()), ())
        else
          some ((false, ()), ())
    else
      some ((false, ()), ())
theorem eq (m_1 : Int) (m_2 : Int) (m_3 : Int) (m_4 : List Int) : F ((m_1, (m_2, (m_3, m_4))), ()) = T m_1 m_2 m_3 m_4 := eq_any fun k => by kernel_rfl
theorem ok : CtxOK prog ctx := ⟨nilM, mixed_ok, tab_ok tab_good, consM ⟨impl_size_int64.S, consM ⟨impl_ValidPrime.S, consM ⟨impl_areElements.S, consM ⟨impl_isSide.S, nilM⟩⟩⟩⟩, nilM, nilM⟩
theorem S : Sound prog ⟨238, sig, F⟩ := sound_k (res := [.tmp 2]) func238 ok
end impl_ValidMatrix
namespace impl_isBetween
noncomputable def sig : Sig := ⟨[.val true TMatrix, .val false (.int .i64), .val false (.int .i64), .val false (.int .i64)], [(.val false, .bool, .deep)]⟩
noncomputable def ctx : Ctx := ⟨tabOf tabl, [⟨238, impl_ValidMatrix.sig, impl_ValidMatrix.F⟩], [], [], [], []⟩
noncomputable def cfg : Cfg := ⟨ctx, [], [], fun _ => ([], []), fun _ => []⟩
noncomputable def code : Code := (f264).body.getD .skip
noncomputable def fin := finK ctx sig [.tmp 8]
noncomputable def F (d : (Int × Int × Int × List Int) × Int × Int × Int × Unit) : Option ((Bool × Unit) × (Unit)) := anyK (runFn cfg fin code (initSt sig.ps d 29))
noncomputable def T (m_1 : Int) (m_2 : Int) (m_3 : Int) (m_4 : List Int) (p_5 : Int) (from_6 : Int) (to_7 : Int) : Option ((Bool × Unit) × (Unit)) :=
  (impl_ValidMatrix.F ((m_1, (m_2, (m_3, m_4))), ())).bind fun r8 =>
    if (r8.1.1 : Bool) = true then
      if (m_1 == p_5) = true then
        if (m_2 == to_7) = true then
          some ((m_3 == from_6, ()), ())
        else
          some ((false, ()), ())
      else
        some ((false, ()), ())
    else
      some ((false, ()), ())
theorem eq (m_1 : Int) (m_2 : Int) (m_3 : Int) (m_4 : List Int) (p_5 : Int) (from_6 : Int) (to_7 : Int) : F ((m_1, (m_2, (m_3, m_4))), p_5, from_6, to_7, ()) = T m_1 m_2 m_3 m_4 p_5 from_6 to_7 := eq_any fun k => by kernel_rfl
theorem ok : CtxOK prog ctx := ⟨nilM, mixed_ok, tab_ok tab_good, consM ⟨impl_ValidMatrix.S, nilM⟩, nilM, nilM⟩
theorem S : Sound prog ⟨264, sig, F⟩ := sound_k (res := [.tmp 8]) func264 ok
end impl_isBetween
namespace impl_ValidSheaf
noncomputable def sig : Sig := ⟨[.val true TSheaf], [(.val false, .bool, .deep)]⟩
noncomputable def ctx : Ctx := ⟨tabOf tabl, [⟨104, impl_ValidComplex.sig, impl_ValidComplex.F⟩, ⟨133, impl_areStalks.sig, impl_areStalks.F⟩, ⟨178, impl_ValidPrime.sig, impl_ValidPrime.F⟩, ⟨210, impl_arrows.sig, impl_arrows.F⟩, ⟨264, impl_isBetween.sig, impl_isBetween.F⟩], [], [], [], []⟩
noncomputable def cfg : Cfg := ⟨ctx, [], [], fun id => match id with | 5 => ([1, 3, 27, 28, 29], [4, 12]) | _ => ([], []), fun _ => []⟩
noncomputable def code : Code := (f192).body.getD .skip
noncomputable def fin := finK ctx sig [.tmp 2]
noncomputable def F (d : (List (List Int) × Int × List Int × List (Int × Int × Int × List Int)) × Unit) : Option ((Bool × Unit) × (Unit)) := anyK (runFn cfg fin code (initSt sig.ps d 69))
noncomputable def l5 (k : Nat) (i9 : Int) (i10 : Int) (x11 : List (List Int)) (i12 : Int) (x13 : List Int) (x14 : List (Int × Int × Int × List Int)) (x15 : List (Int × Int × Int)) : Option ((Bool × Unit) × (Unit)) :=
  Go.Vm.runT cfg fin k [.inLoop (sub [1, 1, 1, 0, 1, 0, 0] code), .inBlock 0, .code (sub [1, 1, 1, 1] code)]
    ⟨[.dead, .ref 4 (.root 0), .dead, .view 12 (.root 0) 1 false, .dead, .dead, .dead, .dead, .dead, .dead, .dead, .dead, .dead, .dead, .dead, .dead, .dead, .dead, .dead, .dead, .dead, .dead, .dead, .dead, .dead, .dead, .dead, .view 12 (.root 0) 1 false, .val false [⟨(.int .i64), .sh, i9⟩], .val false [⟨(.int .i64), .sh, i10⟩]] ++ deads 39, [(4, ⟨true, [⟨(.sl (.sl (.int .i64))), .sh, x11⟩, ⟨(.int .i64), .sh, i12⟩, ⟨(.sl (.int .i64)), .sh, x13⟩, ⟨(.sl TMatrix), .sh, x14⟩]⟩), (12, ⟨false, [⟨(.sl TEdge), .deep, x15⟩]⟩)]⟩
theorem l5_eq (k : Nat) (i9 : Int) (i10 : Int) (x11 : List (List Int)) (i12 : Int) (x13 : List Int) (x14 : List (Int × Int × Int × List Int)) (x15 : List (Int × Int × Int)) : l5 (k + 1) i9 i10 x11 i12 x13 x14 x15 =
  if (decide (i10 < i9)) = true then
    if 0 ≤ i10 ∧ i10 < (x15.length : Int) then
      if (decide (i10 ≥ (x14.length : Int))) = true then
        some ((false, ()), ())
      else
        if 0 ≤ i10 ∧ i10 < (x14.length : Int) then
          if 0 ≤ (((x15.getD i10.toNat (0, 0, 0)).2).2 : Int) ∧ (((x15.getD i10.toNat (0, 0, 0)).2).2 : Int) < (x13.length : Int) then
            if 0 ≤ ((x15.getD i10.toNat (0, 0, 0)).1 : Int) ∧ ((x15.getD i10.toNat (0, 0, 0)).1 : Int) < (x13.length : Int) then
              (impl_isBetween.F (x14.getD i10.toNat (0, 0, 0, ([] : List Int)), i12, x13.getD (((x15.getD i10.toNat (0, 0, 0)).2).2 : Int).toNat 0, x13.getD ((x15.getD i10.toNat (0, 0, 0)).1 : Int).toNat 0, ())).bind fun r16 =>
                if (!(r16.1.1 : Bool)) = true then
                  some ((false, ()), ())
                else
                  l5 k i9 (IntKind.i64.wrap (i10 + (1 : Int))) x11 i12 x13 x14 x15
            else
              none
          else
            none
        else
          none
    else
      none
  else
    some (((x15.length : Int) == (x14.length : Int), ()), ()) := by kernel_rfl
noncomputable def T (k : Nat) (toArray_1 : List (List Int)) (toArray_2 : Int) (toArray_3 : List Int) (toArray_4 : List (Int × Int × Int × List Int)) : Option ((Bool × Unit) × (Unit)) :=
  (impl_ValidComplex.F (toArray_1, ())).bind fun r5 =>
    if (!(r5.1.1 : Bool)) = true then
      some ((false, ()), ())
    else
      (impl_ValidPrime.F (toArray_2, ())).bind fun r6 =>
        if (!(r6.1.1 : Bool)) = true then
          some ((false, ()), ())
        else
          (impl_areStalks.F (toArray_1, toArray_3, ())).bind fun r7 =>
            if (!(r7.1.1 : Bool)) = true then
              some ((false, ()), ())
            else
              (impl_arrows.F (toArray_1, ())).bind fun r8 =>
                l5 k (r8.1.1.length : Int) (0 : Int) toArray_1 toArray_2 toArray_3 toArray_4 r8.1.1
theorem of (toArray_1 : List (List Int)) (toArray_2 : Int) (toArray_3 : List Int) (toArray_4 : List (Int × Int × Int × List Int)) {r : (Bool × Unit) × (Unit)} (h : Ev (fun k => T k toArray_1 toArray_2 toArray_3 toArray_4) r) : F ((toArray_1, (toArray_2, (toArray_3, toArray_4))), ()) = some r := Ev.run (fun k => by kernel_rfl) h
theorem ok : CtxOK prog ctx := ⟨nilM, mixed_ok, tab_ok tab_good, consM ⟨impl_ValidComplex.S, consM ⟨impl_areStalks.S, consM ⟨impl_ValidPrime.S, consM ⟨impl_arrows.S, consM ⟨impl_isBetween.S, nilM⟩⟩⟩⟩⟩, nilM, nilM⟩
theorem S : Sound prog ⟨192, sig, F⟩ := sound_k (res := [.tmp 2]) func192 ok
end impl_ValidSheaf
namespace impl_firstMap
noncomputable def sig : Sig := ⟨[.val true TSheaf, .val false (.int .i64)], [(.val false, (.int .i64), .deep)]⟩
noncomputable def ctx : Ctx := ⟨tabOf tabl, [⟨161, impl_size_int64.sig, impl_size_int64.F⟩], [], [], [], []⟩
noncomputable def cfg : Cfg := ⟨ctx, [], [], fun id => match id with | 3 => ([5, 12, 13, 14], []) | _ => ([], []), fun _ => []⟩
noncomputable def code : Code := (f212).body.getD .skip
noncomputable def fin := finK ctx sig [.tmp 4]
noncomputable def F (d : (List (List Int) × Int × List Int × List (Int × Int × Int × List Int)) × Int × Unit) : Option ((Int × Unit) × (Unit)) := anyK (runFn cfg fin code (initSt sig.ps d 27))
noncomputable def l3 (k : Nat) (i6 : Int) (x7 : List (List Int)) (i8 : Int) (i9 : Int) : Option ((Int × Unit) × (Unit)) :=
  Go.Vm.runT cfg fin k [.inLoop (sub [1, 1, 0, 1, 0, 0] code), .inBlock 0, .code (sub [1, 1, 1] code)]
    ⟨[.dead, .dead, .dead, .dead, .dead, .val false [⟨(.int .i64), .sh, i6⟩], .dead, .dead, .dead, .dead, .dead, .dead, .val false [⟨(.sl (.sl (.int .i64))), .sh, x7⟩], .val false [⟨(.int .i64), .sh, i8⟩], .val false [⟨(.int .i64), .sh, i9⟩]] ++ deads 12, []⟩
theorem l3_eq (k : Nat) (i6 : Int) (x7 : List (List Int)) (i8 : Int) (i9 : Int) : l3 (k + 1) i6 x7 i8 i9 =
  if (decide (i9 < i8)) = true then
    if 0 ≤ i9 ∧ i9 < (x7.length : Int) then
      if (decide (((x7.getD i9.toNat ([] : List Int)).length : Int) > (1 : Int))) = true then
        (impl_size_int64.F (x7.getD i9.toNat ([] : List Int), ())).bind fun r10 =>
          l3 k (IntKind.i64.wrap (i6 + (r10.1.1 : Int))) x7 i8 (IntKind.i64.wrap (i9 + (1 : Int)))
      else
        l3 k i6 x7 i8 (IntKind.i64.wrap (i9 + (1 : Int)))
    else
      none
  else
    some ((i6, ()), ()) := by kernel_rfl
noncomputable def T (k : Nat) (s_1 : List (List Int)) (s_2 : Int) (s_3 : List Int) (s_4 : List (Int × Int × Int × List Int)) (simplex_5 : Int) : Option ((Int × Unit) × (Unit)) :=
  if 0 ≤ (0 : Int) ∧ (0 : Int) ≤ simplex_5 ∧ simplex_5 ≤ (s_1.length : Int) then
    l3 k (0 : Int) (cutL s_1 (0 : Int) simplex_5) ((cutL s_1 (0 : Int) simplex_5).length : Int) (0 : Int)
  else
    none
theorem of (s_1 : List (List Int)) (s_2 : Int) (s_3 : List Int) (s_4 : List (Int × Int × Int × List Int)) (simplex_5 : Int) {r : (Int × Unit) × (Unit)} (h : Ev (fun k => T k s_1 s_2 s_3 s_4 simplex_5) r) : F ((s_1, (s_2, (s_3, s_4))), simplex_5, ()) = some r := Ev.run (fun k => by kernel_rfl) h
theorem ok : CtxOK prog ctx := ⟨nilM, mixed_ok, tab_ok tab_good, consM ⟨impl_size_int64.S, nilM⟩, nilM, nilM⟩
theorem S : Sound prog ⟨212, sig, F⟩ := sound_k (res := [.tmp 4]) func212 ok
end impl_firstMap
namespace impl_direct
noncomputable def sig : Sig := ⟨[.val true TSheaf, .val false (.int .i64), .val false (.int .i64)], [(.val true, TMatrix, .sh)]⟩
noncomputable def ctx : Ctx := ⟨tabOf tabl, [⟨212, impl_firstMap.sig, impl_firstMap.F⟩], [], [], [], []⟩
noncomputable def cfg : Cfg := ⟨ctx, [], [], fun _ => ([], []), fun _ => []⟩
noncomputable def code : Code := (f124).body.getD .skip
noncomputable def fin := finK ctx sig [.cell 6 87]
noncomputable def F (d : (List (List Int) × Int × List Int × List (Int × Int × Int × List Int)) × Int × Int × Unit) : Option (((Int × Int × Int × List Int) × Unit) × (Unit)) := anyK (runFn cfg fin code (initSt sig.ps d 16))
noncomputable def T (s_1 : List (List Int)) (s_2 : Int) (s_3 : List Int) (s_4 : List (Int × Int × Int × List Int)) (simplex_5 : Int) (place_6 : Int) : Option (((Int × Int × Int × List Int) × Unit) × (Unit)) :=
  (impl_firstMap.F ((s_1, (s_2, (s_3, s_4))), simplex_5, ())).bind fun r7 =>
    if 0 ≤ (IntKind.i64.wrap ((r7.1.1 : Int) + place_6)) ∧ (IntKind.i64.wrap ((r7.1.1 : Int) + place_6)) < (s_4.length : Int) then
      let y8 : Int := (s_4.getD (IntKind.i64.wrap ((r7.1.1 : Int) + place_6)).toNat (0, 0, 0, ([] : List Int))).1
      let y9 : Int := ((s_4.getD (IntKind.i64.wrap ((r7.1.1 : Int) + place_6)).toNat (0, 0, 0, ([] : List Int))).2).1
      let y10 : Int := (((s_4.getD (IntKind.i64.wrap ((r7.1.1 : Int) + place_6)).toNat (0, 0, 0, ([] : List Int))).2).2).1
      let y11 : List Int := (((s_4.getD (IntKind.i64.wrap ((r7.1.1 : Int) + place_6)).toNat (0, 0, 0, ([] : List Int))).2).2).2
      some (((y8, (y9, (y10, y11))), ()), ())
    else
      none
theorem eq (s_1 : List (List Int)) (s_2 : Int) (s_3 : List Int) (s_4 : List (Int × Int × Int × List Int)) (simplex_5 : Int) (place_6 : Int) : F ((s_1, (s_2, (s_3, s_4))), simplex_5, place_6, ()) = T s_1 s_2 s_3 s_4 simplex_5 place_6 := eq_any fun k => by kernel_rfl
theorem ok : CtxOK prog ctx := ⟨nilM, mixed_ok, tab_ok tab_good, consM ⟨impl_firstMap.S, nilM⟩, nilM, nilM⟩
theorem S : Sound prog ⟨124, sig, F⟩ := sound_k (res := [.cell 6 87]) func124 ok
end impl_direct
namespace impl_filled
noncomputable def sig : Sig := ⟨[.val false (.int .i64), .val false (.int .i64), .val false (.int .i64), .fnx ⟨[(false, (.int .i64)), (false, (.int .i64))], [(.val false, (.int .i64), .deep)]⟩], [(.val true, TMatrix, .deep)]⟩
noncomputable def ctx : Ctx := ⟨tabOf tabl, [], [], [], [], []⟩
noncomputable def cfg : Cfg := ⟨ctx, [], [], fun id => match id with | 3 => ([2, 3, 8, 9, 16, 17], [32, 36]) | 6 => ([2, 3, 8, 9, 10, 16, 17, 20, 21], [32, 36]) | _ => ([], []), fun _ => []⟩
noncomputable def code : Code := (f135).body.getD .skip
noncomputable def fin := finK ctx sig [.cell 8 87]
noncomputable def F (d : Int × Int × Int × ((Int × Int × Unit) → Option (Int × Unit)) × Unit) : Option (((Int × Int × Int × List Int) × Unit) × (Unit)) := anyK (runFn cfg fin code (initSt sig.ps d 36))
noncomputable def l3 (k : Nat) (i5 : Int) (f6 : (Int × Int × Unit) → Option (Int × Unit)) (i7 : Int) (i8 : Int) (i9 : Int) (i10 : Int) (i11 : Int) (x12 : List Int) (i13 : Int) (i14 : Int) (i15 : Int) (x16 : List Int) : Option (((Int × Int × Int × List Int) × Unit) × (Unit)) :=
  Go.Vm.runT cfg fin k [.inLoop (sub [1, 1, 0, 1, 0, 0] code), .inBlock 0, .code (sub [1, 1, 1] code)]
    ⟨[.dead, .dead, .val false [⟨(.int .i64), .sh, i5⟩], .fnx ⟨[(false, (.int .i64)), (false, (.int .i64))], [(.val false, (.int .i64), .deep)]⟩ f6, .dead, .dead, .dead, .dead, .ref 32 (.root 0), .ref 36 (.root 0), .dead, .dead, .dead, .dead, .dead, .dead, .val false [⟨(.int .i64), .sh, i7⟩], .val false [⟨(.int .i64), .sh, i8⟩]] ++ deads 18, [(32, ⟨true, [⟨(.int .i64), .sh, i9⟩, ⟨(.int .i64), .sh, i10⟩, ⟨(.int .i64), .sh, i11⟩, ⟨(.sl (.int .i64)), .deep, x12⟩]⟩), (36, ⟨true, [⟨(.int .i64), .sh, i13⟩, ⟨(.int .i64), .sh, i14⟩, ⟨(.int .i64), .sh, i15⟩, ⟨(.sl (.int .i64)), .deep, x16⟩]⟩)]⟩
noncomputable def l6 (k : Nat) (i17 : Int) (f18 : (Int × Int × Unit) → Option (Int × Unit)) (i19 : Int) (i20 : Int) (i21 : Int) (i22 : Int) (i23 : Int) (i24 : Int) (i25 : Int) (i26 : Int) (x27 : List Int) (i28 : Int) (i29 : Int) (i30 : Int) (x31 : List Int) : Option (((Int × Int × Int × List Int) × Unit) × (Unit)) :=
  Go.Vm.runT cfg fin k [.inLoop (sub [1, 1, 0, 1, 0, 0, 1, 1, 0, 0, 1, 1, 0, 0] code), .inBlock 2, .inBlock 1, .code (sub [1, 1, 0, 1, 0, 0, 1, 1, 1] code), .inLoop (sub [1, 1, 0, 1, 0, 0] code), .inBlock 0, .code (sub [1, 1, 1] code)]
    ⟨[.dead, .dead, .val false [⟨(.int .i64), .sh, i17⟩], .fnx ⟨[(false, (.int .i64)), (false, (.int .i64))], [(.val false, (.int .i64), .deep)]⟩ f18, .dead, .dead, .dead, .dead, .ref 32 (.root 0), .ref 36 (.root 0), .val false [⟨(.int .i64), .sh, i19⟩], .dead, .dead, .dead, .dead, .dead, .val false [⟨(.int .i64), .sh, i20⟩], .val false [⟨(.int .i64), .sh, i21⟩], .dead, .dead, .val false [⟨(.int .i64), .sh, i22⟩], .val false [⟨(.int .i64), .sh, i23⟩]] ++ deads 14, [(32, ⟨true, [⟨(.int .i64), .sh, i24⟩, ⟨(.int .i64), .sh, i25⟩, ⟨(.int .i64), .sh, i26⟩, ⟨(.sl (.int .i64)), .deep, x27⟩]⟩), (36, ⟨true, [⟨(.int .i64), .sh, i28⟩, ⟨(.int .i64), .sh, i29⟩, ⟨(.int .i64), .sh, i30⟩, ⟨(.sl (.int .i64)), .deep, x31⟩]⟩)]⟩
theorem l3_eq (k : Nat) (i5 : Int) (f6 : (Int × Int × Unit) → Option (Int × Unit)) (i7 : Int) (i8 : Int) (i9 : Int) (i10 : Int) (i11 : Int) (x12 : List Int) (i13 : Int) (i14 : Int) (i15 : Int) (x16 : List Int) : l3 (k + 1) i5 f6 i7 i8 i9 i10 i11 x12 i13 i14 i15 x16 =
  if (decide (i8 < i7)) = true then
    l6 k i5 f6 i8 i7 i8 i5 (0 : Int) i9 i10 i11 x12 i13 i14 i15 x16
  else
    some (((i13, (i14, (i15, x16))), ()), ()) := by kernel_rfl
theorem l6_eq (k : Nat) (i17 : Int) (f18 : (Int × Int × Unit) → Option (Int × Unit)) (i19 : Int) (i20 : Int) (i21 : Int) (i22 : Int) (i23 : Int) (i24 : Int) (i25 : Int) (i26 : Int) (x27 : List Int) (i28 : Int) (i29 : Int) (i30 : Int) (x31 : List Int) : l6 (k + 1) i17 f18 i19 i20 i21 i22 i23 i24 i25 i26 x27 i28 i29 i30 x31 =
  if (decide (i23 < i22)) = true then
    (f18 (i19, i23, ())).bind fun r32 =>
      if x31.length + ([(r32.1 : Int)] : List Int).length ≤ bigA then
        l6 k i17 f18 i19 i20 i21 i22 (IntKind.i64.wrap (i23 + (1 : Int))) i24 i25 i26 x27 i28 i29 i30 (x31 ++ ([(r32.1 : Int)]))
      else
        none
  else
    l3 k i17 f18 i20 (IntKind.i64.wrap (i21 + (1 : Int))) i24 i25 i26 x27 i28 i29 i30 x31 := by kernel_rfl
noncomputable def T (k : Nat) (p_1 : Int) (rows_2 : Int) (columns_3 : Int) (f_4 : (Int × Int × Unit) → Option (Int × Unit)) : Option (((Int × Int × Int × List Int) × Unit) × (Unit)) :=
  l3 k columns_3 f_4 rows_2 (0 : Int) 0 0 0 ([]) p_1 rows_2 columns_3 ([])
theorem of (p_1 : Int) (rows_2 : Int) (columns_3 : Int) (f_4 : (Int × Int × Unit) → Option (Int × Unit)) {r : ((Int × Int × Int × List Int) × Unit) × (Unit)} (h : Ev (fun k => T k p_1 rows_2 columns_3 f_4) r) : F (p_1, rows_2, columns_3, f_4, ()) = some r := Ev.run (fun k => by kernel_rfl) h
theorem ok : CtxOK prog ctx := ⟨nilM, mixed_ok, tab_ok tab_good, nilM, nilM, nilM⟩
theorem S : Sound prog ⟨135, sig, F⟩ := sound_k (res := [.cell 8 87]) func135 ok
end impl_filled
end Go.Proofs.YtjimdbbeilfkfaaGreat
