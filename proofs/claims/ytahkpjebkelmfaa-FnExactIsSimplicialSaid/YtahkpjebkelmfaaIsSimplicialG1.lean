/- The functions, as the machine runs them. -/
import Derived.Test.YtahkpjebkelmfaaVm3
import Derived.Test.YtahkpjebkelmfaaProg
import Derived.KernelRfl
import Derived.WalkKit
import Derived.Lib.Walk
import Derived.Lib.AppendZeros
import Derived.Sort.WalkA
import Derived.Sort.WalkB2
import Derived.Sort.WalkB12
import Derived.Deep.LoopGhost
import Derived.Shelf.RegionOpenPlain
import Derived.Lib.SliceRun
namespace Go.Proofs.Ytahkpjebkelmfaa
open Go Go.Vm
set_option linter.unusedVariables false
set_option linter.unusedSimpArgs false
open Go.Proofs.Try
def tabl : List (Nat × TInfo) := [
  (2, ⟨false, (.int .i64), 0, []⟩),
  (3, ⟨false, (.int .i64), 0, []⟩),
  (4, ⟨false, .bool, 0, []⟩),
  (22, ⟨false, (.sl (.sl (.int .i64))), 31, []⟩),
  (24, ⟨true, (.sl (.sl (.int .i64))), 0, [(0, 1, false)]⟩),
  (27, ⟨true, (.sl (.sl (.int .i64))), 0, [(0, 1, false)]⟩),
  (31, ⟨false, (.sl (.int .i64)), 2, []⟩),
  (83, ⟨false, (.sl (.int .i64)), 3, []⟩),
  (86, ⟨false, (.int .u64), 0, []⟩)]
theorem tab_good : tabB Go.Proofs.Try.prog tabl = true := by kernel_rfl
theorem tab_open : openB Go.Proofs.Try.prog tabl = true := by kernel_rfl
theorem mixed_ok : Go.Proofs.Try.prog.follows .mixedOrders = true := by kernel_rfl
set_option maxHeartbeats 2000000 in
set_option maxRecDepth 100000 in
theorem slices_Grow_Lint64_int64.grow0 (w : World) : Calls Go.Proofs.Try.prog 87 #[.slice none 0 0, .int .i64 ((0 : Nat) : Int)] w fun e w' => e = .returned (.slice none 0 0) ∧ w' = w := by
  have h2 : Go.RowKit.wrap64 (((0 : Nat) : Int) - ((0 : Nat) : Int)) = 0 := by unfold Go.RowKit.wrap64; omega
  go_enter Go.Proofs.Try.func87, Go.Proofs.Try.ntmps87
  go_wp2
  go_ret
  exact ⟨rfl, rfl⟩
set_option maxHeartbeats 4000000 in
set_option maxRecDepth 100000 in
theorem slices_Grow_Lint64_int64.grow1 (w : World) (n : Nat) (h0 : 0 < n) (hn : n ≤ 1099511627776) (i : TypeInfo) (z : Value) (hi : Go.Proofs.Try.prog.info? 2 = some i) (hz : i.zero = some z) (hs : 0 < i.size) (hb : i.bytes ≤ 256) :
    Calls Go.Proofs.Try.prog 87 #[.slice none 0 0, .int .i64 (n : Int)] w fun e w' => ∃ G, n ≤ G ∧ G ≤ 9223372036854775807 ∧ e = .returned (.slice (some ⟨w.heap.size, 0, none⟩) 0 G) ∧ w' = w.drew.alloc (.cells (Builtin.zeroCells z.cells n ++ Builtin.zeroCells z.cells (G - n)) 2) := by
  have h1 : ¬ ((n : Int) < 0) := by omega
  have h2 : Go.RowKit.wrap64 (((0 : Nat) : Int) - ((0 : Nat) : Int)) = 0 := by unfold Go.RowKit.wrap64; omega
  have h3 : Go.RowKit.wrap64 ((n : Int) - 0) = (n : Int) := by unfold Go.RowKit.wrap64; omega
  have h4 : (n : Int) > 0 := by omega
  have hm : n * i.bytes ≤ 1099511627776 * 256 := Nat.mul_le_mul hn hb
  have hrz : ∀ ty, (Builtin.append_ #[31, 3] ty #[.slice none 0 0, .int .i64 (n : Int)]).run Go.Proofs.Try.prog w =
      .ok (.slice (some ⟨w.heap.size, 0, none⟩) n (grownCap w n 0 2)) (w.drew.alloc (.cells (Builtin.zeroCells z.cells n ++ Builtin.zeroCells z.cells (grownCap w n 0 2 - n)) 2)) := fun ty =>
    Lib.run_append_nil_zeros (P := Go.Proofs.Try.prog) w 31 3 ty 2 i z .i64 .i64 (by kernel_rfl) (by kernel_rfl) hi hz n h0 hs (by omega) (by omega)
  have hGn : n ≤ grownCap w n 0 2 := grownCap_ge w _ _ _
  obtain ⟨G, hG⟩ : ∃ G, G = grownCap w n 0 2 := ⟨_, rfl⟩
  have hG63 : G ≤ 9223372036854775807 := by
    have := grownCap_le_maxLen w n 0 2 (by unfold maxLen; omega)
    rw [← hG] at this
    unfold maxLen at this
    omega
  rw [← hG] at hrz hGn
  clear hG
  refine Calls.mono (R := fun e w' => e = .returned (.slice (some ⟨w.heap.size, 0, none⟩) 0 G) ∧ w' = w.drew.alloc (.cells (Builtin.zeroCells z.cells n ++ Builtin.zeroCells z.cells (G - n)) 2)) ?_ fun e w' h => ⟨G, hGn, hG63, h.1, h.2⟩
  clear hi hz hs hb hm
  go_enter Go.Proofs.Try.func87, Go.Proofs.Try.ntmps87
  go_wp2_with (at_builtin; refine Lib.wpList_append_run _ rfl _ _ _ _ rfl _ _ rfl rfl _ _ (hrz _) ?_)
  all_goals (go_ret; exact ⟨rfl, rfl⟩)
theorem slices_Grow_Lint64_int64.growOK : GrowOK Go.Proofs.Try.prog (87, (.int .i64)) := by
  have hT : tabOf tabl 2 = some ⟨false, (.int .i64), 0, []⟩ := by kernel_rfl
  obtain ⟨inf, h1, h2, h3, h4, h5⟩ := (tab_ok tab_good).info 2 _ hT
  exact growOK_of ⟨Go.Proofs.Try.f87, Go.Proofs.Try.func87, by kernel_rfl, by kernel_rfl⟩ (zero_size (tab_ok tab_good) hT) slices_Grow_Lint64_int64.grow0 fun w n a b => slices_Grow_Lint64_int64.grow1 w n a b inf _ h1 h5 (by rw [h2]; exact sz_pos _) h4
namespace laws_szInt64S
noncomputable def sig : Sig := ⟨[.val false (.sl (.int .i64)), .val false (.int .i64)], [(.val false, (.int .i64), .deep)]⟩
noncomputable def ctx : Ctx := ⟨tabOf tabl, [], [], [], [], []⟩
noncomputable def cfg : Cfg := ⟨ctx, [], [], fun _ => ([], []), fun _ => []⟩
noncomputable def code : Code := (f38).body.getD .skip
noncomputable def fin := finK ctx sig [.tmp 4]
noncomputable def F (d : List Int × Int × Unit) : Option ((Int × Unit) × (Unit)) := anyK (runFn cfg fin code (initSt sig.ps d 12))
noncomputable def T (a_1 : List Int) (left_2 : Int) : Option ((Int × Unit) × (Unit)) :=
  if (decide ((IntKind.i64.wrap (left_2 - (a_1.length : Int))) < (0 : Int))) = true then
    some (((-1 : Int), ()), ())
  else
    some ((IntKind.i64.wrap (left_2 - (a_1.length : Int)), ()), ())
theorem eq (a_1 : List Int) (left_2 : Int) : F (a_1, left_2, ()) = T a_1 left_2 := eq_any fun k => by kernel_rfl
theorem ok : CtxOK prog ctx := ⟨nilM, mixed_ok, tab_ok tab_good, nilM, nilM, nilM⟩
theorem S : Sound prog ⟨38, sig, F⟩ := sound_k (res := [.tmp 4]) func38 ok
end laws_szInt64S
namespace laws_szInt64SS
noncomputable def sig : Sig := ⟨[.val false (.sl (.sl (.int .i64))), .val false (.int .i64)], [(.val false, (.int .i64), .deep)]⟩
noncomputable def ctx : Ctx := ⟨tabOf tabl, [⟨38, laws_szInt64S.sig, laws_szInt64S.F⟩], [], [], [], []⟩
noncomputable def cfg : Cfg := ⟨ctx, [], [], fun id => match id with | 5 => ([0, 1, 5], []) | _ => ([], []), fun _ => []⟩
noncomputable def code : Code := (f22).body.getD .skip
noncomputable def fin := finK ctx sig [.tmp 4]
noncomputable def F (d : List (List Int) × Int × Unit) : Option ((Int × Unit) × (Unit)) := anyK (runFn cfg fin code (initSt sig.ps d 27))
noncomputable def l5 (k : Nat) (x3 : List (List Int)) (i4 : Int) (i5 : Int) : Option ((Int × Unit) × (Unit)) :=
  Go.Vm.runT cfg fin k [.inLoop (sub [1, 1, 1, 0, 1, 0, 0] code), .inBlock 0, .code (sub [1, 1, 1, 1] code)]
    ⟨[.val false [⟨(.sl (.sl (.int .i64))), .sh, x3⟩], .val false [⟨(.int .i64), .sh, i4⟩], .dead, .dead, .dead, .val false [⟨(.int .i64), .sh, i5⟩]] ++ deads 21, []⟩
theorem l5_eq (k : Nat) (x3 : List (List Int)) (i4 : Int) (i5 : Int) : l5 (k + 1) x3 i4 i5 =
  if (decide (i5 < (x3.length : Int))) = true then
    if 0 ≤ i5 ∧ i5 < (x3.length : Int) then
      (laws_szInt64S.F (x3.getD i5.toNat ([] : List Int), i4, ())).bind fun r6 =>
        if (decide ((r6.1.1 : Int) < (0 : Int))) = true then
          some (((-1 : Int), ()), ())
        else
          l5 k x3 (r6.1.1 : Int) (IntKind.i64.wrap (i5 + (1 : Int)))
    else
      none
  else
    some ((i4, ()), ()) := by kernel_rfl
noncomputable def T (k : Nat) (a_1 : List (List Int)) (left_2 : Int) : Option ((Int × Unit) × (Unit)) :=
  if (decide ((IntKind.i64.wrap (left_2 - (a_1.length : Int))) < (0 : Int))) = true then
    some (((-1 : Int), ()), ())
  else
    l5 k a_1 (IntKind.i64.wrap (left_2 - (a_1.length : Int))) (0 : Int)
theorem of (a_1 : List (List Int)) (left_2 : Int) {r : (Int × Unit) × (Unit)} (h : Ev (fun k => T k a_1 left_2) r) : F (a_1, left_2, ()) = some r := Ev.run (fun k => by kernel_rfl) h
theorem ok : CtxOK prog ctx := ⟨nilM, mixed_ok, tab_ok tab_good, consM ⟨laws_szInt64S.S, nilM⟩, nilM, nilM⟩
theorem S : Sound prog ⟨22, sig, F⟩ := sound_k (res := [.tmp 4]) func22 ok
end laws_szInt64SS
namespace laws_szComplex
noncomputable def sig : Sig := ⟨[.val true (.sl (.sl (.int .i64))), .val false (.int .i64)], [(.val false, (.int .i64), .deep)]⟩
noncomputable def ctx : Ctx := ⟨tabOf tabl, [⟨22, laws_szInt64SS.sig, laws_szInt64SS.F⟩], [], [], [], []⟩
noncomputable def cfg : Cfg := ⟨ctx, [], [], fun _ => ([], []), fun _ => []⟩
noncomputable def code : Code := (f7).body.getD .skip
noncomputable def fin := finK ctx sig [.tmp 4]
noncomputable def F (d : List (List Int) × Int × Unit) : Option ((Int × Unit) × (Unit)) := anyK (runFn cfg fin code (initSt sig.ps d 12))
noncomputable def T (a_1 : List (List Int)) (left_2 : Int) : Option ((Int × Unit) × (Unit)) :=
  (laws_szInt64SS.F (a_1, left_2, ())).bind fun r3 =>
    if (decide ((r3.1.1 : Int) < (0 : Int))) = true then
      some (((-1 : Int), ()), ())
    else
      some (((r3.1.1 : Int), ()), ())
theorem eq (a_1 : List (List Int)) (left_2 : Int) : F (a_1, left_2, ()) = T a_1 left_2 := eq_any fun k => by kernel_rfl
theorem ok : CtxOK prog ctx := ⟨nilM, mixed_ok, tab_ok tab_good, consM ⟨laws_szInt64SS.S, nilM⟩, nilM, nilM⟩
theorem S : Sound prog ⟨7, sig, F⟩ := sound_k (res := [.tmp 4]) func7 ok
end laws_szComplex
namespace laws_toInt64S
noncomputable def sig : Sig := ⟨[.val false (.sl (.int .i64))], [(.val false, (.sl (.int .i64)), .deep)]⟩
noncomputable def ctx : Ctx := ⟨tabOf tabl, [], [], [], [], []⟩
noncomputable def cfg : Cfg := ⟨ctx, [], [], fun id => match id with | 3 => ([0, 3, 4], [12]) | _ => ([], []), fun _ => []⟩
noncomputable def code : Code := (f13).body.getD .skip
noncomputable def fin := finK ctx sig [.tmp 2]
noncomputable def F (d : List Int × Unit) : Option ((List Int × Unit) × (Unit)) := anyK (runFn cfg fin code (initSt sig.ps d 22))
noncomputable def l3 (k : Nat) (x2 : List Int) (i3 : Int) (x4 : List Int) : Option ((List Int × Unit) × (Unit)) :=
  Go.Vm.runT cfg fin k [.inLoop (sub [1, 1, 0, 1, 0, 0] code), .inBlock 0, .code (sub [1, 1, 1] code)]
    ⟨[.val false [⟨(.sl (.int .i64)), .sh, x2⟩], .dead, .dead, .view 12 (.root 0) 1 false, .val false [⟨(.int .i64), .sh, i3⟩]] ++ deads 17, [(12, ⟨false, [⟨(.sl (.int .i64)), .deep, x4⟩]⟩)]⟩
theorem l3_eq (k : Nat) (x2 : List Int) (i3 : Int) (x4 : List Int) : l3 (k + 1) x2 i3 x4 =
  if (decide (i3 < (x2.length : Int))) = true then
    if 0 ≤ i3 ∧ i3 < (x2.length : Int) then
      if 0 ≤ i3 ∧ i3 < (x4.length : Int) then
        l3 k x2 (IntKind.i64.wrap (i3 + (1 : Int))) (x4.set i3.toNat (x2.getD i3.toNat 0 : Int))
      else
        none
    else
      none
  else
    some ((x4, ()), ()) := by kernel_rfl
noncomputable def T (k : Nat) (a_1 : List Int) : Option ((List Int × Unit) × (Unit)) :=
  if 0 ≤ (a_1.length : Int) ∧ (a_1.length : Int) ≤ (bigN : Int) then
    l3 k a_1 (0 : Int) (List.replicate (a_1.length : Int).toNat 0)
  else
    none
theorem of (a_1 : List Int) {r : (List Int × Unit) × (Unit)} (h : Ev (fun k => T k a_1) r) : F (a_1, ()) = some r := Ev.run (fun k => by kernel_rfl) h
theorem ok : CtxOK prog ctx := ⟨nilM, mixed_ok, tab_ok tab_good, nilM, nilM, nilM⟩
theorem S : Sound prog ⟨13, sig, F⟩ := sound_k (res := [.tmp 2]) func13 ok
end laws_toInt64S
namespace laws_toInt64SS
noncomputable def sig : Sig := ⟨[.val false (.sl (.sl (.int .i64)))], [(.val false, (.sl (.sl (.int .i64))), .deep)]⟩
noncomputable def ctx : Ctx := ⟨tabOf tabl, [⟨13, laws_toInt64S.sig, laws_toInt64S.F⟩], [], [], [], []⟩
noncomputable def cfg : Cfg := ⟨ctx, [], [], fun id => match id with | 3 => ([0, 3, 4], [12]) | _ => ([], []), fun _ => []⟩
noncomputable def code : Code := (f25).body.getD .skip
noncomputable def fin := finK ctx sig [.tmp 2]
noncomputable def F (d : List (List Int) × Unit) : Option ((List (List Int) × Unit) × (Unit)) := anyK (runFn cfg fin code (initSt sig.ps d 23))
noncomputable def l3 (k : Nat) (x2 : List (List Int)) (i3 : Int) (x4 : List (List Int)) : Option ((List (List Int) × Unit) × (Unit)) :=
  Go.Vm.runT cfg fin k [.inLoop (sub [1, 1, 0, 1, 0, 0] code), .inBlock 0, .code (sub [1, 1, 1] code)]
    ⟨[.val false [⟨(.sl (.sl (.int .i64))), .sh, x2⟩], .dead, .dead, .view 12 (.root 0) 1 false, .val false [⟨(.int .i64), .sh, i3⟩]] ++ deads 18, [(12, ⟨false, [⟨(.sl (.sl (.int .i64))), .deep, x4⟩]⟩)]⟩
theorem l3_eq (k : Nat) (x2 : List (List Int)) (i3 : Int) (x4 : List (List Int)) : l3 (k + 1) x2 i3 x4 =
  if (decide (i3 < (x2.length : Int))) = true then
    if 0 ≤ i3 ∧ i3 < (x2.length : Int) then
      (laws_toInt64S.F (x2.getD i3.toNat ([] : List Int), ())).bind fun r5 =>
        if 0 ≤ i3 ∧ i3 < (x4.length : Int) then
          l3 k x2 (IntKind.i64.wrap (i3 + (1 : Int))) (x4.set i3.toNat r5.1.1)
        else
          none
    else
      none
  else
    some ((x4, ()), ()) := by kernel_rfl
noncomputable def T (k : Nat) (a_1 : List (List Int)) : Option ((List (List Int) × Unit) × (Unit)) :=
  if 0 ≤ (a_1.length : Int) ∧ (a_1.length : Int) ≤ (bigN : Int) then
    l3 k a_1 (0 : Int) (List.replicate (a_1.length : Int).toNat ([] : List Int))
  else
    none
theorem of (a_1 : List (List Int)) {r : (List (List Int) × Unit) × (Unit)} (h : Ev (fun k => T k a_1) r) : F (a_1, ()) = some r := Ev.run (fun k => by kernel_rfl) h
theorem ok : CtxOK prog ctx := ⟨nilM, mixed_ok, tab_ok tab_good, consM ⟨laws_toInt64S.S, nilM⟩, nilM, nilM⟩
theorem S : Sound prog ⟨25, sig, F⟩ := sound_k (res := [.tmp 2]) func25 ok
end laws_toInt64SS
namespace laws_toComplex
noncomputable def sig : Sig := ⟨[.val true (.sl (.sl (.int .i64)))], [(.val true, (.sl (.sl (.int .i64))), .deep)]⟩
noncomputable def ctx : Ctx := ⟨tabOf tabl, [⟨25, laws_toInt64SS.sig, laws_toInt64SS.F⟩], [], [], [], []⟩
noncomputable def cfg : Cfg := ⟨ctx, [], [], fun _ => ([], []), fun _ => []⟩
noncomputable def code : Code := (f9).body.getD .skip
noncomputable def fin := finK ctx sig [.cell 2 27]
noncomputable def F (d : List (List Int) × Unit) : Option ((List (List Int) × Unit) × (Unit)) := anyK (runFn cfg fin code (initSt sig.ps d 9))
noncomputable def T (a_1 : List (List Int)) : Option ((List (List Int) × Unit) × (Unit)) :=
  (laws_toInt64SS.F (a_1, ())).bind fun r2 =>
    some ((r2.1.1, ()), ())
theorem eq (a_1 : List (List Int)) : F (a_1, ()) = T a_1 := eq_any fun k => by kernel_rfl
theorem ok : CtxOK prog ctx := ⟨nilM, mixed_ok, tab_ok tab_good, consM ⟨laws_toInt64SS.S, nilM⟩, nilM, nilM⟩
theorem S : Sound prog ⟨9, sig, F⟩ := sound_k (res := [.cell 2 27]) func9 ok
end laws_toComplex
namespace laws_eqInt64S
noncomputable def sig : Sig := ⟨[.val false (.sl (.int .i64)), .val false (.sl (.int .i64))], [(.val false, .bool, .deep)]⟩
noncomputable def ctx : Ctx := ⟨tabOf tabl, [], [], [], [], []⟩
noncomputable def cfg : Cfg := ⟨ctx, [], [], fun id => match id with | 4 => ([0, 1, 5], []) | _ => ([], []), fun _ => []⟩
noncomputable def code : Code := (f15).body.getD .skip
noncomputable def fin := finK ctx sig [.tmp 4]
noncomputable def F (d : List Int × List Int × Unit) : Option ((Bool × Unit) × (Unit)) := anyK (runFn cfg fin code (initSt sig.ps d 26))
noncomputable def l4 (k : Nat) (x3 : List Int) (x4 : List Int) (i5 : Int) : Option ((Bool × Unit) × (Unit)) :=
  Go.Vm.runT cfg fin k [.inLoop (sub [1, 1, 0, 1, 0, 0] code), .inBlock 0, .code (sub [1, 1, 1] code)]
    ⟨[.val false [⟨(.sl (.int .i64)), .sh, x3⟩], .val false [⟨(.sl (.int .i64)), .sh, x4⟩], .dead, .dead, .dead, .val false [⟨(.int .i64), .sh, i5⟩]] ++ deads 20, []⟩
theorem l4_eq (k : Nat) (x3 : List Int) (x4 : List Int) (i5 : Int) : l4 (k + 1) x3 x4 i5 =
  if (decide (i5 < (x3.length : Int))) = true then
    if 0 ≤ i5 ∧ i5 < (x3.length : Int) then
      if 0 ≤ i5 ∧ i5 < (x4.length : Int) then
        if ((x3.getD i5.toNat 0 : Int) != (x4.getD i5.toNat 0 : Int)) = true then
          some ((false, ()), ())
        else
          l4 k x3 x4 (IntKind.i64.wrap (i5 + (1 : Int)))
      else
        none
    else
      none
  else
    some ((true, ()), ()) := by kernel_rfl
noncomputable def T (k : Nat) (a_1 : List Int) (b_2 : List Int) : Option ((Bool × Unit) × (Unit)) :=
  if ((a_1.length : Int) != (b_2.length : Int)) = true then
    some ((false, ()), ())
  else
    l4 k a_1 b_2 (0 : Int)
theorem of (a_1 : List Int) (b_2 : List Int) {r : (Bool × Unit) × (Unit)} (h : Ev (fun k => T k a_1 b_2) r) : F (a_1, b_2, ()) = some r := Ev.run (fun k => by kernel_rfl) h
theorem ok : CtxOK prog ctx := ⟨nilM, mixed_ok, tab_ok tab_good, nilM, nilM, nilM⟩
theorem S : Sound prog ⟨15, sig, F⟩ := sound_k (res := [.tmp 4]) func15 ok
end laws_eqInt64S
namespace laws_eqInt64SS
noncomputable def sig : Sig := ⟨[.val false (.sl (.sl (.int .i64))), .val false (.sl (.sl (.int .i64)))], [(.val false, .bool, .deep)]⟩
noncomputable def ctx : Ctx := ⟨tabOf tabl, [⟨15, laws_eqInt64S.sig, laws_eqInt64S.F⟩], [], [], [], []⟩
noncomputable def cfg : Cfg := ⟨ctx, [], [], fun id => match id with | 4 => ([0, 1, 5], []) | _ => ([], []), fun _ => []⟩
noncomputable def code : Code := (f29).body.getD .skip
noncomputable def fin := finK ctx sig [.tmp 4]
noncomputable def F (d : List (List Int) × List (List Int) × Unit) : Option ((Bool × Unit) × (Unit)) := anyK (runFn cfg fin code (initSt sig.ps d 27))
noncomputable def l4 (k : Nat) (x3 : List (List Int)) (x4 : List (List Int)) (i5 : Int) : Option ((Bool × Unit) × (Unit)) :=
  Go.Vm.runT cfg fin k [.inLoop (sub [1, 1, 0, 1, 0, 0] code), .inBlock 0, .code (sub [1, 1, 1] code)]
    ⟨[.val false [⟨(.sl (.sl (.int .i64))), .sh, x3⟩], .val false [⟨(.sl (.sl (.int .i64))), .sh, x4⟩], .dead, .dead, .dead, .val false [⟨(.int .i64), .sh, i5⟩]] ++ deads 21, []⟩
theorem l4_eq (k : Nat) (x3 : List (List Int)) (x4 : List (List Int)) (i5 : Int) : l4 (k + 1) x3 x4 i5 =
  if (decide (i5 < (x3.length : Int))) = true then
    if 0 ≤ i5 ∧ i5 < (x3.length : Int) then
      if 0 ≤ i5 ∧ i5 < (x4.length : Int) then
        (laws_eqInt64S.F (x3.getD i5.toNat ([] : List Int), x4.getD i5.toNat ([] : List Int), ())).bind fun r6 =>
          if (!(r6.1.1 : Bool)) = true then
            some ((false, ()), ())
          else
            l4 k x3 x4 (IntKind.i64.wrap (i5 + (1 : Int)))
      else
        none
    else
      none
  else
    some ((true, ()), ()) := by kernel_rfl
noncomputable def T (k : Nat) (a_1 : List (List Int)) (b_2 : List (List Int)) : Option ((Bool × Unit) × (Unit)) :=
  if ((a_1.length : Int) != (b_2.length : Int)) = true then
    some ((false, ()), ())
  else
    l4 k a_1 b_2 (0 : Int)
theorem of (a_1 : List (List Int)) (b_2 : List (List Int)) {r : (Bool × Unit) × (Unit)} (h : Ev (fun k => T k a_1 b_2) r) : F (a_1, b_2, ()) = some r := Ev.run (fun k => by kernel_rfl) h
theorem ok : CtxOK prog ctx := ⟨nilM, mixed_ok, tab_ok tab_good, consM ⟨laws_eqInt64S.S, nilM⟩, nilM, nilM⟩
theorem S : Sound prog ⟨29, sig, F⟩ := sound_k (res := [.tmp 4]) func29 ok
end laws_eqInt64SS
namespace laws_eqComplex
noncomputable def sig : Sig := ⟨[.val true (.sl (.sl (.int .i64))), .val true (.sl (.sl (.int .i64)))], [(.val false, .bool, .deep)]⟩
noncomputable def ctx : Ctx := ⟨tabOf tabl, [⟨29, laws_eqInt64SS.sig, laws_eqInt64SS.F⟩], [], [], [], []⟩
noncomputable def cfg : Cfg := ⟨ctx, [], [], fun _ => ([], []), fun _ => []⟩
noncomputable def code : Code := (f11).body.getD .skip
noncomputable def fin := finK ctx sig [.tmp 4]
noncomputable def F (d : List (List Int) × List (List Int) × Unit) : Option ((Bool × Unit) × (Unit)) := anyK (runFn cfg fin code (initSt sig.ps d 11))
noncomputable def T (a_1 : List (List Int)) (b_2 : List (List Int)) : Option ((Bool × Unit) × (Unit)) :=
  (laws_eqInt64SS.F (a_1, b_2, ())).bind fun r3 =>
    if (!(r3.1.1 : Bool)) = true then
      some ((false, ()), ())
    else
      some ((true, ()), ())
theorem eq (a_1 : List (List Int)) (b_2 : List (List Int)) : F (a_1, b_2, ()) = T a_1 b_2 := eq_any fun k => by kernel_rfl
theorem ok : CtxOK prog ctx := ⟨nilM, mixed_ok, tab_ok tab_good, consM ⟨laws_eqInt64SS.S, nilM⟩, nilM, nilM⟩
theorem S : Sound prog ⟨11, sig, F⟩ := sound_k (res := [.tmp 4]) func11 ok
end laws_eqComplex
namespace spec_l00In
noncomputable def sig : Sig := ⟨[.val false (.int .i64), .val false (.int .i64), .val false (.int .i64)], [(.val false, .bool, .deep)]⟩
noncomputable def ctx : Ctx := ⟨tabOf tabl, [], [], [], [], []⟩
noncomputable def cfg : Cfg := ⟨ctx, [], [], fun _ => ([], []), fun _ => []⟩
noncomputable def code : Code := (f60).body.getD .skip
noncomputable def fin := finK ctx sig [.tmp 6]
noncomputable def F (d : Int × Int × Int × Unit) : Option ((Bool × Unit) × (Unit)) := anyK (runFn cfg fin code (initSt sig.ps d 15))
noncomputable def T (n_1 : Int) (low_2 : Int) (high_3 : Int) : Option ((Bool × Unit) × (Unit)) :=
  if (decide (n_1 ≥ low_2)) = true then
    some ((decide (n_1 ≤ high_3), ()), ())
  else
    some ((false, ()), ())
theorem eq (n_1 : Int) (low_2 : Int) (high_3 : Int) : F (n_1, low_2, high_3, ()) = T n_1 low_2 high_3 := eq_any fun k => by kernel_rfl
theorem ok : CtxOK prog ctx := ⟨nilM, mixed_ok, tab_ok tab_good, nilM, nilM, nilM⟩
theorem S : Sound prog ⟨60, sig, F⟩ := sound_k (res := [.tmp 6]) func60 ok
end spec_l00In
namespace spec_l00Rises
noncomputable def sig : Sig := ⟨[.val false (.sl (.int .i64)), .val false (.int .i64), .val false (.int .i64)], [(.val false, .bool, .deep)]⟩
noncomputable def ctx : Ctx := ⟨tabOf tabl, [⟨60, spec_l00In.sig, spec_l00In.F⟩], [], [], [], []⟩
noncomputable def cfg : Cfg := ⟨ctx, [], [], fun id => match id with | 2 => ([0, 1, 2, 7], []) | _ => ([], []), fun _ => []⟩
noncomputable def code : Code := (f61).body.getD .skip
noncomputable def fin := finK ctx sig [.tmp 6]
noncomputable def F (d : List Int × Int × Int × Unit) : Option ((Bool × Unit) × (Unit)) := anyK (runFn cfg fin code (initSt sig.ps d 38))
noncomputable def l2 (k : Nat) (x4 : List Int) (i5 : Int) (i6 : Int) (i7 : Int) : Option ((Bool × Unit) × (Unit)) :=
  Go.Vm.runT cfg fin k [.inLoop (sub [1, 0, 1, 0, 0] code), .inBlock 0, .code (sub [1, 1] code)]
    ⟨[.val false [⟨(.sl (.int .i64)), .sh, x4⟩], .val false [⟨(.int .i64), .sh, i5⟩], .val false [⟨(.int .i64), .sh, i6⟩], .dead, .dead, .dead, .dead, .val false [⟨(.int .i64), .sh, i7⟩]] ++ deads 30, []⟩
theorem l2_eq (k : Nat) (x4 : List Int) (i5 : Int) (i6 : Int) (i7 : Int) : l2 (k + 1) x4 i5 i6 i7 =
  if (decide (i7 < (x4.length : Int))) = true then
    if 0 ≤ i7 ∧ i7 < (x4.length : Int) then
      (spec_l00In.F ((x4.getD i7.toNat 0 : Int), i5, i6, ())).bind fun r8 =>
        if (!(r8.1.1 : Bool)) = true then
          some ((false, ()), ())
        else
          if (decide (i7 > (0 : Int))) = true then
            if 0 ≤ (IntKind.i64.wrap (i7 - (1 : Int))) ∧ (IntKind.i64.wrap (i7 - (1 : Int))) < (x4.length : Int) then
              if 0 ≤ i7 ∧ i7 < (x4.length : Int) then
                if (decide ((x4.getD (IntKind.i64.wrap (i7 - (1 : Int))).toNat 0) ≥ (x4.getD i7.toNat 0 : Int))) = true then
                  some ((false, ()), ())
                else
                  l2 k x4 i5 i6 (IntKind.i64.wrap (i7 + (1 : Int)))
              else
                none
            else
              none
          else
            l2 k x4 i5 i6 (IntKind.i64.wrap (i7 + (1 : Int)))
    else
      none
  else
    some ((true, ()), ()) := by kernel_rfl
noncomputable def T (k : Nat) (list_1 : List Int) (low_2 : Int) (high_3 : Int) : Option ((Bool × Unit) × (Unit)) :=
  l2 k list_1 low_2 high_3 (0 : Int)
theorem of (list_1 : List Int) (low_2 : Int) (high_3 : Int) {r : (Bool × Unit) × (Unit)} (h : Ev (fun k => T k list_1 low_2 high_3) r) : F (list_1, low_2, high_3, ()) = some r := Ev.run (fun k => by kernel_rfl) h
theorem ok : CtxOK prog ctx := ⟨nilM, mixed_ok, tab_ok tab_good, consM ⟨spec_l00In.S, nilM⟩, nilM, nilM⟩
theorem S : Sound prog ⟨61, sig, F⟩ := sound_k (res := [.tmp 6]) func61 ok
end spec_l00Rises
namespace spec_l05Simplex
noncomputable def sig : Sig := ⟨[.val false (.sl (.int .i64))], [(.val false, .bool, .deep)]⟩
noncomputable def ctx : Ctx := ⟨tabOf tabl, [⟨60, spec_l00In.sig, spec_l00In.F⟩, ⟨61, spec_l00Rises.sig, spec_l00Rises.F⟩], [], [], [], []⟩
noncomputable def cfg : Cfg := ⟨ctx, [], [], fun _ => ([], []), fun _ => []⟩
noncomputable def code : Code := (f39).body.getD .skip
noncomputable def fin := finK ctx sig [.tmp 2]
noncomputable def F (d : List Int × Unit) : Option ((Bool × Unit) × (Unit)) := anyK (runFn cfg fin code (initSt sig.ps d 10))
noncomputable def T (s_1 : List Int) : Option ((Bool × Unit) × (Unit)) :=
  (spec_l00In.F ((s_1.length : Int), (1 : Int), (4 : Int), ())).bind fun r2 =>
    if (r2.1.1 : Bool) = true then
      (spec_l00Rises.F (s_1, (0 : Int), (9 : Int), ())).bind fun r3 =>
        some (((r3.1.1 : Bool), ()), ())
    else
      some ((false, ()), ())
theorem eq (s_1 : List Int) : F (s_1, ()) = T s_1 := eq_any fun k => by kernel_rfl
theorem ok : CtxOK prog ctx := ⟨nilM, mixed_ok, tab_ok tab_good, consM ⟨spec_l00In.S, consM ⟨spec_l00Rises.S, nilM⟩⟩, nilM, nilM⟩
theorem S : Sound prog ⟨39, sig, F⟩ := sound_k (res := [.tmp 2]) func39 ok
end spec_l05Simplex
namespace spec_l05Before
noncomputable def sig : Sig := ⟨[.val false (.sl (.int .i64)), .val false (.sl (.int .i64))], [(.val false, .bool, .deep)]⟩
noncomputable def ctx : Ctx := ⟨tabOf tabl, [], [], [], [], []⟩
noncomputable def cfg : Cfg := ⟨ctx, [], [], fun id => match id with | 4 => ([0, 1, 5], []) | _ => ([], []), fun _ => []⟩
noncomputable def code : Code := (f40).body.getD .skip
noncomputable def fin := finK ctx sig [.tmp 4]
noncomputable def F (d : List Int × List Int × Unit) : Option ((Bool × Unit) × (Unit)) := anyK (runFn cfg fin code (initSt sig.ps d 40))
noncomputable def l4 (k : Nat) (x3 : List Int) (x4 : List Int) (i5 : Int) : Option ((Bool × Unit) × (Unit)) :=
  Go.Vm.runT cfg fin k [.inLoop (sub [1, 1, 0, 1, 0, 0] code), .inBlock 0, .code (sub [1, 1, 1] code)]
    ⟨[.val false [⟨(.sl (.int .i64)), .sh, x3⟩], .val false [⟨(.sl (.int .i64)), .sh, x4⟩], .dead, .dead, .dead, .val false [⟨(.int .i64), .sh, i5⟩]] ++ deads 34, []⟩
theorem l4_eq (k : Nat) (x3 : List Int) (x4 : List Int) (i5 : Int) : l4 (k + 1) x3 x4 i5 =
  if (decide (i5 < (x3.length : Int))) = true then
    if 0 ≤ i5 ∧ i5 < (x3.length : Int) then
      if 0 ≤ i5 ∧ i5 < (x4.length : Int) then
        if ((x3.getD i5.toNat 0 : Int) != (x4.getD i5.toNat 0 : Int)) = true then
          if 0 ≤ i5 ∧ i5 < (x3.length : Int) then
            if 0 ≤ i5 ∧ i5 < (x4.length : Int) then
              some ((decide ((x3.getD i5.toNat 0 : Int) < (x4.getD i5.toNat 0 : Int)), ()), ())
            else
              none
          else
            none
        else
          l4 k x3 x4 (IntKind.i64.wrap (i5 + (1 : Int)))
      else
        none
    else
      none
  else
    some ((false, ()), ()) := by kernel_rfl
noncomputable def T (k : Nat) (a_1 : List Int) (b_2 : List Int) : Option ((Bool × Unit) × (Unit)) :=
  if ((a_1.length : Int) != (b_2.length : Int)) = true then
    some ((decide ((a_1.length : Int) < (b_2.length : Int)), ()), ())
  else
    l4 k a_1 b_2 (0 : Int)
theorem of (a_1 : List Int) (b_2 : List Int) {r : (Bool × Unit) × (Unit)} (h : Ev (fun k => T k a_1 b_2) r) : F (a_1, b_2, ()) = some r := Ev.run (fun k => by kernel_rfl) h
theorem ok : CtxOK prog ctx := ⟨nilM, mixed_ok, tab_ok tab_good, nilM, nilM, nilM⟩
theorem S : Sound prog ⟨40, sig, F⟩ := sound_k (res := [.tmp 4]) func40 ok
end spec_l05Before
namespace spec_l00Same
noncomputable def sig : Sig := ⟨[.val false (.sl (.int .i64)), .val false (.sl (.int .i64))], [(.val false, .bool, .deep)]⟩
noncomputable def ctx : Ctx := ⟨tabOf tabl, [], [], [], [], []⟩
noncomputable def cfg : Cfg := ⟨ctx, [], [], fun id => match id with | 4 => ([0, 1, 5], []) | _ => ([], []), fun _ => []⟩
noncomputable def code : Code := (f62).body.getD .skip
noncomputable def fin := finK ctx sig [.tmp 4]
noncomputable def F (d : List Int × List Int × Unit) : Option ((Bool × Unit) × (Unit)) := anyK (runFn cfg fin code (initSt sig.ps d 26))
noncomputable def l4 (k : Nat) (x3 : List Int) (x4 : List Int) (i5 : Int) : Option ((Bool × Unit) × (Unit)) :=
  Go.Vm.runT cfg fin k [.inLoop (sub [1, 1, 0, 1, 0, 0] code), .inBlock 0, .code (sub [1, 1, 1] code)]
    ⟨[.val false [⟨(.sl (.int .i64)), .sh, x3⟩], .val false [⟨(.sl (.int .i64)), .sh, x4⟩], .dead, .dead, .dead, .val false [⟨(.int .i64), .sh, i5⟩]] ++ deads 20, []⟩
theorem l4_eq (k : Nat) (x3 : List Int) (x4 : List Int) (i5 : Int) : l4 (k + 1) x3 x4 i5 =
  if (decide (i5 < (x3.length : Int))) = true then
    if 0 ≤ i5 ∧ i5 < (x3.length : Int) then
      if 0 ≤ i5 ∧ i5 < (x4.length : Int) then
        if ((x3.getD i5.toNat 0 : Int) != (x4.getD i5.toNat 0 : Int)) = true then
          some ((false, ()), ())
        else
          l4 k x3 x4 (IntKind.i64.wrap (i5 + (1 : Int)))
      else
        none
    else
      none
  else
    some ((true, ()), ()) := by kernel_rfl
noncomputable def T (k : Nat) (a_1 : List Int) (b_2 : List Int) : Option ((Bool × Unit) × (Unit)) :=
  if ((a_1.length : Int) != (b_2.length : Int)) = true then
    some ((false, ()), ())
  else
    l4 k a_1 b_2 (0 : Int)
theorem of (a_1 : List Int) (b_2 : List Int) {r : (Bool × Unit) × (Unit)} (h : Ev (fun k => T k a_1 b_2) r) : F (a_1, b_2, ()) = some r := Ev.run (fun k => by kernel_rfl) h
theorem ok : CtxOK prog ctx := ⟨nilM, mixed_ok, tab_ok tab_good, nilM, nilM, nilM⟩
theorem S : Sound prog ⟨62, sig, F⟩ := sound_k (res := [.tmp 4]) func62 ok
end spec_l00Same
namespace spec_l05Find
noncomputable def sig : Sig := ⟨[.rptr (.sl (.sl (.int .i64))), .val false (.sl (.int .i64))], [(.val false, (.int .i64), .deep)]⟩
noncomputable def ctx : Ctx := ⟨tabOf tabl, [⟨62, spec_l00Same.sig, spec_l00Same.F⟩], [], [], [], []⟩
noncomputable def cfg : Cfg := ⟨ctx, [], [], fun id => match id with | 2 => ([0, 1, 5], []) | _ => ([], []), fun _ => []⟩
noncomputable def code : Code := (f41).body.getD .skip
noncomputable def fin := finK ctx sig [.tmp 4]
noncomputable def F (d : List (List Int) × List Int × Unit) : Option ((Int × Unit) × (Unit)) := anyK (runFn cfg fin code (initSt sig.ps d 25))
noncomputable def l2 (k : Nat) (x3 : List (List Int)) (x4 : List Int) (i5 : Int) : Option ((Int × Unit) × (Unit)) :=
  Go.Vm.runT cfg fin k [.inLoop (sub [1, 0, 1, 0, 0] code), .inBlock 0, .code (sub [1, 1] code)]
    ⟨[.rptr false [⟨(.sl (.sl (.int .i64))), .sh, x3⟩], .val false [⟨(.sl (.int .i64)), .sh, x4⟩], .dead, .dead, .dead, .val false [⟨(.int .i64), .sh, i5⟩]] ++ deads 19, []⟩
theorem l2_eq (k : Nat) (x3 : List (List Int)) (x4 : List Int) (i5 : Int) : l2 (k + 1) x3 x4 i5 =
  if (decide (i5 < (x3.length : Int))) = true then
    if 0 ≤ i5 ∧ i5 < (x3.length : Int) then
      (spec_l00Same.F (x3.getD i5.toNat ([] : List Int), x4, ())).bind fun r6 =>
        if (r6.1.1 : Bool) = true then
          some ((i5, ()), ())
        else
          l2 k x3 x4 (IntKind.i64.wrap (i5 + (1 : Int)))
    else
      none
  else
    some (((-1 : Int), ()), ()) := by kernel_rfl
noncomputable def T (k : Nat) (c_1 : List (List Int)) (s_2 : List Int) : Option ((Int × Unit) × (Unit)) :=
  l2 k c_1 s_2 (0 : Int)
theorem of (c_1 : List (List Int)) (s_2 : List Int) {r : (Int × Unit) × (Unit)} (h : Ev (fun k => T k c_1 s_2) r) : F (c_1, s_2, ()) = some r := Ev.run (fun k => by kernel_rfl) h
theorem ok : CtxOK prog ctx := ⟨nilM, mixed_ok, tab_ok tab_good, consM ⟨spec_l00Same.S, nilM⟩, nilM, nilM⟩
theorem S : Sound prog ⟨41, sig, F⟩ := sound_k (res := [.tmp 4]) func41 ok
end spec_l05Find
namespace spec_l00Own
noncomputable def sig : Sig := ⟨[.val false (.sl (.int .i64))], [(.val false, (.sl (.int .i64)), .deep)]⟩
noncomputable def ctx : Ctx := ⟨tabOf tabl, [], [], [], [], []⟩
noncomputable def cfg : Cfg := ⟨ctx, [], [], fun _ => ([], []), fun _ => []⟩
noncomputable def code : Code := (f36).body.getD .skip
noncomputable def fin := finK ctx sig [.tmp 2]
noncomputable def F (d : List Int × Unit) : Option ((List Int × Unit) × (Unit)) := anyK (runFn cfg fin code (initSt sig.ps d 6))
noncomputable def T (list_1 : List Int) : Option ((List Int × Unit) × (Unit)) :=
  if ([] : List Int).length + list_1.length ≤ bigA then
    some ((([] : List Int) ++ list_1, ()), ())
  else
    none
theorem eq (list_1 : List Int) : F (list_1, ()) = T list_1 := eq_any fun k => by kernel_rfl
theorem ok : CtxOK prog ctx := ⟨nilM, mixed_ok, tab_ok tab_good, nilM, nilM, nilM⟩
theorem S : Sound prog ⟨36, sig, F⟩ := sound_k (res := [.tmp 2]) func36 ok
end spec_l00Own
namespace spec_l05Drop
noncomputable def sig : Sig := ⟨[.val false (.sl (.int .i64)), .val false (.int .i64)], [(.val false, (.sl (.int .i64)), .deep)]⟩
noncomputable def ctx : Ctx := ⟨tabOf tabl, [⟨36, spec_l00Own.sig, spec_l00Own.F⟩], [], [], [], []⟩
noncomputable def cfg : Cfg := ⟨ctx, [], [], fun _ => ([], []), fun _ => []⟩
noncomputable def code : Code := (f42).body.getD .skip
noncomputable def fin := finK ctx sig [.tmp 4]
noncomputable def F (d : List Int × Int × Unit) : Option ((List Int × Unit) × (Unit)) := anyK (runFn cfg fin code (initSt sig.ps d 16))
noncomputable def T (s_1 : List Int) (k_2 : Int) : Option ((List Int × Unit) × (Unit)) :=
  if 0 ≤ (0 : Int) ∧ (0 : Int) ≤ k_2 ∧ k_2 ≤ (s_1.length : Int) then
    (spec_l00Own.F (cutL s_1 (0 : Int) k_2, ())).bind fun r3 =>
      if 0 ≤ (IntKind.i64.wrap (k_2 + (1 : Int))) ∧ (IntKind.i64.wrap (k_2 + (1 : Int))) ≤ (s_1.length : Int) ∧ (s_1.length : Int) ≤ (s_1.length : Int) then
        if r3.1.1.length + (cutL s_1 (IntKind.i64.wrap (k_2 + (1 : Int))) (s_1.length : Int)).length ≤ bigA then
          some ((r3.1.1 ++ (cutL s_1 (IntKind.i64.wrap (k_2 + (1 : Int))) (s_1.length : Int)), ()), ())
        else
          none
      else
        none
  else
    none
theorem eq (s_1 : List Int) (k_2 : Int) : F (s_1, k_2, ()) = T s_1 k_2 := eq_any fun k => by kernel_rfl
theorem ok : CtxOK prog ctx := ⟨nilM, mixed_ok, tab_ok tab_good, consM ⟨spec_l00Own.S, nilM⟩, nilM, nilM⟩
theorem S : Sound prog ⟨42, sig, F⟩ := sound_k (res := [.tmp 4]) func42 ok
end spec_l05Drop
namespace spec_l05Ok
noncomputable def sig : Sig := ⟨[.rptr (.sl (.sl (.int .i64)))], [(.val false, .bool, .deep)]⟩
noncomputable def ctx : Ctx := ⟨tabOf tabl, [⟨39, spec_l05Simplex.sig, spec_l05Simplex.F⟩, ⟨40, spec_l05Before.sig, spec_l05Before.F⟩, ⟨41, spec_l05Find.sig, spec_l05Find.F⟩, ⟨42, spec_l05Drop.sig, spec_l05Drop.F⟩], [], [], [], []⟩
noncomputable def cfg : Cfg := ⟨ctx, [], [], fun id => match id with | 4 => ([0, 3], []) | 10 => ([0, 3, 4, 5], []) | _ => ([], []), fun _ => []⟩
noncomputable def code : Code := (f23).body.getD .skip
noncomputable def fin := finK ctx sig [.tmp 2]
noncomputable def F (d : List (List Int) × Unit) : Option ((Bool × Unit) × (Unit)) := anyK (runFn cfg fin code (initSt sig.ps d 65))
noncomputable def l4 (k : Nat) (x2 : List (List Int)) (i3 : Int) : Option ((Bool × Unit) × (Unit)) :=
  Go.Vm.runT cfg fin k [.inLoop (sub [1, 1, 0, 1, 0, 0] code), .inBlock 0, .code (sub [1, 1, 1] code)]
    ⟨[.rptr false [⟨(.sl (.sl (.int .i64))), .sh, x2⟩], .dead, .dead, .val false [⟨(.int .i64), .sh, i3⟩]] ++ deads 61, []⟩
noncomputable def l10 (k : Nat) (x6 : List (List Int)) (i7 : Int) (x8 : List Int) (i9 : Int) : Option ((Bool × Unit) × (Unit)) :=
  Go.Vm.runT cfg fin k [.inLoop (sub [1, 1, 0, 1, 0, 0, 1, 0, 0, 1, 1, 1, 0, 0] code), .inBlock 2, .inBlock 1, .code (sub [1, 1, 0, 1, 0, 0, 1, 1] code), .inLoop (sub [1, 1, 0, 1, 0, 0] code), .inBlock 0, .code (sub [1, 1, 1] code)]
    ⟨[.rptr false [⟨(.sl (.sl (.int .i64))), .sh, x6⟩], .dead, .dead, .val false [⟨(.int .i64), .sh, i7⟩], .val false [⟨(.sl (.int .i64)), .sh, x8⟩], .val false [⟨(.int .i64), .sh, i9⟩]] ++ deads 59, []⟩
theorem l4_eq (k : Nat) (x2 : List (List Int)) (i3 : Int) : l4 (k + 1) x2 i3 =
  if (decide (i3 < (x2.length : Int))) = true then
    if 0 ≤ i3 ∧ i3 < (x2.length : Int) then
      (spec_l05Simplex.F (x2.getD i3.toNat ([] : List Int), ())).bind fun r4 =>
        if (!(r4.1.1 : Bool)) = true then
          some ((false, ()), ())
        else
          if (decide (i3 > (0 : Int))) = true then
            if 0 ≤ (IntKind.i64.wrap (i3 - (1 : Int))) ∧ (IntKind.i64.wrap (i3 - (1 : Int))) < (x2.length : Int) then
              (spec_l05Before.F (x2.getD (IntKind.i64.wrap (i3 - (1 : Int))).toNat ([] : List Int), x2.getD i3.toNat ([] : List Int), ())).bind fun r5 =>
                if (!(r5.1.1 : Bool)) = true then
                  some ((false, ()), ())
                else
                  l10 k x2 i3 (x2.getD i3.toNat ([] : List Int)) (0 : Int)
            else
              none
          else
            l10 k x2 i3 (x2.getD i3.toNat ([] : List Int)) (0 : Int)
    else
      none
  else
    some ((true, ()), ()) := by kernel_rfl
theorem l10_eq (k : Nat) (x6 : List (List Int)) (i7 : Int) (x8 : List Int) (i9 : Int) : l10 (k + 1) x6 i7 x8 i9 =
  if (decide (i9 < (x8.length : Int))) = true then
    if (decide ((x8.length : Int) > (1 : Int))) = true then
      (spec_l05Drop.F (x8, i9, ())).bind fun r10 =>
        (spec_l05Find.F (x6, r10.1.1, ())).bind fun r11 =>
          if (decide ((r11.1.1 : Int) < (0 : Int))) = true then
            some ((false, ()), ())
          else
            l10 k x6 i7 x8 (IntKind.i64.wrap (i9 + (1 : Int)))
    else
      l4 k x6 (IntKind.i64.wrap (i7 + (1 : Int)))
  else
    l4 k x6 (IntKind.i64.wrap (i7 + (1 : Int))) := by kernel_rfl
noncomputable def T (k : Nat) (toArray_1 : List (List Int)) : Option ((Bool × Unit) × (Unit)) :=
  if (decide ((toArray_1.length : Int) > (48 : Int))) = true then
    some ((false, ()), ())
  else
    l4 k toArray_1 (0 : Int)
theorem of (toArray_1 : List (List Int)) {r : (Bool × Unit) × (Unit)} (h : Ev (fun k => T k toArray_1) r) : F (toArray_1, ()) = some r := Ev.run (fun k => by kernel_rfl) h
theorem ok : CtxOK prog ctx := ⟨nilM, mixed_ok, tab_ok tab_good, consM ⟨spec_l05Simplex.S, consM ⟨spec_l05Before.S, consM ⟨spec_l05Find.S, consM ⟨spec_l05Drop.S, nilM⟩⟩⟩⟩, nilM, nilM⟩
theorem S : Sound prog ⟨23, sig, F⟩ := sound_k (res := [.tmp 2]) func23 ok
end spec_l05Ok
namespace spec_l05Of
noncomputable def sig : Sig := ⟨[.rptr (.sl (.sl (.int .i64))), .val false (.int .i64)], [(.val false, (.sl (.int .i64)), .deep)]⟩
noncomputable def ctx : Ctx := ⟨tabOf tabl, [], [], [], [], []⟩
noncomputable def cfg : Cfg := ⟨ctx, [], [], fun id => match id with | 3 => ([0, 1, 5, 6], [20]) | _ => ([], []), fun _ => []⟩
noncomputable def code : Code := (f52).body.getD .skip
noncomputable def fin := finK ctx sig [.tmp 4]
noncomputable def F (d : List (List Int) × Int × Unit) : Option ((List Int × Unit) × (Unit)) := anyK (runFn cfg fin code (initSt sig.ps d 33))
noncomputable def l3 (k : Nat) (x3 : List (List Int)) (i4 : Int) (i5 : Int) (x6 : List Int) : Option ((List Int × Unit) × (Unit)) :=
  Go.Vm.runT cfg fin k [.inLoop (sub [1, 1, 0, 1, 0, 0] code), .inBlock 0, .code (sub [1, 1, 1] code)]
    ⟨[.rptr false [⟨(.sl (.sl (.int .i64))), .sh, x3⟩], .val false [⟨(.int .i64), .sh, i4⟩], .dead, .dead, .dead, .view 20 (.root 0) 1 false, .val false [⟨(.int .i64), .sh, i5⟩]] ++ deads 26, [(20, ⟨false, [⟨(.sl (.int .i64)), .deep, x6⟩]⟩)]⟩
theorem l3_eq (k : Nat) (x3 : List (List Int)) (i4 : Int) (i5 : Int) (x6 : List Int) : l3 (k + 1) x3 i4 i5 x6 =
  if (decide (i5 < (x3.length : Int))) = true then
    if 0 ≤ i5 ∧ i5 < (x3.length : Int) then
      if (((x3.getD i5.toNat ([] : List Int)).length : Int) == (IntKind.i64.wrap (i4 + (1 : Int)))) = true then
        if x6.length + ([i5] : List Int).length ≤ bigA then
          l3 k x3 i4 (IntKind.i64.wrap (i5 + (1 : Int))) (x6 ++ ([i5]))
        else
          none
      else
        l3 k x3 i4 (IntKind.i64.wrap (i5 + (1 : Int))) x6
    else
      none
  else
    some ((x6, ()), ()) := by kernel_rfl
noncomputable def T (k : Nat) (c_1 : List (List Int)) (dimension_2 : Int) : Option ((List Int × Unit) × (Unit)) :=
  l3 k c_1 dimension_2 (0 : Int) ([] : List Int)
theorem of (c_1 : List (List Int)) (dimension_2 : Int) {r : (List Int × Unit) × (Unit)} (h : Ev (fun k => T k c_1 dimension_2) r) : F (c_1, dimension_2, ()) = some r := Ev.run (fun k => by kernel_rfl) h
theorem ok : CtxOK prog ctx := ⟨nilM, mixed_ok, tab_ok tab_good, nilM, nilM, nilM⟩
theorem S : Sound prog ⟨52, sig, F⟩ := sound_k (res := [.tmp 4]) func52 ok
end spec_l05Of
namespace spec_l00Put
noncomputable def sig : Sig := ⟨[.val false (.sl (.int .i64)), .val false (.int .i64)], [(.val false, (.sl (.int .i64)), .deep)]⟩
noncomputable def ctx : Ctx := ⟨tabOf tabl, [], [], [], [], []⟩
noncomputable def cfg : Cfg := ⟨ctx, [], [], fun id => match id with | 4 => ([0, 1, 5, 6, 7], [20]) | _ => ([], []), fun _ => []⟩
noncomputable def code : Code := (f79).body.getD .skip
noncomputable def fin := finK ctx sig [.tmp 4]
noncomputable def F (d : List Int × Int × Unit) : Option ((List Int × Unit) × (Unit)) := anyK (runFn cfg fin code (initSt sig.ps d 49))
noncomputable def l4 (k : Nat) (x3 : List Int) (i4 : Int) (b5 : Bool) (i6 : Int) (x7 : List Int) : Option ((List Int × Unit) × (Unit)) :=
  Go.Vm.runT cfg fin k [.inLoop (sub [1, 1, 1, 0, 1, 0, 0] code), .inBlock 0, .code (sub [1, 1, 1, 1] code)]
    ⟨[.val false [⟨(.sl (.int .i64)), .sh, x3⟩], .val false [⟨(.int .i64), .sh, i4⟩], .dead, .dead, .dead, .view 20 (.root 0) 1 false, .val false [⟨.bool, .sh, b5⟩], .val false [⟨(.int .i64), .sh, i6⟩]] ++ deads 41, [(20, ⟨false, [⟨(.sl (.int .i64)), .deep, x7⟩]⟩)]⟩
theorem l4_eq (k : Nat) (x3 : List Int) (i4 : Int) (b5 : Bool) (i6 : Int) (x7 : List Int) : l4 (k + 1) x3 i4 b5 i6 x7 =
  if (decide (i6 < (x3.length : Int))) = true then
    if (!b5) = true then
      if 0 ≤ i6 ∧ i6 < (x3.length : Int) then
        if (decide ((x3.getD i6.toNat 0 : Int) ≥ i4)) = true then
          if 0 ≤ i6 ∧ i6 < (x3.length : Int) then
            if (decide ((x3.getD i6.toNat 0 : Int) > i4)) = true then
              if x7.length + ([i4] : List Int).length ≤ bigA then
                if 0 ≤ i6 ∧ i6 < (x3.length : Int) then
                  if (x7 ++ ([i4])).length + ([(x3.getD i6.toNat 0 : Int)] : List Int).length ≤ bigA then
                    l4 k x3 i4 true (IntKind.i64.wrap (i6 + (1 : Int))) ((x7 ++ ([i4])) ++ ([(x3.getD i6.toNat 0 : Int)]))
                  else
                    none
                else
                  none
              else
                none
            else
              if 0 ≤ i6 ∧ i6 < (x3.length : Int) then
                if x7.length + ([(x3.getD i6.toNat 0 : Int)] : List Int).length ≤ bigA then
                  l4 k x3 i4 true (IntKind.i64.wrap (i6 + (1 : Int))) (x7 ++ ([(x3.getD i6.toNat 0 : Int)]))
                else
                  none
              else
                none
          else
            none
        else
          if 0 ≤ i6 ∧ i6 < (x3.length : Int) then
            if x7.length + ([(x3.getD i6.toNat 0 : Int)] : List Int).length ≤ bigA then
              l4 k x3 i4 b5 (IntKind.i64.wrap (i6 + (1 : Int))) (x7 ++ ([(x3.getD i6.toNat 0 : Int)]))
            else
              none
          else
            none
      else
        none
    else
      if 0 ≤ i6 ∧ i6 < (x3.length : Int) then
        if x7.length + ([(x3.getD i6.toNat 0 : Int)] : List Int).length ≤ bigA then
          l4 k x3 i4 b5 (IntKind.i64.wrap (i6 + (1 : Int))) (x7 ++ ([(x3.getD i6.toNat 0 : Int)]))
        else
          none
      else
        none
  else
    if (!b5) = true then
      if x7.length + ([i4] : List Int).length ≤ bigA then
        some ((x7 ++ ([i4]), ()), ())
      else
        none
    else
      some ((x7, ()), ()) := by kernel_rfl
noncomputable def T (k : Nat) (list_1 : List Int) (n_2 : Int) : Option ((List Int × Unit) × (Unit)) :=
  l4 k list_1 n_2 false (0 : Int) ([] : List Int)
theorem of (list_1 : List Int) (n_2 : Int) {r : (List Int × Unit) × (Unit)} (h : Ev (fun k => T k list_1 n_2) r) : F (list_1, n_2, ()) = some r := Ev.run (fun k => by kernel_rfl) h
theorem ok : CtxOK prog ctx := ⟨nilM, mixed_ok, tab_ok tab_good, nilM, nilM, nilM⟩
theorem S : Sound prog ⟨79, sig, F⟩ := sound_k (res := [.tmp 4]) func79 ok
end spec_l00Put
namespace spec_l13Image
noncomputable def sig : Sig := ⟨[.rptr (.sl (.sl (.int .i64))), .val false (.sl (.int .i64)), .val false (.sl (.int .i64))], [(.val false, (.sl (.int .i64)), .deep)]⟩
noncomputable def ctx : Ctx := ⟨tabOf tabl, [⟨41, spec_l05Find.sig, spec_l05Find.F⟩, ⟨79, spec_l00Put.sig, spec_l00Put.F⟩], [], [], [], []⟩
noncomputable def cfg : Cfg := ⟨ctx, [], [], fun id => match id with | 3 => ([0, 1, 2, 7, 8], [28]) | _ => ([], []), fun _ => []⟩
noncomputable def code : Code := (f53).body.getD .skip
noncomputable def fin := finK ctx sig [.tmp 6]
noncomputable def F (d : List (List Int) × List Int × List Int × Unit) : Option ((List Int × Unit) × (Unit)) := anyK (runFn cfg fin code (initSt sig.ps d 29))
noncomputable def l3 (k : Nat) (x4 : List (List Int)) (x5 : List Int) (x6 : List Int) (i7 : Int) (x8 : List Int) : Option ((List Int × Unit) × (Unit)) :=
  Go.Vm.runT cfg fin k [.inLoop (sub [1, 1, 0, 1, 0, 0] code), .inBlock 0, .code (sub [1, 1, 1] code)]
    ⟨[.rptr false [⟨(.sl (.sl (.int .i64))), .sh, x4⟩], .val false [⟨(.sl (.int .i64)), .sh, x5⟩], .val false [⟨(.sl (.int .i64)), .sh, x6⟩], .dead, .dead, .dead, .dead, .view 28 (.root 0) 1 false, .val false [⟨(.int .i64), .sh, i7⟩]] ++ deads 20, [(28, ⟨false, [⟨(.sl (.int .i64)), .deep, x8⟩]⟩)]⟩
theorem l3_eq (k : Nat) (x4 : List (List Int)) (x5 : List Int) (x6 : List Int) (i7 : Int) (x8 : List Int) : l3 (k + 1) x4 x5 x6 i7 x8 =
  if (decide (i7 < (x6.length : Int))) = true then
    if 0 ≤ i7 ∧ i7 ≤ (IntKind.i64.wrap (i7 + (1 : Int))) ∧ (IntKind.i64.wrap (i7 + (1 : Int))) ≤ (x6.length : Int) then
      (spec_l05Find.F (x4, cutL x6 i7 (IntKind.i64.wrap (i7 + (1 : Int))), ())).bind fun r9 =>
        if 0 ≤ (r9.1.1 : Int) ∧ (r9.1.1 : Int) < (x5.length : Int) then
          (spec_l00Put.F (x8, x5.getD (r9.1.1 : Int).toNat 0, ())).bind fun r10 =>
            l3 k x4 x5 x6 (IntKind.i64.wrap (i7 + (1 : Int))) r10.1.1
        else
          none
    else
      none
  else
    some ((x8, ()), ()) := by kernel_rfl
noncomputable def T (k : Nat) (c_1 : List (List Int)) (images_2 : List Int) (s_3 : List Int) : Option ((List Int × Unit) × (Unit)) :=
  l3 k c_1 images_2 s_3 (0 : Int) ([] : List Int)
theorem of (c_1 : List (List Int)) (images_2 : List Int) (s_3 : List Int) {r : (List Int × Unit) × (Unit)} (h : Ev (fun k => T k c_1 images_2 s_3) r) : F (c_1, images_2, s_3, ()) = some r := Ev.run (fun k => by kernel_rfl) h
theorem ok : CtxOK prog ctx := ⟨nilM, mixed_ok, tab_ok tab_good, consM ⟨spec_l05Find.S, consM ⟨spec_l00Put.S, nilM⟩⟩, nilM, nilM⟩
theorem S : Sound prog ⟨53, sig, F⟩ := sound_k (res := [.tmp 6]) func53 ok
end spec_l13Image
namespace spec_l13Map
noncomputable def sig : Sig := ⟨[.rptr (.sl (.sl (.int .i64))), .rptr (.sl (.sl (.int .i64))), .val false (.sl (.int .i64))], [(.val false, .bool, .deep)]⟩
noncomputable def ctx : Ctx := ⟨tabOf tabl, [⟨41, spec_l05Find.sig, spec_l05Find.F⟩, ⟨52, spec_l05Of.sig, spec_l05Of.F⟩, ⟨53, spec_l13Image.sig, spec_l13Image.F⟩], [], [], [], []⟩
noncomputable def cfg : Cfg := ⟨ctx, [], [], fun id => match id with | 4 => ([0, 1, 2, 7], []) | _ => ([], []), fun _ => []⟩
noncomputable def code : Code := (f30).body.getD .skip
noncomputable def fin := finK ctx sig [.tmp 6]
noncomputable def F (d : List (List Int) × List (List Int) × List Int × Unit) : Option ((Bool × Unit) × (Unit)) := anyK (runFn cfg fin code (initSt sig.ps d 36))
noncomputable def l4 (k : Nat) (x5 : List (List Int)) (x6 : List (List Int)) (x7 : List Int) (i8 : Int) : Option ((Bool × Unit) × (Unit)) :=
  Go.Vm.runT cfg fin k [.inLoop (sub [1, 1, 0, 1, 0, 0] code), .inBlock 0, .code (sub [1, 1, 1] code)]
    ⟨[.rptr false [⟨(.sl (.sl (.int .i64))), .sh, x5⟩], .rptr false [⟨(.sl (.sl (.int .i64))), .sh, x6⟩], .val false [⟨(.sl (.int .i64)), .sh, x7⟩], .dead, .dead, .dead, .dead, .val false [⟨(.int .i64), .sh, i8⟩]] ++ deads 28, []⟩
theorem l4_eq (k : Nat) (x5 : List (List Int)) (x6 : List (List Int)) (x7 : List Int) (i8 : Int) : l4 (k + 1) x5 x6 x7 i8 =
  if (decide (i8 < (x5.length : Int))) = true then
    if 0 ≤ i8 ∧ i8 < (x5.length : Int) then
      (spec_l13Image.F (x5, x7, x5.getD i8.toNat ([] : List Int), ())).bind fun r9 =>
        (spec_l05Find.F (x6, r9.1.1, ())).bind fun r10 =>
          if (decide ((r10.1.1 : Int) < (0 : Int))) = true then
            some ((false, ()), ())
          else
            l4 k x5 x6 x7 (IntKind.i64.wrap (i8 + (1 : Int)))
    else
      none
  else
    some ((true, ()), ()) := by kernel_rfl
noncomputable def T (k : Nat) (c_1 : List (List Int)) (base_2 : List (List Int)) (images_3 : List Int) : Option ((Bool × Unit) × (Unit)) :=
  (spec_l05Of.F (c_1, (0 : Int), ())).bind fun r4 =>
    if ((images_3.length : Int) != (r4.1.1.length : Int)) = true then
      some ((false, ()), ())
    else
      l4 k c_1 base_2 images_3 (0 : Int)
theorem of (c_1 : List (List Int)) (base_2 : List (List Int)) (images_3 : List Int) {r : (Bool × Unit) × (Unit)} (h : Ev (fun k => T k c_1 base_2 images_3) r) : F (c_1, base_2, images_3, ()) = some r := Ev.run (fun k => by kernel_rfl) h
theorem ok : CtxOK prog ctx := ⟨nilM, mixed_ok, tab_ok tab_good, consM ⟨spec_l05Find.S, consM ⟨spec_l05Of.S, consM ⟨spec_l13Image.S, nilM⟩⟩⟩, nilM, nilM⟩
theorem S : Sound prog ⟨30, sig, F⟩ := sound_k (res := [.tmp 6]) func30 ok
end spec_l13Map
namespace spec_IsSimplicial
noncomputable def sig : Sig := ⟨[.val true (.sl (.sl (.int .i64))), .val true (.sl (.sl (.int .i64))), .val false (.sl (.int .i64))], [(.val false, .bool, .deep)]⟩
noncomputable def ctx : Ctx := ⟨tabOf tabl, [⟨23, spec_l05Ok.sig, spec_l05Ok.F⟩, ⟨30, spec_l13Map.sig, spec_l13Map.F⟩], [], [], [], []⟩
noncomputable def cfg : Cfg := ⟨ctx, [], [], fun _ => ([], []), fun _ => []⟩
noncomputable def code : Code := (f12).body.getD .skip
noncomputable def fin := finK ctx sig [.tmp 6]
noncomputable def F (d : List (List Int) × List (List Int) × List Int × Unit) : Option ((Bool × Unit) × (Unit)) := anyK (runFn cfg fin code (initSt sig.ps d 15))
noncomputable def T (c_1 : List (List Int)) (base_2 : List (List Int)) (images_3 : List Int) : Option ((Bool × Unit) × (Unit)) :=
  (spec_l05Ok.F (c_1, ())).bind fun r4 =>
    if (r4.1.1 : Bool) = true then
      (spec_l05Ok.F (base_2, ())).bind fun r5 =>
        if (r5.1.1 : Bool) = true then
          (spec_l13Map.F (c_1, base_2, images_3, ())).bind fun r6 =>
            some (((r6.1.1 : Bool), ()), ())
        else
          some ((false, ()), ())
    else
      some ((false, ()), ())
theorem eq (c_1 : List (List Int)) (base_2 : List (List Int)) (images_3 : List Int) : F (c_1, base_2, images_3, ()) = T c_1 base_2 images_3 := eq_any fun k => by kernel_rfl
theorem ok : CtxOK prog ctx := ⟨nilM, mixed_ok, tab_ok tab_good, consM ⟨spec_l05Ok.S, consM ⟨spec_l13Map.S, nilM⟩⟩, nilM, nilM⟩
theorem S : Sound prog ⟨12, sig, F⟩ := sound_k (res := [.tmp 6]) func12 ok
end spec_IsSimplicial
namespace impl_isRising
noncomputable def sig : Sig := ⟨[.val false (.sl (.int .i64))], [(.val false, .bool, .deep)]⟩
noncomputable def ctx : Ctx := ⟨tabOf tabl, [], [], [], [], []⟩
noncomputable def cfg : Cfg := ⟨ctx, [], [], fun id => match id with | 2 => ([0, 3], []) | _ => ([], []), fun _ => []⟩
noncomputable def code : Code := (f63).body.getD .skip
noncomputable def fin := finK ctx sig [.tmp 2]
noncomputable def F (d : List Int × Unit) : Option ((Bool × Unit) × (Unit)) := anyK (runFn cfg fin code (initSt sig.ps d 20))
noncomputable def l2 (k : Nat) (x2 : List Int) (i3 : Int) : Option ((Bool × Unit) × (Unit)) :=
  Go.Vm.runT cfg fin k [.inLoop (sub [1, 0, 1, 0, 0] code), .inBlock 0, .code (sub [1, 1] code)]
    ⟨[.val false [⟨(.sl (.int .i64)), .sh, x2⟩], .dead, .dead, .val false [⟨(.int .i64), .sh, i3⟩]] ++ deads 16, []⟩
theorem l2_eq (k : Nat) (x2 : List Int) (i3 : Int) : l2 (k + 1) x2 i3 =
  if (decide (i3 < (x2.length : Int))) = true then
    if 0 ≤ (IntKind.i64.wrap (i3 - (1 : Int))) ∧ (IntKind.i64.wrap (i3 - (1 : Int))) < (x2.length : Int) then
      if 0 ≤ i3 ∧ i3 < (x2.length : Int) then
        if (decide ((x2.getD (IntKind.i64.wrap (i3 - (1 : Int))).toNat 0) ≥ (x2.getD i3.toNat 0 : Int))) = true then
          some ((false, ()), ())
        else
          l2 k x2 (IntKind.i64.wrap (i3 + (1 : Int)))
      else
        none
    else
      none
  else
    some ((true, ()), ()) := by kernel_rfl
noncomputable def T (k : Nat) (list_1 : List Int) : Option ((Bool × Unit) × (Unit)) :=
  l2 k list_1 (1 : Int)
theorem of (list_1 : List Int) {r : (Bool × Unit) × (Unit)} (h : Ev (fun k => T k list_1) r) : F (list_1, ()) = some r := Ev.run (fun k => by kernel_rfl) h
theorem ok : CtxOK prog ctx := ⟨nilM, mixed_ok, tab_ok tab_good, nilM, nilM, nilM⟩
theorem S : Sound prog ⟨63, sig, F⟩ := sound_k (res := [.tmp 2]) func63 ok
end impl_isRising
namespace slices_IndexFunc_Lint64_int64
noncomputable def sig : Sig := ⟨[.val false (.sl (.int .i64)), .fnx ⟨[(false, (.int .i64))], [(.val false, .bool, .deep)]⟩], [(.val false, (.int .i64), .deep)]⟩
noncomputable def ctx : Ctx := ⟨tabOf tabl, [], [], [], [], []⟩
noncomputable def cfg : Cfg := ⟨ctx, [], [], fun id => match id with | 2 => ([0, 1, 7, 8], []) | _ => ([], []), fun _ => []⟩
noncomputable def code : Code := (f83).body.getD .skip
noncomputable def fin := finK ctx sig [.tmp 4]
noncomputable def F (d : List Int × ((Int × Unit) → Option (Bool × Unit)) × Unit) : Option ((Int × Unit) × (Unit)) := anyK (runFn cfg fin code (initSt sig.ps d 19))
noncomputable def l2 (k : Nat) (x3 : List Int) (f4 : (Int × Unit) → Option (Bool × Unit)) (i5 : Int) (i6 : Int) : Option ((Int × Unit) × (Unit)) :=
  Go.Vm.runT cfg fin k [.inLoop (sub [1, 0, 1, 0, 0] code), .inBlock 0, .code (sub [1, 1] code)]
    ⟨[.val false [⟨(.sl (.int .i64)), .sh, x3⟩], .fnx ⟨[(false, (.int .i64))], [(.val false, .bool, .deep)]⟩ f4, .dead, .dead, .dead, .dead, .dead, .val false [⟨(.int .i64), .sh, i5⟩], .val false [⟨(.int .i64), .sh, i6⟩]] ++ deads 10, []⟩
theorem l2_eq (k : Nat) (x3 : List Int) (f4 : (Int × Unit) → Option (Bool × Unit)) (i5 : Int) (i6 : Int) : l2 (k + 1) x3 f4 i5 i6 =
  if (decide (i6 < i5)) = true then
    if 0 ≤ i6 ∧ i6 < (x3.length : Int) then
      (f4 ((x3.getD i6.toNat 0 : Int), ())).bind fun r7 =>
        if (r7.1 : Bool) = true then
          some ((i6, ()), ())
        else
          l2 k x3 f4 i5 (IntKind.i64.wrap (i6 + (1 : Int)))
    else
      none
  else
    some (((-1 : Int), ()), ()) := by kernel_rfl
noncomputable def T (k : Nat) (s_1 : List Int) (f_2 : (Int × Unit) → Option (Bool × Unit)) : Option ((Int × Unit) × (Unit)) :=
  l2 k s_1 f_2 (s_1.length : Int) (0 : Int)
theorem of (s_1 : List Int) (f_2 : (Int × Unit) → Option (Bool × Unit)) {r : (Int × Unit) × (Unit)} (h : Ev (fun k => T k s_1 f_2) r) : F (s_1, f_2, ()) = some r := Ev.run (fun k => by kernel_rfl) h
theorem ok : CtxOK prog ctx := ⟨nilM, mixed_ok, tab_ok tab_good, nilM, nilM, nilM⟩
theorem S : Sound prog ⟨83, sig, F⟩ := sound_k (res := [.tmp 4]) func83 ok
end slices_IndexFunc_Lint64_int64
namespace slices_ContainsFunc_Lint64_int64
noncomputable def sig : Sig := ⟨[.val false (.sl (.int .i64)), .fnx ⟨[(false, (.int .i64))], [(.val false, .bool, .deep)]⟩], [(.val false, .bool, .deep)]⟩
noncomputable def ctx : Ctx := ⟨tabOf tabl, [⟨83, slices_IndexFunc_Lint64_int64.sig, slices_IndexFunc_Lint64_int64.F⟩], [], [], [], []⟩
noncomputable def cfg : Cfg := ⟨ctx, [], [], fun _ => ([], []), fun _ => []⟩
noncomputable def code : Code := (f64).body.getD .skip
noncomputable def fin := finK ctx sig [.tmp 4]
noncomputable def F (d : List Int × ((Int × Unit) → Option (Bool × Unit)) × Unit) : Option ((Bool × Unit) × (Unit)) := anyK (runFn cfg fin code (initSt sig.ps d 9))
noncomputable def T (s_1 : List Int) (f_2 : (Int × Unit) → Option (Bool × Unit)) : Option ((Bool × Unit) × (Unit)) :=
  (slices_IndexFunc_Lint64_int64.F (s_1, f_2, ())).bind fun r3 =>
    some ((decide ((r3.1.1 : Int) ≥ (0 : Int)), ()), ())
theorem eq (s_1 : List Int) (f_2 : (Int × Unit) → Option (Bool × Unit)) : F (s_1, f_2, ()) = T s_1 f_2 := eq_any fun k => by kernel_rfl
theorem ok : CtxOK prog ctx := ⟨nilM, mixed_ok, tab_ok tab_good, consM ⟨slices_IndexFunc_Lint64_int64.S, nilM⟩, nilM, nilM⟩
theorem S : Sound prog ⟨64, sig, F⟩ := sound_k (res := [.tmp 4]) func64 ok
end slices_ContainsFunc_Lint64_int64
namespace impl_within
noncomputable def sig : Sig := ⟨[.val false (.int .i64), .val false (.int .i64), .val false (.int .i64)], [(.val false, .bool, .deep)]⟩
noncomputable def ctx : Ctx := ⟨tabOf tabl, [], [], [], [], []⟩
noncomputable def cfg : Cfg := ⟨ctx, [], [], fun _ => ([], []), fun _ => []⟩
noncomputable def code : Code := (f84).body.getD .skip
noncomputable def fin := finK ctx sig [.tmp 6]
noncomputable def F (d : Int × Int × Int × Unit) : Option ((Bool × Unit) × (Unit)) := anyK (runFn cfg fin code (initSt sig.ps d 15))
noncomputable def T (n_1 : Int) (low_2 : Int) (high_3 : Int) : Option ((Bool × Unit) × (Unit)) :=
  if (decide (n_1 ≥ low_2)) = true then
    some ((decide (n_1 ≤ high_3), ()), ())
  else
    some ((false, ()), ())
theorem eq (n_1 : Int) (low_2 : Int) (high_3 : Int) : F (n_1, low_2, high_3, ()) = T n_1 low_2 high_3 := eq_any fun k => by kernel_rfl
theorem ok : CtxOK prog ctx := ⟨nilM, mixed_ok, tab_ok tab_good, nilM, nilM, nilM⟩
theorem S : Sound prog ⟨84, sig, F⟩ := sound_k (res := [.tmp 6]) func84 ok
end impl_within
namespace impl_isVertex
noncomputable def sig : Sig := ⟨[.val false (.int .i64)], [(.val false, .bool, .deep)]⟩
noncomputable def ctx : Ctx := ⟨tabOf tabl, [⟨84, impl_within.sig, impl_within.F⟩], [], [], [], []⟩
noncomputable def cfg : Cfg := ⟨ctx, [], [], fun _ => ([], []), fun _ => []⟩
noncomputable def code : Code := (f66).body.getD .skip
noncomputable def fin := finK ctx sig [.tmp 2]
noncomputable def F (d : Int × Unit) : Option ((Bool × Unit) × (Unit)) := anyK (runFn cfg fin code (initSt sig.ps d 5))
noncomputable def T (v_1 : Int) : Option ((Bool × Unit) × (Unit)) :=
  (impl_within.F (v_1, (0 : Int), (9 : Int), ())).bind fun r2 =>
    some (((r2.1.1 : Bool), ()), ())
theorem eq (v_1 : Int) : F (v_1, ()) = T v_1 := eq_any fun k => by kernel_rfl
theorem ok : CtxOK prog ctx := ⟨nilM, mixed_ok, tab_ok tab_good, consM ⟨impl_within.S, nilM⟩, nilM, nilM⟩
theorem S : Sound prog ⟨66, sig, F⟩ := sound_k (res := [.tmp 2]) func66 ok
end impl_isVertex
namespace impl_ValidSimplex_1
noncomputable def sig : Sig := ⟨[.val false (.int .i64)], [(.val false, .bool, .deep)]⟩
noncomputable def ctx : Ctx := ⟨tabOf tabl, [⟨66, impl_isVertex.sig, impl_isVertex.F⟩], [], [], [], []⟩
noncomputable def cfg : Cfg := ⟨ctx, [], [], fun _ => ([], []), fun _ => []⟩
noncomputable def code : Code := (f65).body.getD .skip
noncomputable def fin := finK ctx sig [.tmp 2]
noncomputable def F (d : Int × Unit) : Option ((Bool × Unit) × (Unit)) := anyK (runFn cfg fin code (initSt sig.ps d 6))
noncomputable def T (v_1 : Int) : Option ((Bool × Unit) × (Unit)) :=
  (impl_isVertex.F (v_1, ())).bind fun r2 =>
    some ((!(r2.1.1 : Bool), ()), ())
theorem eq (v_1 : Int) : F (v_1, ()) = T v_1 := eq_any fun k => by kernel_rfl
theorem ok : CtxOK prog ctx := ⟨nilM, mixed_ok, tab_ok tab_good, consM ⟨impl_isVertex.S, nilM⟩, nilM, nilM⟩
theorem S : Sound prog ⟨65, sig, F⟩ := sound_k (res := [.tmp 2]) func65 ok
noncomputable def cloG (y : Unit) (d : Int × Unit) : Option (Bool × Unit) := (F (joinIns [] [(false, (.int .i64))] d y)).map (·.1)
noncomputable def clo : Clo := ⟨65, ⟨[(false, (.int .i64))], [(.val false, .bool, .deep)]⟩, [], cloG⟩
theorem cloS : SoundClo prog clo := sound_clo (s := ⟨[(false, (.int .i64))], [(.val false, .bool, .deep)]⟩) (caps := []) rfl S
end impl_ValidSimplex_1
namespace impl_ValidSimplex
noncomputable def sig : Sig := ⟨[.val false (.sl (.int .i64))], [(.val false, .bool, .deep)]⟩
noncomputable def ctx : Ctx := ⟨tabOf tabl, [⟨63, impl_isRising.sig, impl_isRising.F⟩, ⟨64, slices_ContainsFunc_Lint64_int64.sig, slices_ContainsFunc_Lint64_int64.F⟩], [impl_ValidSimplex_1.clo], [], [], []⟩
noncomputable def cfg : Cfg := ⟨ctx, [], [], fun _ => ([], []), fun _ => []⟩
noncomputable def code : Code := (f43).body.getD .skip
noncomputable def fin := finK ctx sig [.tmp 2]
noncomputable def F (d : List Int × Unit) : Option ((Bool × Unit) × (Unit)) := anyK (runFn cfg fin code (initSt sig.ps d 20))
noncomputable def T (s_1 : List Int) : Option ((Bool × Unit) × (Unit)) :=
  if (decide ((s_1.length : Int) ≥ (1 : Int))) = true then
    if (decide ((s_1.length : Int) ≤ (4 : Int))) = true then
      (impl_isRising.F (s_1, ())).bind fun r2 =>
        if (r2.1.1 : Bool) = true then
          (slices_ContainsFunc_Lint64_int64.F (s_1, impl_ValidSimplex_1.cloG (()), ())).bind fun r3 =>
            some ((!(r3.1.1 : Bool), ()), ())
        else
          some ((false, ()), ())
    else
      some ((false, ()), ())
  else
    some ((false, ()), ())
theorem eq (s_1 : List Int) : F (s_1, ()) = T s_1 := eq_any fun k => by kernel_rfl
theorem ok : CtxOK prog ctx := ⟨nilM, mixed_ok, tab_ok tab_good, consM ⟨impl_isRising.S, consM ⟨slices_ContainsFunc_Lint64_int64.S, nilM⟩⟩, consM ⟨impl_ValidSimplex_1.cloS, nilM⟩, nilM⟩
theorem S : Sound prog ⟨43, sig, F⟩ := sound_k (res := [.tmp 2]) func43 ok
end impl_ValidSimplex
namespace cmp_Or_int
noncomputable def sig : Sig := ⟨[.val false (.sl (.int .i64))], [(.val false, (.int .i64), .deep)]⟩
noncomputable def ctx : Ctx := ⟨tabOf tabl, [], [], [], [], []⟩
noncomputable def cfg : Cfg := ⟨ctx, [], [], fun id => match id with | 3 => ([3, 6, 7, 8], []) | _ => ([], []), fun _ => []⟩
noncomputable def code : Code := (f67).body.getD .skip
noncomputable def fin := finK ctx sig [.tmp 2]
noncomputable def F (d : List Int × Unit) : Option ((Int × Unit) × (Unit)) := anyK (runFn cfg fin code (initSt sig.ps d 18))
noncomputable def l3 (k : Nat) (i2 : Int) (x3 : List Int) (i4 : Int) (i5 : Int) : Option ((Int × Unit) × (Unit)) :=
  Go.Vm.runT cfg fin k [.inLoop (sub [1, 1, 0, 1, 0, 0] code), .inBlock 0, .code (sub [1, 1, 1] code)]
    ⟨[.dead, .dead, .dead, .val false [⟨(.int .i64), .sh, i2⟩], .dead, .dead, .val false [⟨(.sl (.int .i64)), .sh, x3⟩], .val false [⟨(.int .i64), .sh, i4⟩], .val false [⟨(.int .i64), .sh, i5⟩]] ++ deads 9, []⟩
theorem l3_eq (k : Nat) (i2 : Int) (x3 : List Int) (i4 : Int) (i5 : Int) : l3 (k + 1) i2 x3 i4 i5 =
  if (decide (i5 < i4)) = true then
    if 0 ≤ i5 ∧ i5 < (x3.length : Int) then
      if ((x3.getD i5.toNat 0 : Int) != i2) = true then
        some (((x3.getD i5.toNat 0 : Int), ()), ())
      else
        l3 k i2 x3 i4 (IntKind.i64.wrap (i5 + (1 : Int)))
    else
      none
  else
    some ((i2, ()), ()) := by kernel_rfl
noncomputable def T (k : Nat) (vals_1 : List Int) : Option ((Int × Unit) × (Unit)) :=
  l3 k (0 : Int) vals_1 (vals_1.length : Int) (0 : Int)
theorem of (vals_1 : List Int) {r : (Int × Unit) × (Unit)} (h : Ev (fun k => T k vals_1) r) : F (vals_1, ()) = some r := Ev.run (fun k => by kernel_rfl) h
theorem ok : CtxOK prog ctx := ⟨nilM, mixed_ok, tab_ok tab_good, nilM, nilM, nilM⟩
theorem S : Sound prog ⟨67, sig, F⟩ := sound_k (res := [.tmp 2]) func67 ok
end cmp_Or_int
namespace cmp_isNaN_int
noncomputable def sig : Sig := ⟨[.val false (.int .i64)], [(.val false, .bool, .deep)]⟩
noncomputable def ctx : Ctx := ⟨tabOf tabl, [], [], [], [], []⟩
noncomputable def cfg : Cfg := ⟨ctx, [], [], fun _ => ([], []), fun _ => []⟩
noncomputable def code : Code := (f85).body.getD .skip
noncomputable def fin := finK ctx sig [.tmp 2]
noncomputable def F (d : Int × Unit) : Option ((Bool × Unit) × (Unit)) := anyK (runFn cfg fin code (initSt sig.ps d 6))
noncomputable def T (x_1 : Int) : Option ((Bool × Unit) × (Unit)) :=
  some ((x_1 != x_1, ()), ())
theorem eq (x_1 : Int) : F (x_1, ()) = T x_1 := eq_any fun k => by kernel_rfl
theorem ok : CtxOK prog ctx := ⟨nilM, mixed_ok, tab_ok tab_good, nilM, nilM, nilM⟩
theorem S : Sound prog ⟨85, sig, F⟩ := sound_k (res := [.tmp 2]) func85 ok
end cmp_isNaN_int
namespace cmp_Compare_int
noncomputable def sig : Sig := ⟨[.val false (.int .i64), .val false (.int .i64)], [(.val false, (.int .i64), .deep)]⟩
noncomputable def ctx : Ctx := ⟨tabOf tabl, [⟨85, cmp_isNaN_int.sig, cmp_isNaN_int.F⟩], [], [], [], []⟩
noncomputable def cfg : Cfg := ⟨ctx, [], [], fun _ => ([], []), fun _ => []⟩
noncomputable def code : Code := (f68).body.getD .skip
noncomputable def fin := finK ctx sig [.tmp 4]
noncomputable def F (d : Int × Int × Unit) : Option ((Int × Unit) × (Unit)) := anyK (runFn cfg fin code (initSt sig.ps d 20))
noncomputable def T (x_1 : Int) (y_2 : Int) : Option ((Int × Unit) × (Unit)) :=
  (cmp_isNaN_int.F (x_1, ())).bind fun r3 =>
    (cmp_isNaN_int.F (y_2, ())).bind fun r4 =>
      if (r3.1.1 : Bool) = true then
        if (r4.1.1 : Bool) = true then
          some (((0 : Int), ()), ())
        else
          some (((-1 : Int), ()), ())
      else
        if (r4.1.1 : Bool) = true then
          some (((1 : Int), ()), ())
        else
          if (decide (x_1 < y_2)) = true then
            some (((-1 : Int), ()), ())
          else
            if (decide (x_1 > y_2)) = true then
              some (((1 : Int), ()), ())
            else
              some (((0 : Int), ()), ())
theorem eq (x_1 : Int) (y_2 : Int) : F (x_1, y_2, ()) = T x_1 y_2 := eq_any fun k => by kernel_rfl
theorem ok : CtxOK prog ctx := ⟨nilM, mixed_ok, tab_ok tab_good, consM ⟨cmp_isNaN_int.S, nilM⟩, nilM, nilM⟩
theorem S : Sound prog ⟨68, sig, F⟩ := sound_k (res := [.tmp 4]) func68 ok
end cmp_Compare_int
namespace cmp_isNaN_int64
noncomputable def sig : Sig := ⟨[.val false (.int .i64)], [(.val false, .bool, .deep)]⟩
noncomputable def ctx : Ctx := ⟨tabOf tabl, [], [], [], [], []⟩
noncomputable def cfg : Cfg := ⟨ctx, [], [], fun _ => ([], []), fun _ => []⟩
noncomputable def code : Code := (f94).body.getD .skip
noncomputable def fin := finK ctx sig [.tmp 2]
noncomputable def F (d : Int × Unit) : Option ((Bool × Unit) × (Unit)) := anyK (runFn cfg fin code (initSt sig.ps d 6))
noncomputable def T (x_1 : Int) : Option ((Bool × Unit) × (Unit)) :=
  some ((x_1 != x_1, ()), ())
theorem eq (x_1 : Int) : F (x_1, ()) = T x_1 := eq_any fun k => by kernel_rfl
theorem ok : CtxOK prog ctx := ⟨nilM, mixed_ok, tab_ok tab_good, nilM, nilM, nilM⟩
theorem S : Sound prog ⟨94, sig, F⟩ := sound_k (res := [.tmp 2]) func94 ok
end cmp_isNaN_int64
namespace cmp_Compare_int64
noncomputable def sig : Sig := ⟨[.val false (.int .i64), .val false (.int .i64)], [(.val false, (.int .i64), .deep)]⟩
noncomputable def ctx : Ctx := ⟨tabOf tabl, [⟨94, cmp_isNaN_int64.sig, cmp_isNaN_int64.F⟩], [], [], [], []⟩
noncomputable def cfg : Cfg := ⟨ctx, [], [], fun _ => ([], []), fun _ => []⟩
noncomputable def code : Code := (f86).body.getD .skip
noncomputable def fin := finK ctx sig [.tmp 4]
noncomputable def F (d : Int × Int × Unit) : Option ((Int × Unit) × (Unit)) := anyK (runFn cfg fin code (initSt sig.ps d 20))
noncomputable def T (x_1 : Int) (y_2 : Int) : Option ((Int × Unit) × (Unit)) :=
  (cmp_isNaN_int64.F (x_1, ())).bind fun r3 =>
    (cmp_isNaN_int64.F (y_2, ())).bind fun r4 =>
      if (r3.1.1 : Bool) = true then
        if (r4.1.1 : Bool) = true then
          some (((0 : Int), ()), ())
        else
          some (((-1 : Int), ()), ())
      else
        if (r4.1.1 : Bool) = true then
          some (((1 : Int), ()), ())
        else
          if (decide (x_1 < y_2)) = true then
            some (((-1 : Int), ()), ())
          else
            if (decide (x_1 > y_2)) = true then
              some (((1 : Int), ()), ())
            else
              some (((0 : Int), ()), ())
theorem eq (x_1 : Int) (y_2 : Int) : F (x_1, y_2, ()) = T x_1 y_2 := eq_any fun k => by kernel_rfl
theorem ok : CtxOK prog ctx := ⟨nilM, mixed_ok, tab_ok tab_good, consM ⟨cmp_isNaN_int64.S, nilM⟩, nilM, nilM⟩
theorem S : Sound prog ⟨86, sig, F⟩ := sound_k (res := [.tmp 4]) func86 ok
end cmp_Compare_int64
namespace slices_Compare_Lint64_int64
noncomputable def sig : Sig := ⟨[.val false (.sl (.int .i64)), .val false (.sl (.int .i64))], [(.val false, (.int .i64), .deep)]⟩
noncomputable def ctx : Ctx := ⟨tabOf tabl, [⟨86, cmp_Compare_int64.sig, cmp_Compare_int64.F⟩], [], [], [], []⟩
noncomputable def cfg : Cfg := ⟨ctx, [], [], fun id => match id with | 2 => ([0, 1, 9, 10, 11], []) | _ => ([], []), fun _ => []⟩
noncomputable def code : Code := (f69).body.getD .skip
noncomputable def fin := finK ctx sig [.tmp 4]
noncomputable def F (d : List Int × List Int × Unit) : Option ((Int × Unit) × (Unit)) := anyK (runFn cfg fin code (initSt sig.ps d 36))
noncomputable def l2 (k : Nat) (x3 : List Int) (x4 : List Int) (x5 : List Int) (i6 : Int) (i7 : Int) : Option ((Int × Unit) × (Unit)) :=
  Go.Vm.runT cfg fin k [.inLoop (sub [1, 0, 1, 0, 0] code), .inBlock 0, .code (sub [1, 1] code)]
    ⟨[.val false [⟨(.sl (.int .i64)), .sh, x3⟩], .val false [⟨(.sl (.int .i64)), .sh, x4⟩], .dead, .dead, .dead, .dead, .dead, .dead, .dead, .val false [⟨(.sl (.int .i64)), .sh, x5⟩], .val false [⟨(.int .i64), .sh, i6⟩], .val false [⟨(.int .i64), .sh, i7⟩]] ++ deads 24, []⟩
theorem l2_eq (k : Nat) (x3 : List Int) (x4 : List Int) (x5 : List Int) (i6 : Int) (i7 : Int) : l2 (k + 1) x3 x4 x5 i6 i7 =
  if (decide (i7 < i6)) = true then
    if 0 ≤ i7 ∧ i7 < (x5.length : Int) then
      if (decide (i7 ≥ (x4.length : Int))) = true then
        some (((1 : Int), ()), ())
      else
        if 0 ≤ i7 ∧ i7 < (x4.length : Int) then
          (cmp_Compare_int64.F ((x5.getD i7.toNat 0 : Int), (x4.getD i7.toNat 0 : Int), ())).bind fun r8 =>
            if ((r8.1.1 : Int) != (0 : Int)) = true then
              some (((r8.1.1 : Int), ()), ())
            else
              l2 k x3 x4 x5 i6 (IntKind.i64.wrap (i7 + (1 : Int)))
        else
          none
    else
      none
  else
    if (decide ((x3.length : Int) < (x4.length : Int))) = true then
      some (((-1 : Int), ()), ())
    else
      some (((0 : Int), ()), ()) := by kernel_rfl
noncomputable def T (k : Nat) (s1_1 : List Int) (s2_2 : List Int) : Option ((Int × Unit) × (Unit)) :=
  l2 k s1_1 s2_2 s1_1 (s1_1.length : Int) (0 : Int)
theorem of (s1_1 : List Int) (s2_2 : List Int) {r : (Int × Unit) × (Unit)} (h : Ev (fun k => T k s1_1 s2_2) r) : F (s1_1, s2_2, ()) = some r := Ev.run (fun k => by kernel_rfl) h
theorem ok : CtxOK prog ctx := ⟨nilM, mixed_ok, tab_ok tab_good, consM ⟨cmp_Compare_int64.S, nilM⟩, nilM, nilM⟩
theorem S : Sound prog ⟨69, sig, F⟩ := sound_k (res := [.tmp 4]) func69 ok
end slices_Compare_Lint64_int64
namespace impl_compareSimplices
noncomputable def sig : Sig := ⟨[.val false (.sl (.int .i64)), .val false (.sl (.int .i64))], [(.val false, (.int .i64), .deep)]⟩
noncomputable def ctx : Ctx := ⟨tabOf tabl, [⟨67, cmp_Or_int.sig, cmp_Or_int.F⟩, ⟨68, cmp_Compare_int.sig, cmp_Compare_int.F⟩, ⟨69, slices_Compare_Lint64_int64.sig, slices_Compare_Lint64_int64.F⟩], [], [], [], []⟩
noncomputable def cfg : Cfg := ⟨ctx, [], [], fun _ => ([], []), fun _ => []⟩
noncomputable def code : Code := (f44).body.getD .skip
noncomputable def fin := finK ctx sig [.tmp 4]
noncomputable def F (d : List Int × List Int × Unit) : Option ((Int × Unit) × (Unit)) := anyK (runFn cfg fin code (initSt sig.ps d 15))
noncomputable def T (a_1 : List Int) (b_2 : List Int) : Option ((Int × Unit) × (Unit)) :=
  (cmp_Compare_int.F ((a_1.length : Int), (b_2.length : Int), ())).bind fun r3 =>
    (slices_Compare_Lint64_int64.F (a_1, b_2, ())).bind fun r4 =>
      (cmp_Or_int.F ([(r3.1.1 : Int), (r4.1.1 : Int)], ())).bind fun r5 =>
        some (((r5.1.1 : Int), ()), ())
theorem eq (a_1 : List Int) (b_2 : List Int) : F (a_1, b_2, ()) = T a_1 b_2 := eq_any fun k => by kernel_rfl
theorem ok : CtxOK prog ctx := ⟨nilM, mixed_ok, tab_ok tab_good, consM ⟨cmp_Or_int.S, consM ⟨cmp_Compare_int.S, consM ⟨slices_Compare_Lint64_int64.S, nilM⟩⟩⟩, nilM, nilM⟩
theorem S : Sound prog ⟨44, sig, F⟩ := sound_k (res := [.tmp 4]) func44 ok
noncomputable def cloG (y : Unit) (d : List Int × List Int × Unit) : Option (Int × Unit) := (F (joinIns [] [(false, (.sl (.int .i64))), (false, (.sl (.int .i64)))] d y)).map (·.1)
noncomputable def clo : Clo := ⟨44, ⟨[(false, (.sl (.int .i64))), (false, (.sl (.int .i64)))], [(.val false, (.int .i64), .deep)]⟩, [], cloG⟩
theorem cloS : SoundClo prog clo := sound_clo (s := ⟨[(false, (.sl (.int .i64))), (false, (.sl (.int .i64)))], [(.val false, (.int .i64), .deep)]⟩) (caps := []) rfl S
end impl_compareSimplices
namespace slices_IndexFunc_LLint64_Lint64
noncomputable def sig : Sig := ⟨[.val false (.sl (.sl (.int .i64))), .fnx ⟨[(false, (.sl (.int .i64)))], [(.val false, .bool, .deep)]⟩], [(.val false, (.int .i64), .deep)]⟩
noncomputable def ctx : Ctx := ⟨tabOf tabl, [], [], [], [], []⟩
noncomputable def cfg : Cfg := ⟨ctx, [], [], fun id => match id with | 2 => ([0, 1, 7, 8], []) | _ => ([], []), fun _ => []⟩
noncomputable def code : Code := (f70).body.getD .skip
noncomputable def fin := finK ctx sig [.tmp 4]
noncomputable def F (d : List (List Int) × ((List Int × Unit) → Option (Bool × Unit)) × Unit) : Option ((Int × Unit) × (Unit)) := anyK (runFn cfg fin code (initSt sig.ps d 19))
noncomputable def l2 (k : Nat) (x3 : List (List Int)) (f4 : (List Int × Unit) → Option (Bool × Unit)) (i5 : Int) (i6 : Int) : Option ((Int × Unit) × (Unit)) :=
  Go.Vm.runT cfg fin k [.inLoop (sub [1, 0, 1, 0, 0] code), .inBlock 0, .code (sub [1, 1] code)]
    ⟨[.val false [⟨(.sl (.sl (.int .i64))), .sh, x3⟩], .fnx ⟨[(false, (.sl (.int .i64)))], [(.val false, .bool, .deep)]⟩ f4, .dead, .dead, .dead, .dead, .dead, .val false [⟨(.int .i64), .sh, i5⟩], .val false [⟨(.int .i64), .sh, i6⟩]] ++ deads 10, []⟩
theorem l2_eq (k : Nat) (x3 : List (List Int)) (f4 : (List Int × Unit) → Option (Bool × Unit)) (i5 : Int) (i6 : Int) : l2 (k + 1) x3 f4 i5 i6 =
  if (decide (i6 < i5)) = true then
    if 0 ≤ i6 ∧ i6 < (x3.length : Int) then
      (f4 (x3.getD i6.toNat ([] : List Int), ())).bind fun r7 =>
        if (r7.1 : Bool) = true then
          some ((i6, ()), ())
        else
          l2 k x3 f4 i5 (IntKind.i64.wrap (i6 + (1 : Int)))
    else
      none
  else
    some (((-1 : Int), ()), ()) := by kernel_rfl
noncomputable def T (k : Nat) (s_1 : List (List Int)) (f_2 : (List Int × Unit) → Option (Bool × Unit)) : Option ((Int × Unit) × (Unit)) :=
  l2 k s_1 f_2 (s_1.length : Int) (0 : Int)
theorem of (s_1 : List (List Int)) (f_2 : (List Int × Unit) → Option (Bool × Unit)) {r : (Int × Unit) × (Unit)} (h : Ev (fun k => T k s_1 f_2) r) : F (s_1, f_2, ()) = some r := Ev.run (fun k => by kernel_rfl) h
theorem ok : CtxOK prog ctx := ⟨nilM, mixed_ok, tab_ok tab_good, nilM, nilM, nilM⟩
theorem S : Sound prog ⟨70, sig, F⟩ := sound_k (res := [.tmp 4]) func70 ok
end slices_IndexFunc_LLint64_Lint64
namespace slices_ContainsFunc_LLint64_Lint64
noncomputable def sig : Sig := ⟨[.val false (.sl (.sl (.int .i64))), .fnx ⟨[(false, (.sl (.int .i64)))], [(.val false, .bool, .deep)]⟩], [(.val false, .bool, .deep)]⟩
noncomputable def ctx : Ctx := ⟨tabOf tabl, [⟨70, slices_IndexFunc_LLint64_Lint64.sig, slices_IndexFunc_LLint64_Lint64.F⟩], [], [], [], []⟩
noncomputable def cfg : Cfg := ⟨ctx, [], [], fun _ => ([], []), fun _ => []⟩
noncomputable def code : Code := (f45).body.getD .skip
noncomputable def fin := finK ctx sig [.tmp 4]
noncomputable def F (d : List (List Int) × ((List Int × Unit) → Option (Bool × Unit)) × Unit) : Option ((Bool × Unit) × (Unit)) := anyK (runFn cfg fin code (initSt sig.ps d 9))
noncomputable def T (s_1 : List (List Int)) (f_2 : (List Int × Unit) → Option (Bool × Unit)) : Option ((Bool × Unit) × (Unit)) :=
  (slices_IndexFunc_LLint64_Lint64.F (s_1, f_2, ())).bind fun r3 =>
    some ((decide ((r3.1.1 : Int) ≥ (0 : Int)), ()), ())
theorem eq (s_1 : List (List Int)) (f_2 : (List Int × Unit) → Option (Bool × Unit)) : F (s_1, f_2, ()) = T s_1 f_2 := eq_any fun k => by kernel_rfl
theorem ok : CtxOK prog ctx := ⟨nilM, mixed_ok, tab_ok tab_good, consM ⟨slices_IndexFunc_LLint64_Lint64.S, nilM⟩, nilM, nilM⟩
theorem S : Sound prog ⟨45, sig, F⟩ := sound_k (res := [.tmp 4]) func45 ok
end slices_ContainsFunc_LLint64_Lint64
namespace slices_Concat_Lint64_int64
noncomputable def sig : Sig := ⟨[.val false (.sl (.sl (.int .i64)))], [(.val false, (.sl (.int .i64)), .deep)]⟩
noncomputable def ctx : Ctx := ⟨tabOf tabl, [], [], [], [(87, (.int .i64))], []⟩
noncomputable def cfg : Cfg := ⟨ctx, [], [], fun id => match id with | 3 => ([0, 3, 9, 10, 11], []) | 11 => ([6, 25, 26, 27], [24]) | _ => ([], []), fun _ => []⟩
noncomputable def code : Code := (f71).body.getD .skip
noncomputable def fin := finK ctx sig [.tmp 2]
noncomputable def F (d : List (List Int) × Unit) : Option ((List Int × Unit) × (Unit)) := anyK (runFn cfg fin code (initSt sig.ps d 36))
noncomputable def l3 (k : Nat) (x2 : List (List Int)) (i3 : Int) (x4 : List (List Int)) (i5 : Int) (i6 : Int) : Option ((List Int × Unit) × (Unit)) :=
  Go.Vm.runT cfg fin k [.inLoop (sub [1, 1, 0, 1, 0, 0] code), .inBlock 0, .code (sub [1, 1, 1] code)]
    ⟨[.val false [⟨(.sl (.sl (.int .i64))), .sh, x2⟩], .dead, .dead, .val false [⟨(.int .i64), .sh, i3⟩], .dead, .dead, .dead, .dead, .dead, .val false [⟨(.sl (.sl (.int .i64))), .sh, x4⟩], .val false [⟨(.int .i64), .sh, i5⟩], .val false [⟨(.int .i64), .sh, i6⟩]] ++ deads 24, []⟩
noncomputable def l11 (k : Nat) (x7 : List (List Int)) (i8 : Int) (i9 : Int) (x10 : List Int) : Option ((List Int × Unit) × (Unit)) :=
  Go.Vm.runT cfg fin k [.inLoop (sub [1, 1, 1, 1, 0, 1, 0, 0] code), .inBlock 2, .code (sub [1, 1, 1, 1, 1] code)]
    ⟨[.dead, .dead, .dead, .dead, .dead, .dead, .view 24 (.root 0) 1 false, .dead, .dead, .dead, .dead, .dead, .dead, .dead, .dead, .dead, .dead, .dead, .dead, .dead, .dead, .dead, .dead, .dead, .dead, .val false [⟨(.sl (.sl (.int .i64))), .sh, x7⟩], .val false [⟨(.int .i64), .sh, i8⟩], .val false [⟨(.int .i64), .sh, i9⟩]] ++ deads 8, [(24, ⟨false, [⟨(.sl (.int .i64)), .deep, x10⟩]⟩)]⟩
theorem l3_eq (k : Nat) (x2 : List (List Int)) (i3 : Int) (x4 : List (List Int)) (i5 : Int) (i6 : Int) : l3 (k + 1) x2 i3 x4 i5 i6 =
  if (decide (i6 < i5)) = true then
    if 0 ≤ i6 ∧ i6 < (x4.length : Int) then
      if (decide ((IntKind.i64.wrap (i3 + ((x4.getD i6.toNat ([] : List Int)).length : Int))) < (0 : Int))) = true then
        none
      else
        l3 k x2 (IntKind.i64.wrap (i3 + ((x4.getD i6.toNat ([] : List Int)).length : Int))) x4 i5 (IntKind.i64.wrap (i6 + (1 : Int)))
    else
      none
  else
    if 0 ≤ i3 ∧ i3 ≤ (bigN : Int) then
      l11 k x2 (x2.length : Int) (0 : Int) ([] : List Int)
    else
      none := by kernel_rfl
theorem l11_eq (k : Nat) (x7 : List (List Int)) (i8 : Int) (i9 : Int) (x10 : List Int) : l11 (k + 1) x7 i8 i9 x10 =
  if (decide (i9 < i8)) = true then
    if 0 ≤ i9 ∧ i9 < (x7.length : Int) then
      if x10.length + (x7.getD i9.toNat ([] : List Int)).length ≤ bigA then
        l11 k x7 i8 (IntKind.i64.wrap (i9 + (1 : Int))) (x10 ++ (x7.getD i9.toNat ([] : List Int)))
      else
        none
    else
      none
  else
    some ((x10, ()), ()) := by kernel_rfl
noncomputable def T (k : Nat) (slices_1 : List (List Int)) : Option ((List Int × Unit) × (Unit)) :=
  l3 k slices_1 (0 : Int) slices_1 (slices_1.length : Int) (0 : Int)
theorem of (slices_1 : List (List Int)) {r : (List Int × Unit) × (Unit)} (h : Ev (fun k => T k slices_1) r) : F (slices_1, ()) = some r := Ev.run (fun k => by kernel_rfl) h
theorem ok : CtxOK prog ctx := ⟨nilM, mixed_ok, tab_ok tab_good, nilM, nilM, consM ⟨slices_Grow_Lint64_int64.growOK, nilM⟩⟩
theorem S : Sound prog ⟨71, sig, F⟩ := sound_k (res := [.tmp 2]) func71 ok
end slices_Concat_Lint64_int64
namespace impl_facesOf
noncomputable def sig : Sig := ⟨[.val false (.sl (.int .i64))], [(.val false, (.sl (.sl (.int .i64))), .deep)]⟩
noncomputable def ctx : Ctx := ⟨tabOf tabl, [⟨71, slices_Concat_Lint64_int64.sig, slices_Concat_Lint64_int64.F⟩], [], [], [], []⟩
noncomputable def cfg : Cfg := ⟨ctx, [], [], fun id => match id with | 3 => ([0, 3, 6, 7], [12]) | _ => ([], []), fun _ => []⟩
noncomputable def code : Code := (f46).body.getD .skip
noncomputable def fin := finK ctx sig [.tmp 2]
noncomputable def F (d : List Int × Unit) : Option ((List (List Int) × Unit) × (Unit)) := anyK (runFn cfg fin code (initSt sig.ps d 27))
noncomputable def l3 (k : Nat) (x2 : List Int) (i3 : Int) (i4 : Int) (x5 : List (List Int)) : Option ((List (List Int) × Unit) × (Unit)) :=
  Go.Vm.runT cfg fin k [.inLoop (sub [1, 1, 0, 1, 0, 0] code), .inBlock 0, .code (sub [1, 1, 1] code)]
    ⟨[.val false [⟨(.sl (.int .i64)), .sh, x2⟩], .dead, .dead, .view 12 (.root 0) 1 false, .dead, .dead, .val false [⟨(.int .i64), .sh, i3⟩], .val false [⟨(.int .i64), .sh, i4⟩]] ++ deads 19, [(12, ⟨false, [⟨(.sl (.sl (.int .i64))), .deep, x5⟩]⟩)]⟩
theorem l3_eq (k : Nat) (x2 : List Int) (i3 : Int) (i4 : Int) (x5 : List (List Int)) : l3 (k + 1) x2 i3 i4 x5 =
  if (decide (i4 < i3)) = true then
    if (decide ((x2.length : Int) > (1 : Int))) = true then
      if 0 ≤ (0 : Int) ∧ (0 : Int) ≤ i4 ∧ i4 ≤ (x2.length : Int) then
        if 0 ≤ (IntKind.i64.wrap (i4 + (1 : Int))) ∧ (IntKind.i64.wrap (i4 + (1 : Int))) ≤ (x2.length : Int) ∧ (x2.length : Int) ≤ (x2.length : Int) then
          (slices_Concat_Lint64_int64.F ([cutL x2 (0 : Int) i4, cutL x2 (IntKind.i64.wrap (i4 + (1 : Int))) (x2.length : Int)], ())).bind fun r6 =>
            if x5.length + ([r6.1.1] : List (List Int)).length ≤ bigA then
              l3 k x2 i3 (IntKind.i64.wrap (i4 + (1 : Int))) (x5 ++ ([r6.1.1]))
            else
              none
        else
          none
      else
        none
    else
      l3 k x2 i3 (IntKind.i64.wrap (i4 + (1 : Int))) x5
  else
    some ((x5, ()), ()) := by kernel_rfl
noncomputable def T (k : Nat) (s_1 : List Int) : Option ((List (List Int) × Unit) × (Unit)) :=
  l3 k s_1 (s_1.length : Int) (0 : Int) ([])
theorem of (s_1 : List Int) {r : (List (List Int) × Unit) × (Unit)} (h : Ev (fun k => T k s_1) r) : F (s_1, ()) = some r := Ev.run (fun k => by kernel_rfl) h
theorem ok : CtxOK prog ctx := ⟨nilM, mixed_ok, tab_ok tab_good, consM ⟨slices_Concat_Lint64_int64.S, nilM⟩, nilM, nilM⟩
theorem S : Sound prog ⟨46, sig, F⟩ := sound_k (res := [.tmp 2]) func46 ok
end impl_facesOf
namespace slices_BinarySearchFunc_LLint64_Lint64_Lint64
noncomputable def sig : Sig := ⟨[.val false (.sl (.sl (.int .i64))), .val false (.sl (.int .i64)), .fnx ⟨[(false, (.sl (.int .i64))), (false, (.sl (.int .i64)))], [(.val false, (.int .i64), .deep)]⟩], [(.val false, (.int .i64), .deep), (.val false, .bool, .deep)]⟩
noncomputable def ctx : Ctx := ⟨tabOf tabl, [], [], [], [], []⟩
noncomputable def cfg : Cfg := ⟨ctx, [], [], fun id => match id with | 3 => ([0, 1, 2, 8, 9, 10], []) | _ => ([], []), fun _ => []⟩
noncomputable def code : Code := (f72).body.getD .skip
noncomputable def fin := finK ctx sig [.tmp 6, .tmp 7]
noncomputable def F (d : List (List Int) × List Int × ((List Int × List Int × Unit) → Option (Int × Unit)) × Unit) : Option ((Int × Bool × Unit) × (Unit)) := anyK (runFn cfg fin code (initSt sig.ps d 49))
noncomputable def l3 (k : Nat) (x4 : List (List Int)) (x5 : List Int) (f6 : (List Int × List Int × Unit) → Option (Int × Unit)) (i7 : Int) (i8 : Int) (i9 : Int) : Option ((Int × Bool × Unit) × (Unit)) :=
  Go.Vm.runT cfg fin k [.inLoop (sub [1, 1, 1, 0, 0, 0] code), .inBlock 0, .code (sub [1, 1, 1, 1] code)]
    ⟨[.val false [⟨(.sl (.sl (.int .i64))), .sh, x4⟩], .val false [⟨(.sl (.int .i64)), .sh, x5⟩], .fnx ⟨[(false, (.sl (.int .i64))), (false, (.sl (.int .i64)))], [(.val false, (.int .i64), .deep)]⟩ f6, .dead, .dead, .dead, .dead, .dead, .val false [⟨(.int .i64), .sh, i7⟩], .val false [⟨(.int .i64), .sh, i8⟩], .val false [⟨(.int .i64), .sh, i9⟩]] ++ deads 38, []⟩
theorem l3_eq (k : Nat) (x4 : List (List Int)) (x5 : List Int) (f6 : (List Int × List Int × Unit) → Option (Int × Unit)) (i7 : Int) (i8 : Int) (i9 : Int) : l3 (k + 1) x4 x5 f6 i7 i8 i9 =
  if (decide (i8 < i9)) = true then
    if (1 : Int) < 0 then
      none
    else
      if 0 ≤ (IntKind.i64.wrap ((IntKind.u64.wrap (IntKind.i64.wrap (i8 + i9))).fdiv (2 ^ (min (1 : Int).toNat IntKind.u64.bits)))) ∧ (IntKind.i64.wrap ((IntKind.u64.wrap (IntKind.i64.wrap (i8 + i9))).fdiv (2 ^ (min (1 : Int).toNat IntKind.u64.bits)))) < (x4.length : Int) then
        (f6 (x4.getD (IntKind.i64.wrap ((IntKind.u64.wrap (IntKind.i64.wrap (i8 + i9))).fdiv (2 ^ (min (1 : Int).toNat IntKind.u64.bits)))).toNat ([] : List Int), x5, ())).bind fun r10 =>
          if (decide ((r10.1 : Int) < (0 : Int))) = true then
            l3 k x4 x5 f6 i7 (IntKind.i64.wrap ((IntKind.i64.wrap ((IntKind.u64.wrap (IntKind.i64.wrap (i8 + i9))).fdiv (2 ^ (min (1 : Int).toNat IntKind.u64.bits)))) + (1 : Int))) i9
          else
            l3 k x4 x5 f6 i7 i8 (IntKind.i64.wrap ((IntKind.u64.wrap (IntKind.i64.wrap (i8 + i9))).fdiv (2 ^ (min (1 : Int).toNat IntKind.u64.bits))))
      else
        none
  else
    if (decide (i8 < i7)) = true then
      if 0 ≤ i8 ∧ i8 < (x4.length : Int) then
        (f6 (x4.getD i8.toNat ([] : List Int), x5, ())).bind fun r11 =>
          some ((i8, ((r11.1 : Int) == (0 : Int), ())), ())
      else
        none
    else
      some ((i8, (false, ())), ()) := by kernel_rfl
noncomputable def T (k : Nat) (x_1 : List (List Int)) (target_2 : List Int) (f_3 : (List Int × List Int × Unit) → Option (Int × Unit)) : Option ((Int × Bool × Unit) × (Unit)) :=
  l3 k x_1 target_2 f_3 (x_1.length : Int) (0 : Int) (x_1.length : Int)
theorem of (x_1 : List (List Int)) (target_2 : List Int) (f_3 : (List Int × List Int × Unit) → Option (Int × Unit)) {r : (Int × Bool × Unit) × (Unit)} (h : Ev (fun k => T k x_1 target_2 f_3) r) : F (x_1, target_2, f_3, ()) = some r := Ev.run (fun k => by kernel_rfl) h
theorem ok : CtxOK prog ctx := ⟨nilM, mixed_ok, tab_ok tab_good, nilM, nilM, nilM⟩
theorem S : Sound prog ⟨72, sig, F⟩ := sound_k (res := [.tmp 6, .tmp 7]) func72 ok
end slices_BinarySearchFunc_LLint64_Lint64_Lint64
namespace impl_indexOf
noncomputable def sig : Sig := ⟨[.val true (.sl (.sl (.int .i64))), .val false (.sl (.int .i64))], [(.val false, (.int .i64), .deep)]⟩
noncomputable def ctx : Ctx := ⟨tabOf tabl, [⟨72, slices_BinarySearchFunc_LLint64_Lint64_Lint64.sig, slices_BinarySearchFunc_LLint64_Lint64_Lint64.F⟩], [impl_compareSimplices.clo], [], [], []⟩
noncomputable def cfg : Cfg := ⟨ctx, [], [], fun _ => ([], []), fun _ => []⟩
noncomputable def code : Code := (f48).body.getD .skip
noncomputable def fin := finK ctx sig [.tmp 4]
noncomputable def F (d : List (List Int) × List Int × Unit) : Option ((Int × Unit) × (Unit)) := anyK (runFn cfg fin code (initSt sig.ps d 17))
noncomputable def T (c_1 : List (List Int)) (s_2 : List Int) : Option ((Int × Unit) × (Unit)) :=
  (slices_BinarySearchFunc_LLint64_Lint64_Lint64.F (c_1, s_2, impl_compareSimplices.cloG (()), ())).bind fun r3 =>
    if (!(r3.1.2.1 : Bool)) = true then
      some (((-1 : Int), ()), ())
    else
      some (((r3.1.1 : Int), ()), ())
theorem eq (c_1 : List (List Int)) (s_2 : List Int) : F (c_1, s_2, ()) = T c_1 s_2 := eq_any fun k => by kernel_rfl
theorem ok : CtxOK prog ctx := ⟨nilM, mixed_ok, tab_ok tab_good, consM ⟨slices_BinarySearchFunc_LLint64_Lint64_Lint64.S, nilM⟩, consM ⟨impl_compareSimplices.cloS, nilM⟩, nilM⟩
theorem S : Sound prog ⟨48, sig, F⟩ := sound_k (res := [.tmp 4]) func48 ok
end impl_indexOf
namespace impl_ValidComplex_1
noncomputable def sig : Sig := ⟨[.val false (.sl (.int .i64)), .rptr (.sl (.sl (.int .i64))), .rptr (.int .i64)], [(.val false, .bool, .deep)]⟩
noncomputable def ctx : Ctx := ⟨tabOf tabl, [⟨48, impl_indexOf.sig, impl_indexOf.F⟩], [], [], [], []⟩
noncomputable def cfg : Cfg := ⟨ctx, [], [], fun _ => ([], []), fun _ => []⟩
noncomputable def code : Code := (f47).body.getD .skip
noncomputable def fin := finK ctx sig [.tmp 4]
noncomputable def F (d : List Int × List (List Int) × Int × Unit) : Option ((Bool × Unit) × (Unit)) := anyK (runFn cfg fin code (initSt sig.ps d 13))
noncomputable def T (f_1 : List Int) (a_2 : List (List Int)) (a_3 : Int) : Option ((Bool × Unit) × (Unit)) :=
  if 0 ≤ (0 : Int) ∧ (0 : Int) ≤ a_3 ∧ a_3 ≤ (a_2.length : Int) then
    (impl_indexOf.F (cutL a_2 (0 : Int) a_3, f_1, ())).bind fun r4 =>
      some ((decide ((r4.1.1 : Int) < (0 : Int)), ()), ())
  else
    none
theorem eq (f_1 : List Int) (a_2 : List (List Int)) (a_3 : Int) : F (f_1, a_2, a_3, ()) = T f_1 a_2 a_3 := eq_any fun k => by kernel_rfl
theorem ok : CtxOK prog ctx := ⟨nilM, mixed_ok, tab_ok tab_good, consM ⟨impl_indexOf.S, nilM⟩, nilM, nilM⟩
theorem S : Sound prog ⟨47, sig, F⟩ := sound_k (res := [.tmp 4]) func47 ok
noncomputable def cloG (y : List (List Int) × Int × Unit) (d : List Int × Unit) : Option (Bool × Unit) := (F (joinIns [.rptr (.sl (.sl (.int .i64))), .rptr (.int .i64)] [(false, (.sl (.int .i64)))] d y)).map (·.1)
noncomputable def clo : Clo := ⟨47, ⟨[(false, (.sl (.int .i64)))], [(.val false, .bool, .deep)]⟩, [.rptr (.sl (.sl (.int .i64))), .rptr (.int .i64)], cloG⟩
theorem cloS : SoundClo prog clo := sound_clo (s := ⟨[(false, (.sl (.int .i64)))], [(.val false, .bool, .deep)]⟩) (caps := [.rptr (.sl (.sl (.int .i64))), .rptr (.int .i64)]) rfl S
end impl_ValidComplex_1
namespace impl_ValidComplex
noncomputable def sig : Sig := ⟨[.val true (.sl (.sl (.int .i64)))], [(.val false, .bool, .deep)]⟩
noncomputable def ctx : Ctx := ⟨tabOf tabl, [⟨43, impl_ValidSimplex.sig, impl_ValidSimplex.F⟩, ⟨44, impl_compareSimplices.sig, impl_compareSimplices.F⟩, ⟨45, slices_ContainsFunc_LLint64_Lint64.sig, slices_ContainsFunc_LLint64_Lint64.F⟩, ⟨46, impl_facesOf.sig, impl_facesOf.F⟩], [impl_ValidComplex_1.clo], [], [], []⟩
noncomputable def cfg : Cfg := ⟨ctx, [], [], fun id => match id with | 2 => ([1, 6, 7, 8], [4]) | _ => ([], []), fun _ => []⟩
noncomputable def code : Code := (f26).body.getD .skip
noncomputable def fin := finK ctx sig [.tmp 2]
noncomputable def F (d : List (List Int) × Unit) : Option ((Bool × Unit) × (Unit)) := anyK (runFn cfg fin code (initSt sig.ps d 40))
noncomputable def l2 (k : Nat) (x2 : List (List Int)) (i3 : Int) (i4 : Int) (x5 : List (List Int)) : Option ((Bool × Unit) × (Unit)) :=
  Go.Vm.runT cfg fin k [.inLoop (sub [1, 0, 1, 0, 0] code), .inBlock 0, .code (sub [1, 1] code)]
    ⟨[.dead, .ref 4 (.root 0), .dead, .dead, .dead, .dead, .val false [⟨(.sl (.sl (.int .i64))), .sh, x2⟩], .val false [⟨(.int .i64), .sh, i3⟩], .val false [⟨(.int .i64), .sh, i4⟩]] ++ deads 31, [(4, ⟨true, [⟨(.sl (.sl (.int .i64))), .sh, x5⟩]⟩)]⟩
theorem l2_eq (k : Nat) (x2 : List (List Int)) (i3 : Int) (i4 : Int) (x5 : List (List Int)) : l2 (k + 1) x2 i3 i4 x5 =
  if (decide (i4 < i3)) = true then
    if 0 ≤ i4 ∧ i4 < (x2.length : Int) then
      (impl_ValidSimplex.F (x2.getD i4.toNat ([] : List Int), ())).bind fun r6 =>
        if (!(r6.1.1 : Bool)) = true then
          some ((false, ()), ())
        else
          if (decide (i4 > (0 : Int))) = true then
            if 0 ≤ (IntKind.i64.wrap (i4 - (1 : Int))) ∧ (IntKind.i64.wrap (i4 - (1 : Int))) < (x5.length : Int) then
              (impl_compareSimplices.F (x5.getD (IntKind.i64.wrap (i4 - (1 : Int))).toNat ([] : List Int), x2.getD i4.toNat ([] : List Int), ())).bind fun r7 =>
                if (decide ((r7.1.1 : Int) ≥ (0 : Int))) = true then
                  some ((false, ()), ())
                else
                  (impl_facesOf.F (x2.getD i4.toNat ([] : List Int), ())).bind fun r8 =>
                    (slices_ContainsFunc_LLint64_Lint64.F (r8.1.1, impl_ValidComplex_1.cloG (x5, i4, ()), ())).bind fun r9 =>
                      if (r9.1.1 : Bool) = true then
                        some ((false, ()), ())
                      else
                        l2 k x2 i3 (IntKind.i64.wrap (i4 + (1 : Int))) x5
            else
              none
          else
            (impl_facesOf.F (x2.getD i4.toNat ([] : List Int), ())).bind fun r10 =>
              (slices_ContainsFunc_LLint64_Lint64.F (r10.1.1, impl_ValidComplex_1.cloG (x5, i4, ()), ())).bind fun r11 =>
                if (r11.1.1 : Bool) = true then
                  some ((false, ()), ())
                else
                  l2 k x2 i3 (IntKind.i64.wrap (i4 + (1 : Int))) x5
    else
      none
  else
    some ((decide ((x5.length : Int) ≤ (48 : Int)), ()), ()) := by kernel_rfl
noncomputable def T (k : Nat) (c_1 : List (List Int)) : Option ((Bool × Unit) × (Unit)) :=
  l2 k c_1 (c_1.length : Int) (0 : Int) c_1
theorem of (c_1 : List (List Int)) {r : (Bool × Unit) × (Unit)} (h : Ev (fun k => T k c_1) r) : F (c_1, ()) = some r := Ev.run (fun k => by kernel_rfl) h
theorem ok : CtxOK prog ctx := ⟨nilM, mixed_ok, tab_ok tab_good, consM ⟨impl_ValidSimplex.S, consM ⟨impl_compareSimplices.S, consM ⟨slices_ContainsFunc_LLint64_Lint64.S, consM ⟨impl_facesOf.S, nilM⟩⟩⟩⟩, consM ⟨impl_ValidComplex_1.cloS, nilM⟩, nilM⟩
theorem S : Sound prog ⟨26, sig, F⟩ := sound_k (res := [.tmp 2]) func26 ok
end impl_ValidComplex
namespace impl_verticesOf
noncomputable def sig : Sig := ⟨[.val true (.sl (.sl (.int .i64)))], [(.val false, (.sl (.int .i64)), .deep)]⟩
noncomputable def ctx : Ctx := ⟨tabOf tabl, [], [], [], [], []⟩
noncomputable def cfg : Cfg := ⟨ctx, [], [], fun id => match id with | 3 => ([3, 7, 8, 9], [12]) | _ => ([], []), fun _ => []⟩
noncomputable def code : Code := (f80).body.getD .skip
noncomputable def fin := finK ctx sig [.tmp 2]
noncomputable def F (d : List (List Int) × Unit) : Option ((List Int × Unit) × (Unit)) := anyK (runFn cfg fin code (initSt sig.ps d 24))
noncomputable def l3 (k : Nat) (x2 : List (List Int)) (i3 : Int) (i4 : Int) (x5 : List Int) : Option ((List Int × Unit) × (Unit)) :=
  Go.Vm.runT cfg fin k [.inLoop (sub [1, 1, 0, 1, 0, 0] code), .inBlock 0, .code (sub [1, 1, 1] code)]
    ⟨[.dead, .dead, .dead, .view 12 (.root 0) 1 false, .dead, .dead, .dead, .val false [⟨(.sl (.sl (.int .i64))), .sh, x2⟩], .val false [⟨(.int .i64), .sh, i3⟩], .val false [⟨(.int .i64), .sh, i4⟩]] ++ deads 14, [(12, ⟨false, [⟨(.sl (.int .i64)), .deep, x5⟩]⟩)]⟩
theorem l3_eq (k : Nat) (x2 : List (List Int)) (i3 : Int) (i4 : Int) (x5 : List Int) : l3 (k + 1) x2 i3 i4 x5 =
  if (decide (i4 < i3)) = true then
    if 0 ≤ i4 ∧ i4 < (x2.length : Int) then
      if (((x2.getD i4.toNat ([] : List Int)).length : Int) == (1 : Int)) = true then
        if 0 ≤ (0 : Int) ∧ (0 : Int) < ((x2.getD i4.toNat ([] : List Int)).length : Int) then
          if x5.length + ([(x2.getD i4.toNat ([] : List Int)).getD (0 : Int).toNat 0] : List Int).length ≤ bigA then
            l3 k x2 i3 (IntKind.i64.wrap (i4 + (1 : Int))) (x5 ++ ([(x2.getD i4.toNat ([] : List Int)).getD (0 : Int).toNat 0]))
          else
            none
        else
          none
      else
        l3 k x2 i3 (IntKind.i64.wrap (i4 + (1 : Int))) x5
    else
      none
  else
    some ((x5, ()), ()) := by kernel_rfl
noncomputable def T (k : Nat) (c_1 : List (List Int)) : Option ((List Int × Unit) × (Unit)) :=
  l3 k c_1 (c_1.length : Int) (0 : Int) ([])
theorem of (c_1 : List (List Int)) {r : (List Int × Unit) × (Unit)} (h : Ev (fun k => T k c_1) r) : F (c_1, ()) = some r := Ev.run (fun k => by kernel_rfl) h
theorem ok : CtxOK prog ctx := ⟨nilM, mixed_ok, tab_ok tab_good, nilM, nilM, nilM⟩
theorem S : Sound prog ⟨80, sig, F⟩ := sound_k (res := [.tmp 2]) func80 ok
end impl_verticesOf
namespace slices_Index_Lint64_int64
noncomputable def sig : Sig := ⟨[.val false (.sl (.int .i64)), .val false (.int .i64)], [(.val false, (.int .i64), .deep)]⟩
noncomputable def ctx : Ctx := ⟨tabOf tabl, [], [], [], [], []⟩
noncomputable def cfg : Cfg := ⟨ctx, [], [], fun id => match id with | 2 => ([0, 1, 7, 8], []) | _ => ([], []), fun _ => []⟩
noncomputable def code : Code := (f91).body.getD .skip
noncomputable def fin := finK ctx sig [.tmp 4]
noncomputable def F (d : List Int × Int × Unit) : Option ((Int × Unit) × (Unit)) := anyK (runFn cfg fin code (initSt sig.ps d 19))
noncomputable def l2 (k : Nat) (x3 : List Int) (i4 : Int) (i5 : Int) (i6 : Int) : Option ((Int × Unit) × (Unit)) :=
  Go.Vm.runT cfg fin k [.inLoop (sub [1, 0, 1, 0, 0] code), .inBlock 0, .code (sub [1, 1] code)]
    ⟨[.val false [⟨(.sl (.int .i64)), .sh, x3⟩], .val false [⟨(.int .i64), .sh, i4⟩], .dead, .dead, .dead, .dead, .dead, .val false [⟨(.int .i64), .sh, i5⟩], .val false [⟨(.int .i64), .sh, i6⟩]] ++ deads 10, []⟩
theorem l2_eq (k : Nat) (x3 : List Int) (i4 : Int) (i5 : Int) (i6 : Int) : l2 (k + 1) x3 i4 i5 i6 =
  if (decide (i6 < i5)) = true then
    if 0 ≤ i6 ∧ i6 < (x3.length : Int) then
      if (i4 == (x3.getD i6.toNat 0 : Int)) = true then
        some ((i6, ()), ())
      else
        l2 k x3 i4 i5 (IntKind.i64.wrap (i6 + (1 : Int)))
    else
      none
  else
    some (((-1 : Int), ()), ()) := by kernel_rfl
noncomputable def T (k : Nat) (s_1 : List Int) (v_2 : Int) : Option ((Int × Unit) × (Unit)) :=
  l2 k s_1 v_2 (s_1.length : Int) (0 : Int)
theorem of (s_1 : List Int) (v_2 : Int) {r : (Int × Unit) × (Unit)} (h : Ev (fun k => T k s_1 v_2) r) : F (s_1, v_2, ()) = some r := Ev.run (fun k => by kernel_rfl) h
theorem ok : CtxOK prog ctx := ⟨nilM, mixed_ok, tab_ok tab_good, nilM, nilM, nilM⟩
theorem S : Sound prog ⟨91, sig, F⟩ := sound_k (res := [.tmp 4]) func91 ok
end slices_Index_Lint64_int64
namespace slices_Sort_Lint64_int64
noncomputable def sig : Sig := sortIS
noncomputable def F (d : List Int × Unit) : Option ((Unit) × (List Int × Unit)) := sortIF d
def ren : Go.Shelf.Ren := ⟨fun | 53 => 92 | 59 => 117 | 63 => 105 | 64 => 90 | 68 => 94 | 70 => 111 | 71 => 112 | 72 => 113 | 73 => 114 | 74 => 115 | 75 => 116 | 76 => 118 | 77 => 119 | 78 => 103 | 79 => 104 | 88 => 121 | 89 => 107 | 90 => 108 | 91 => 122 | 92 => 123 | 96 => 124 | n => n, fun | 0 => 0 | 3 => 3 | 4 => 4 | 5 => 5 | 9 => 9 | 22 => 31 | 23 => 2 | 44 => 72 | 51 => 86 | 60 => 92 | 61 => 93 | 67 => 99 | 69 => 101 | 75 => 103 | 79 => 107 | 83 => 115 | 84 => 116 | n => n, fun n => n⟩
theorem lays : Go.Proofs.SlLaysN.n53 prog ren where
  mixed := by kernel_rfl
  f53 := ⟨"slices.Sort[[]int64,int64]", by decide, func92.trans (congrArg some (by kernel_rfl))⟩
  f59 := ⟨"cmp.Less[int64]", by decide, func117.trans (congrArg some (by kernel_rfl))⟩
  f63 := ⟨"slices.pdqsortOrdered[int64]", by decide, func105.trans (congrArg some (by kernel_rfl))⟩
  f64 := func90.trans (congrArg some (by kernel_rfl))
  f68 := ⟨"cmp.isNaN[int64]", by decide, func94.trans (congrArg some (by kernel_rfl))⟩
  f70 := ⟨"slices.insertionSortOrdered[int64]", by decide, func111.trans (congrArg some (by kernel_rfl))⟩
  f71 := ⟨"slices.heapSortOrdered[int64]", by decide, func112.trans (congrArg some (by kernel_rfl))⟩
  f72 := ⟨"slices.breakPatternsOrdered[int64]", by decide, func113.trans (congrArg some (by kernel_rfl))⟩
  f73 := ⟨"slices.choosePivotOrdered[int64]", by decide, func114.trans (congrArg some (by kernel_rfl))⟩
  f74 := ⟨"slices.reverseRangeOrdered[int64]", by decide, func115.trans (congrArg some (by kernel_rfl))⟩
  f75 := ⟨"slices.partialInsertionSortOrdered[int64]", by decide, func116.trans (congrArg some (by kernel_rfl))⟩
  f76 := ⟨"slices.partitionEqualOrdered[int64]", by decide, func118.trans (congrArg some (by kernel_rfl))⟩
  f77 := ⟨"slices.partitionOrdered[int64]", by decide, func119.trans (congrArg some (by kernel_rfl))⟩
  f78 := func103.trans (congrArg some (by kernel_rfl))
  f79 := func104.trans (congrArg some (by kernel_rfl))
  f88 := ⟨"slices.siftDownOrdered[int64]", by decide, func121.trans (congrArg some (by kernel_rfl))⟩
  f89 := func107.trans (congrArg some (by kernel_rfl))
  f90 := func108.trans (congrArg some (by kernel_rfl))
  f91 := ⟨"slices.medianAdjacentOrdered[int64]", by decide, func122.trans (congrArg some (by kernel_rfl))⟩
  f92 := ⟨"slices.medianOrdered[int64]", by decide, func123.trans (congrArg some (by kernel_rfl))⟩
  f96 := ⟨"slices.order2Ordered[int64]", by decide, func124.trans (congrArg some (by kernel_rfl))⟩
  t0 := underlying0
  a0 := isAgg0
  z0 := sizeOf0
  v0 := zeroValue0
  t3 := underlying3
  a3 := isAgg3
  z3 := sizeOf3
  v3 := zeroValue3
  t4 := underlying4
  a4 := isAgg4
  z4 := sizeOf4
  v4 := zeroValue4
  t5 := underlying5
  a5 := isAgg5
  z5 := sizeOf5
  v5 := zeroValue5
  t9 := underlying9
  a9 := isAgg9
  z9 := sizeOf9
  v9 := zeroValue9
  t22 := underlying31
  a22 := isAgg31
  z22 := sizeOf31
  v22 := zeroValue31
  t23 := underlying2
  a23 := isAgg2
  z23 := sizeOf2
  v23 := zeroValue2
  t44 := underlying72
  a44 := isAgg72
  z44 := sizeOf72
  v44 := zeroValue72
  t51 := underlying86
  a51 := isAgg86
  z51 := sizeOf86
  v51 := zeroValue86
  t60 := underlying92
  a60 := isAgg92
  z60 := sizeOf92
  v60 := zeroValue92
  t61 := underlying93
  a61 := isAgg93
  z61 := sizeOf93
  v61 := zeroValue93
  t67 := underlying99
  a67 := isAgg99
  z67 := sizeOf99
  v67 := zeroValue99
  t69 := underlying101
  a69 := isAgg101
  z69 := sizeOf101
  v69 := zeroValue101
  t75 := underlying103
  a75 := isAgg103
  z75 := sizeOf103
  v75 := zeroValue103
  t79 := underlying107
  a79 := isAgg107
  z79 := sizeOf107
  v79 := zeroValue107
  t83 := underlying115
  a83 := isAgg115
  z83 := sizeOf115
  v83 := zeroValue115
  t84 := underlying116
  a84 := isAgg116
  z84 := sizeOf116
  v84 := zeroValue116
set_option maxRecDepth 100000 in
theorem S : Sound prog ⟨92, sig, F⟩ := sortI_sound lays
end slices_Sort_Lint64_int64
namespace slices_Compact_Lint64_int64
noncomputable def sig : Sig := compIS
noncomputable def F (d : List Int × Unit) : Option ((List Int × Unit) × (Unit)) := compIF d
def ren : Go.Shelf.Ren := ⟨fun | 43 => 93 | n => n, fun | 0 => 0 | 3 => 3 | 4 => 4 | 22 => 31 | 23 => 2 | n => n, fun n => n⟩
theorem lays : Go.Proofs.SlLaysN.n43 prog ren where
  mixed := by kernel_rfl
  f43 := ⟨"slices.Compact[[]int64,int64]", by decide, func93.trans (congrArg some (by kernel_rfl))⟩
  t0 := underlying0
  a0 := isAgg0
  z0 := sizeOf0
  v0 := zeroValue0
  t3 := underlying3
  a3 := isAgg3
  z3 := sizeOf3
  v3 := zeroValue3
  t4 := underlying4
  a4 := isAgg4
  z4 := sizeOf4
  v4 := zeroValue4
  t22 := underlying31
  a22 := isAgg31
  z22 := sizeOf31
  v22 := zeroValue31
  t23 := underlying2
  a23 := isAgg2
  z23 := sizeOf2
  v23 := zeroValue2
  i23 := by kernel_rfl
set_option maxRecDepth 100000 in
theorem S : Sound prog ⟨93, sig, F⟩ := compI_sound lays
end slices_Compact_Lint64_int64
namespace impl_imageOf
noncomputable def sig : Sig := ⟨[.val true (.sl (.sl (.int .i64))), .val false (.sl (.int .i64)), .val false (.sl (.int .i64))], [(.val false, (.sl (.int .i64)), .deep)]⟩
noncomputable def ctx : Ctx := ⟨tabOf tabl, [⟨80, impl_verticesOf.sig, impl_verticesOf.F⟩, ⟨91, slices_Index_Lint64_int64.sig, slices_Index_Lint64_int64.F⟩, ⟨92, slices_Sort_Lint64_int64.sig, slices_Sort_Lint64_int64.F⟩, ⟨93, slices_Compact_Lint64_int64.sig, slices_Compact_Lint64_int64.F⟩], [], [], [], []⟩
noncomputable def cfg : Cfg := ⟨ctx, [], [], fun id => match id with | 4 => ([1, 7, 8, 13, 14, 15], [28, 32]) | _ => ([], []), fun _ => []⟩
noncomputable def code : Code := (f82).body.getD .skip
noncomputable def fin := finK ctx sig [.tmp 6]
noncomputable def F (d : List (List Int) × List Int × List Int × Unit) : Option ((List Int × Unit) × (Unit)) := anyK (runFn cfg fin code (initSt sig.ps d 33))
noncomputable def l4 (k : Nat) (x5 : List Int) (x6 : List Int) (i7 : Int) (i8 : Int) (x9 : List Int) (x10 : List Int) : Option ((List Int × Unit) × (Unit)) :=
  Go.Vm.runT cfg fin k [.inLoop (sub [1, 1, 1, 0, 1, 0, 0] code), .inBlock 0, .code (sub [1, 1, 1, 1] code)]
    ⟨[.dead, .val false [⟨(.sl (.int .i64)), .sh, x5⟩], .dead, .dead, .dead, .dead, .dead, .view 28 (.root 0) 1 false, .view 32 (.root 0) 1 false, .dead, .dead, .dead, .dead, .val false [⟨(.sl (.int .i64)), .sh, x6⟩], .val false [⟨(.int .i64), .sh, i7⟩], .val false [⟨(.int .i64), .sh, i8⟩]] ++ deads 17, [(28, ⟨false, [⟨(.sl (.int .i64)), .deep, x9⟩]⟩), (32, ⟨false, [⟨(.sl (.int .i64)), .deep, x10⟩]⟩)]⟩
theorem l4_eq (k : Nat) (x5 : List Int) (x6 : List Int) (i7 : Int) (i8 : Int) (x9 : List Int) (x10 : List Int) : l4 (k + 1) x5 x6 i7 i8 x9 x10 =
  if (decide (i8 < i7)) = true then
    if 0 ≤ i8 ∧ i8 < (x6.length : Int) then
      (slices_Index_Lint64_int64.F (x9, (x6.getD i8.toNat 0 : Int), ())).bind fun r11 =>
        if 0 ≤ (r11.1.1 : Int) ∧ (r11.1.1 : Int) < (x5.length : Int) then
          if x10.length + ([x5.getD (r11.1.1 : Int).toNat 0] : List Int).length ≤ bigA then
            l4 k x5 x6 i7 (IntKind.i64.wrap (i8 + (1 : Int))) x9 (x10 ++ ([x5.getD (r11.1.1 : Int).toNat 0]))
          else
            none
        else
          none
    else
      none
  else
    (slices_Sort_Lint64_int64.F (x10, ())).bind fun r12 =>
      (slices_Compact_Lint64_int64.F (r12.2.1, ())).bind fun r13 =>
        some ((r13.1.1, ()), ()) := by kernel_rfl
noncomputable def T (k : Nat) (a_1 : List (List Int)) (images_2 : List Int) (s_3 : List Int) : Option ((List Int × Unit) × (Unit)) :=
  (impl_verticesOf.F (a_1, ())).bind fun r4 =>
    l4 k images_2 s_3 (s_3.length : Int) (0 : Int) r4.1.1 ([])
theorem of (a_1 : List (List Int)) (images_2 : List Int) (s_3 : List Int) {r : (List Int × Unit) × (Unit)} (h : Ev (fun k => T k a_1 images_2 s_3) r) : F (a_1, images_2, s_3, ()) = some r := Ev.run (fun k => by kernel_rfl) h
theorem ok : CtxOK prog ctx := ⟨nilM, mixed_ok, tab_ok tab_good, consM ⟨impl_verticesOf.S, consM ⟨slices_Index_Lint64_int64.S, consM ⟨slices_Sort_Lint64_int64.S, consM ⟨slices_Compact_Lint64_int64.S, nilM⟩⟩⟩⟩, nilM, nilM⟩
theorem S : Sound prog ⟨82, sig, F⟩ := sound_k (res := [.tmp 6]) func82 ok
end impl_imageOf
namespace impl_isMap_1
noncomputable def sig : Sig := ⟨[.val false (.sl (.int .i64)), .rptr (.sl (.sl (.int .i64))), .rptr (.sl (.sl (.int .i64))), .rptr (.sl (.int .i64))], [(.val false, .bool, .deep)]⟩
noncomputable def ctx : Ctx := ⟨tabOf tabl, [⟨48, impl_indexOf.sig, impl_indexOf.F⟩, ⟨82, impl_imageOf.sig, impl_imageOf.F⟩], [], [], [], []⟩
noncomputable def cfg : Cfg := ⟨ctx, [], [], fun _ => ([], []), fun _ => []⟩
noncomputable def code : Code := (f81).body.getD .skip
noncomputable def fin := finK ctx sig [.tmp 5]
noncomputable def F (d : List Int × List (List Int) × List (List Int) × List Int × Unit) : Option ((Bool × Unit) × (Unit)) := anyK (runFn cfg fin code (initSt sig.ps d 13))
noncomputable def T (s_1 : List Int) (a_2 : List (List Int)) (a_3 : List (List Int)) (a_4 : List Int) : Option ((Bool × Unit) × (Unit)) :=
  (impl_imageOf.F (a_3, a_4, s_1, ())).bind fun r5 =>
    (impl_indexOf.F (a_2, r5.1.1, ())).bind fun r6 =>
      some ((decide ((r6.1.1 : Int) < (0 : Int)), ()), ())
theorem eq (s_1 : List Int) (a_2 : List (List Int)) (a_3 : List (List Int)) (a_4 : List Int) : F (s_1, a_2, a_3, a_4, ()) = T s_1 a_2 a_3 a_4 := eq_any fun k => by kernel_rfl
theorem ok : CtxOK prog ctx := ⟨nilM, mixed_ok, tab_ok tab_good, consM ⟨impl_indexOf.S, consM ⟨impl_imageOf.S, nilM⟩⟩, nilM, nilM⟩
theorem S : Sound prog ⟨81, sig, F⟩ := sound_k (res := [.tmp 5]) func81 ok
noncomputable def cloG (y : List (List Int) × List (List Int) × List Int × Unit) (d : List Int × Unit) : Option (Bool × Unit) := (F (joinIns [.rptr (.sl (.sl (.int .i64))), .rptr (.sl (.sl (.int .i64))), .rptr (.sl (.int .i64))] [(false, (.sl (.int .i64)))] d y)).map (·.1)
noncomputable def clo : Clo := ⟨81, ⟨[(false, (.sl (.int .i64)))], [(.val false, .bool, .deep)]⟩, [.rptr (.sl (.sl (.int .i64))), .rptr (.sl (.sl (.int .i64))), .rptr (.sl (.int .i64))], cloG⟩
theorem cloS : SoundClo prog clo := sound_clo (s := ⟨[(false, (.sl (.int .i64)))], [(.val false, .bool, .deep)]⟩) (caps := [.rptr (.sl (.sl (.int .i64))), .rptr (.sl (.sl (.int .i64))), .rptr (.sl (.int .i64))]) rfl S
end impl_isMap_1
namespace impl_isMap
noncomputable def sig : Sig := ⟨[.val true (.sl (.sl (.int .i64))), .val true (.sl (.sl (.int .i64))), .val false (.sl (.int .i64))], [(.val false, .bool, .deep)]⟩
noncomputable def ctx : Ctx := ⟨tabOf tabl, [⟨45, slices_ContainsFunc_LLint64_Lint64.sig, slices_ContainsFunc_LLint64_Lint64.F⟩, ⟨80, impl_verticesOf.sig, impl_verticesOf.F⟩], [impl_isMap_1.clo], [], [], []⟩
noncomputable def cfg : Cfg := ⟨ctx, [], [], fun _ => ([], []), fun _ => []⟩
noncomputable def code : Code := (f54).body.getD .skip
noncomputable def fin := finK ctx sig [.tmp 6]
noncomputable def F (d : List (List Int) × List (List Int) × List Int × Unit) : Option ((Bool × Unit) × (Unit)) := anyK (runFn cfg fin code (initSt sig.ps d 18))
noncomputable def T (a_1 : List (List Int)) (b_2 : List (List Int)) (images_3 : List Int) : Option ((Bool × Unit) × (Unit)) :=
  (impl_verticesOf.F (a_1, ())).bind fun r4 =>
    if ((images_3.length : Int) != (r4.1.1.length : Int)) = true then
      some ((false, ()), ())
    else
      (slices_ContainsFunc_LLint64_Lint64.F (a_1, impl_isMap_1.cloG (b_2, a_1, images_3, ()), ())).bind fun r5 =>
        some ((!(r5.1.1 : Bool), ()), ())
theorem eq (a_1 : List (List Int)) (b_2 : List (List Int)) (images_3 : List Int) : F (a_1, b_2, images_3, ()) = T a_1 b_2 images_3 := eq_any fun k => by kernel_rfl
theorem ok : CtxOK prog ctx := ⟨nilM, mixed_ok, tab_ok tab_good, consM ⟨slices_ContainsFunc_LLint64_Lint64.S, consM ⟨impl_verticesOf.S, nilM⟩⟩, consM ⟨impl_isMap_1.cloS, nilM⟩, nilM⟩
theorem S : Sound prog ⟨54, sig, F⟩ := sound_k (res := [.tmp 6]) func54 ok
end impl_isMap
namespace impl_IsMap
noncomputable def sig : Sig := ⟨[.val true (.sl (.sl (.int .i64))), .val true (.sl (.sl (.int .i64))), .val false (.sl (.int .i64))], [(.val false, .bool, .deep)]⟩
noncomputable def ctx : Ctx := ⟨tabOf tabl, [⟨26, impl_ValidComplex.sig, impl_ValidComplex.F⟩, ⟨54, impl_isMap.sig, impl_isMap.F⟩], [], [], [], []⟩
noncomputable def cfg : Cfg := ⟨ctx, [], [], fun _ => ([], []), fun _ => []⟩
noncomputable def code : Code := (f31).body.getD .skip
noncomputable def fin := finK ctx sig [.tmp 6]
noncomputable def F (d : List (List Int) × List (List Int) × List Int × Unit) : Option ((Bool × Unit) × (Unit)) := anyK (runFn cfg fin code (initSt sig.ps d 19))
noncomputable def T (a_1 : List (List Int)) (b_2 : List (List Int)) (images_3 : List Int) : Option ((Bool × Unit) × (Unit)) :=
  (impl_ValidComplex.F (a_1, ())).bind fun r4 =>
    if (r4.1.1 : Bool) = true then
      (impl_ValidComplex.F (b_2, ())).bind fun r5 =>
        if (r5.1.1 : Bool) = true then
          (impl_isMap.F (a_1, b_2, images_3, ())).bind fun r6 =>
            some (((r6.1.1 : Bool), ()), ())
        else
          some ((false, ()), ())
    else
      some ((false, ()), ())
theorem eq (a_1 : List (List Int)) (b_2 : List (List Int)) (images_3 : List Int) : F (a_1, b_2, images_3, ()) = T a_1 b_2 images_3 := eq_any fun k => by kernel_rfl
theorem ok : CtxOK prog ctx := ⟨nilM, mixed_ok, tab_ok tab_good, consM ⟨impl_ValidComplex.S, consM ⟨impl_isMap.S, nilM⟩⟩, nilM, nilM⟩
theorem S : Sound prog ⟨31, sig, F⟩ := sound_k (res := [.tmp 6]) func31 ok
end impl_IsMap
namespace impl_IsSimplicial
noncomputable def sig : Sig := ⟨[.val true (.sl (.sl (.int .i64))), .val true (.sl (.sl (.int .i64))), .val false (.sl (.int .i64))], [(.val false, .bool, .deep)]⟩
noncomputable def ctx : Ctx := ⟨tabOf tabl, [⟨31, impl_IsMap.sig, impl_IsMap.F⟩], [], [], [], []⟩
noncomputable def cfg : Cfg := ⟨ctx, [], [], fun _ => ([], []), fun _ => []⟩
noncomputable def code : Code := (f14).body.getD .skip
noncomputable def fin := finK ctx sig [.tmp 6]
noncomputable def F (d : List (List Int) × List (List Int) × List Int × Unit) : Option ((Bool × Unit) × (Unit)) := anyK (runFn cfg fin code (initSt sig.ps d 11))
noncomputable def T (c_1 : List (List Int)) (base_2 : List (List Int)) (images_3 : List Int) : Option ((Bool × Unit) × (Unit)) :=
  (impl_IsMap.F (c_1, base_2, images_3, ())).bind fun r4 =>
    some (((r4.1.1 : Bool), ()), ())
theorem eq (c_1 : List (List Int)) (base_2 : List (List Int)) (images_3 : List Int) : F (c_1, base_2, images_3, ()) = T c_1 base_2 images_3 := eq_any fun k => by kernel_rfl
theorem ok : CtxOK prog ctx := ⟨nilM, mixed_ok, tab_ok tab_good, consM ⟨impl_IsMap.S, nilM⟩, nilM, nilM⟩
theorem S : Sound prog ⟨14, sig, F⟩ := sound_k (res := [.tmp 6]) func14 ok
end impl_IsSimplicial
namespace laws_FnExactIsSimplicial
noncomputable def sig : Sig := ⟨[.val true (.sl (.sl (.int .i64))), .val true (.sl (.sl (.int .i64))), .val false (.sl (.int .i64))], [(.val false, .bool, .deep)]⟩
noncomputable def ctx : Ctx := ⟨tabOf tabl, [⟨7, laws_szComplex.sig, laws_szComplex.F⟩, ⟨9, laws_toComplex.sig, laws_toComplex.F⟩, ⟨11, laws_eqComplex.sig, laws_eqComplex.F⟩, ⟨12, spec_IsSimplicial.sig, spec_IsSimplicial.F⟩, ⟨13, laws_toInt64S.sig, laws_toInt64S.F⟩, ⟨14, impl_IsSimplicial.sig, impl_IsSimplicial.F⟩, ⟨15, laws_eqInt64S.sig, laws_eqInt64S.F⟩], [], [], [], []⟩
noncomputable def cfg : Cfg := ⟨ctx, [], [], fun _ => ([], []), fun _ => []⟩
noncomputable def code : Code := (f4).body.getD .skip
noncomputable def fin := finK ctx sig [.tmp 6]
noncomputable def F (d : List (List Int) × List (List Int) × List Int × Unit) : Option ((Bool × Unit) × (Unit)) := anyK (runFn cfg fin code (initSt sig.ps d 61))
noncomputable def T (aC_1 : List (List Int)) (aBase_2 : List (List Int)) (aImages_3 : List Int) : Option ((Bool × Unit) × (Unit)) :=
  if (decide ((aImages_3.length : Int) > (1048576 : Int))) = true then
    some ((true, ()), ())
  else
    (laws_szComplex.F (aC_1, (1048576 : Int), ())).bind fun r4 =>
      if (decide ((r4.1.1 : Int) < (0 : Int))) = true then
        some ((true, ()), ())
      else
        (laws_szComplex.F (aBase_2, (r4.1.1 : Int), ())).bind fun r5 =>
          if (decide ((r5.1.1 : Int) < (0 : Int))) = true then
            some ((true, ()), ())
          else
            (laws_toComplex.F (aC_1, ())).bind fun r6 =>
              (laws_toComplex.F (aBase_2, ())).bind fun r7 =>
                (laws_toInt64S.F (aImages_3, ())).bind fun r8 =>
                  (spec_IsSimplicial.F (r6.1.1, r7.1.1, r8.1.1, ())).bind fun r9 =>
                    (laws_toComplex.F (aC_1, ())).bind fun r10 =>
                      (laws_toComplex.F (aBase_2, ())).bind fun r11 =>
                        (laws_toInt64S.F (aImages_3, ())).bind fun r12 =>
                          (impl_IsSimplicial.F (r10.1.1, r11.1.1, r12.1.1, ())).bind fun r13 =>
                            if (!((r13.1.1 : Bool) == (r9.1.1 : Bool))) = true then
                              some ((false, ()), ())
                            else
                              (laws_toComplex.F (aC_1, ())).bind fun r14 =>
                                (laws_eqComplex.F (r10.1.1, r14.1.1, ())).bind fun r15 =>
                                  if (!(r15.1.1 : Bool)) = true then
                                    some ((false, ()), ())
                                  else
                                    (laws_toComplex.F (aBase_2, ())).bind fun r16 =>
                                      (laws_eqComplex.F (r11.1.1, r16.1.1, ())).bind fun r17 =>
                                        if (!(r17.1.1 : Bool)) = true then
                                          some ((false, ()), ())
                                        else
                                          (laws_toInt64S.F (aImages_3, ())).bind fun r18 =>
                                            (laws_eqInt64S.F (r12.1.1, r18.1.1, ())).bind fun r19 =>
                                              if (!(r19.1.1 : Bool)) = true then
                                                some ((false, ()), ())
                                              else
                                                some ((true, ()), ())
theorem eq (aC_1 : List (List Int)) (aBase_2 : List (List Int)) (aImages_3 : List Int) : F (aC_1, aBase_2, aImages_3, ()) = T aC_1 aBase_2 aImages_3 := eq_any fun k => by kernel_rfl
theorem ok : CtxOK prog ctx := ⟨nilM, mixed_ok, tab_ok tab_good, consM ⟨laws_szComplex.S, consM ⟨laws_toComplex.S, consM ⟨laws_eqComplex.S, consM ⟨spec_IsSimplicial.S, consM ⟨laws_toInt64S.S, consM ⟨impl_IsSimplicial.S, consM ⟨laws_eqInt64S.S, nilM⟩⟩⟩⟩⟩⟩⟩, nilM, nilM⟩
theorem S : Sound prog ⟨4, sig, F⟩ := sound_k (res := [.tmp 6]) func4 ok
end laws_FnExactIsSimplicial
end Go.Proofs.Ytahkpjebkelmfaa
