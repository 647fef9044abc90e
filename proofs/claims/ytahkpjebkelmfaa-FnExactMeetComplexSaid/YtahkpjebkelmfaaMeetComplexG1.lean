/- The functions, as the machine runs them. -/
import Derived.Test.YtahkpjebkelmfaaVm3
import Derived.Test.YtahkpjebkelmfaaProg
import Derived.KernelRfl
import Derived.WalkKit
import Derived.Lib.Walk
import Derived.Lib.AppendZeros
import Derived.Sort.WalkA
import Derived.Sort.WalkB2
import Derived.Sort.WalkB12
import Derived.Deep.LoopGhost
import Derived.Shelf.RegionOpenPlain
import Derived.Lib.SliceRun
namespace Go.Proofs.Ytahkpjebkelmfaa
open Go Go.Vm
set_option linter.unusedVariables false
set_option linter.unusedSimpArgs false
open Go.Proofs.Try
def tabl : List (Nat × TInfo) := [
  (2, ⟨false, (.int .i64), 0, []⟩),
  (3, ⟨false, (.int .i64), 0, []⟩),
  (4, ⟨false, .bool, 0, []⟩),
  (22, ⟨false, (.sl (.sl (.int .i64))), 31, []⟩),
  (24, ⟨true, (.sl (.sl (.int .i64))), 0, [(0, 1, false)]⟩),
  (27, ⟨true, (.sl (.sl (.int .i64))), 0, [(0, 1, false)]⟩),
  (31, ⟨false, (.sl (.int .i64)), 2, []⟩),
  (83, ⟨false, (.sl (.int .i64)), 3, []⟩),
  (86, ⟨false, (.int .u64), 0, []⟩)]
theorem tab_good : tabB Go.Proofs.Try.prog tabl = true := by kernel_rfl
theorem tab_open : openB Go.Proofs.Try.prog tabl = true := by kernel_rfl
theorem mixed_ok : Go.Proofs.Try.prog.follows .mixedOrders = true := by kernel_rfl
set_option maxHeartbeats 2000000 in
set_option maxRecDepth 100000 in
theorem slices_Grow_Lint64_int64.grow0 (w : World) : Calls Go.Proofs.Try.prog 87 #[.slice none 0 0, .int .i64 ((0 : Nat) : Int)] w fun e w' => e = .returned (.slice none 0 0) ∧ w' = w := by
  have h2 : Go.RowKit.wrap64 (((0 : Nat) : Int) - ((0 : Nat) : Int)) = 0 := by unfold Go.RowKit.wrap64; omega
  go_enter Go.Proofs.Try.func87, Go.Proofs.Try.ntmps87
  go_wp2
  go_ret
  exact ⟨rfl, rfl⟩
set_option maxHeartbeats 4000000 in
set_option maxRecDepth 100000 in
theorem slices_Grow_Lint64_int64.grow1 (w : World) (n : Nat) (h0 : 0 < n) (hn : n ≤ 1099511627776) (i : TypeInfo) (z : Value) (hi : Go.Proofs.Try.prog.info? 2 = some i) (hz : i.zero = some z) (hs : 0 < i.size) (hb : i.bytes ≤ 256) :
    Calls Go.Proofs.Try.prog 87 #[.slice none 0 0, .int .i64 (n : Int)] w fun e w' => ∃ G, n ≤ G ∧ G ≤ 9223372036854775807 ∧ e = .returned (.slice (some ⟨w.heap.size, 0, none⟩) 0 G) ∧ w' = w.drew.alloc (.cells (Builtin.zeroCells z.cells n ++ Builtin.zeroCells z.cells (G - n)) 2) := by
  have h1 : ¬ ((n : Int) < 0) := by omega
  have h2 : Go.RowKit.wrap64 (((0 : Nat) : Int) - ((0 : Nat) : Int)) = 0 := by unfold Go.RowKit.wrap64; omega
  have h3 : Go.RowKit.wrap64 ((n : Int) - 0) = (n : Int) := by unfold Go.RowKit.wrap64; omega
  have h4 : (n : Int) > 0 := by omega
  have hm : n * i.bytes ≤ 1099511627776 * 256 := Nat.mul_le_mul hn hb
  have hrz : ∀ ty, (Builtin.append_ #[31, 3] ty #[.slice none 0 0, .int .i64 (n : Int)]).run Go.Proofs.Try.prog w =
      .ok (.slice (some ⟨w.heap.size, 0, none⟩) n (grownCap w n 0 2)) (w.drew.alloc (.cells (Builtin.zeroCells z.cells n ++ Builtin.zeroCells z.cells (grownCap w n 0 2 - n)) 2)) := fun ty =>
    Lib.run_append_nil_zeros (P := Go.Proofs.Try.prog) w 31 3 ty 2 i z .i64 .i64 (by kernel_rfl) (by kernel_rfl) hi hz n h0 hs (by omega) (by omega)
  have hGn : n ≤ grownCap w n 0 2 := grownCap_ge w _ _ _
  obtain ⟨G, hG⟩ : ∃ G, G = grownCap w n 0 2 := ⟨_, rfl⟩
  have hG63 : G ≤ 9223372036854775807 := by
    have := grownCap_le_maxLen w n 0 2 (by unfold maxLen; omega)
    rw [← hG] at this
    unfold maxLen at this
    omega
  rw [← hG] at hrz hGn
  clear hG
  refine Calls.mono (R := fun e w' => e = .returned (.slice (some ⟨w.heap.size, 0, none⟩) 0 G) ∧ w' = w.drew.alloc (.cells (Builtin.zeroCells z.cells n ++ Builtin.zeroCells z.cells (G - n)) 2)) ?_ fun e w' h => ⟨G, hGn, hG63, h.1, h.2⟩
  clear hi hz hs hb hm
  go_enter Go.Proofs.Try.func87, Go.Proofs.Try.ntmps87
  go_wp2_with (at_builtin; refine Lib.wpList_append_run _ rfl _ _ _ _ rfl _ _ rfl rfl _ _ (hrz _) ?_)
  all_goals (go_ret; exact ⟨rfl, rfl⟩)
theorem slices_Grow_Lint64_int64.growOK : GrowOK Go.Proofs.Try.prog (87, (.int .i64)) := by
  have hT : tabOf tabl 2 = some ⟨false, (.int .i64), 0, []⟩ := by kernel_rfl
  obtain ⟨inf, h1, h2, h3, h4, h5⟩ := (tab_ok tab_good).info 2 _ hT
  exact growOK_of ⟨Go.Proofs.Try.f87, Go.Proofs.Try.func87, by kernel_rfl, by kernel_rfl⟩ (zero_size (tab_ok tab_good) hT) slices_Grow_Lint64_int64.grow0 fun w n a b => slices_Grow_Lint64_int64.grow1 w n a b inf _ h1 h5 (by rw [h2]; exact sz_pos _) h4
namespace laws_szInt64S
noncomputable def sig : Sig := ⟨[.val false (.sl (.int .i64)), .val false (.int .i64)], [(.val false, (.int .i64), .deep)]⟩
noncomputable def ctx : Ctx := ⟨tabOf tabl, [], [], [], [], []⟩
noncomputable def cfg : Cfg := ⟨ctx, [], [], fun _ => ([], []), fun _ => []⟩
noncomputable def code : Code := (f38).body.getD .skip
noncomputable def fin := finK ctx sig [.tmp 4]
noncomputable def F (d : List Int × Int × Unit) : Option ((Int × Unit) × (Unit)) := anyK (runFn cfg fin code (initSt sig.ps d 12))
noncomputable def T (a_1 : List Int) (left_2 : Int) : Option ((Int × Unit) × (Unit)) :=
  if (decide ((IntKind.i64.wrap (left_2 - (a_1.length : Int))) < (0 : Int))) = true then
    some (((-1 : Int), ()), ())
  else
    some ((IntKind.i64.wrap (left_2 - (a_1.length : Int)), ()), ())
theorem eq (a_1 : List Int) (left_2 : Int) : F (a_1, left_2, ()) = T a_1 left_2 := eq_any fun k => by kernel_rfl
theorem ok : CtxOK prog ctx := ⟨nilM, mixed_ok, tab_ok tab_good, nilM, nilM, nilM⟩
theorem S : Sound prog ⟨38, sig, F⟩ := sound_k (res := [.tmp 4]) func38 ok
end laws_szInt64S
namespace laws_szInt64SS
noncomputable def sig : Sig := ⟨[.val false (.sl (.sl (.int .i64))), .val false (.int .i64)], [(.val false, (.int .i64), .deep)]⟩
noncomputable def ctx : Ctx := ⟨tabOf tabl, [⟨38, laws_szInt64S.sig, laws_szInt64S.F⟩], [], [], [], []⟩
noncomputable def cfg : Cfg := ⟨ctx, [], [], fun id => match id with | 5 => ([0, 1, 5], []) | _ => ([], []), fun _ => []⟩
noncomputable def code : Code := (f22).body.getD .skip
noncomputable def fin := finK ctx sig [.tmp 4]
noncomputable def F (d : List (List Int) × Int × Unit) : Option ((Int × Unit) × (Unit)) := anyK (runFn cfg fin code (initSt sig.ps d 27))
noncomputable def l5 (k : Nat) (x3 : List (List Int)) (i4 : Int) (i5 : Int) : Option ((Int × Unit) × (Unit)) :=
  Go.Vm.runT cfg fin k [.inLoop (sub [1, 1, 1, 0, 1, 0, 0] code), .inBlock 0, .code (sub [1, 1, 1, 1] code)]
    ⟨[.val false [⟨(.sl (.sl (.int .i64))), .sh, x3⟩], .val false [⟨(.int .i64), .sh, i4⟩], .dead, .dead, .dead, .val false [⟨(.int .i64), .sh, i5⟩]] ++ deads 21, []⟩
theorem l5_eq (k : Nat) (x3 : List (List Int)) (i4 : Int) (i5 : Int) : l5 (k + 1) x3 i4 i5 =
  if (decide (i5 < (x3.length : Int))) = true then
    if 0 ≤ i5 ∧ i5 < (x3.length : Int) then
      (laws_szInt64S.F (x3.getD i5.toNat ([] : List Int), i4, ())).bind fun r6 =>
        if (decide ((r6.1.1 : Int) < (0 : Int))) = true then
          some (((-1 : Int), ()), ())
        else
          l5 k x3 (r6.1.1 : Int) (IntKind.i64.wrap (i5 + (1 : Int)))
    else
      none
  else
    some ((i4, ()), ()) := by kernel_rfl
noncomputable def T (k : Nat) (a_1 : List (List Int)) (left_2 : Int) : Option ((Int × Unit) × (Unit)) :=
  if (decide ((IntKind.i64.wrap (left_2 - (a_1.length : Int))) < (0 : Int))) = true then
    some (((-1 : Int), ()), ())
  else
    l5 k a_1 (IntKind.i64.wrap (left_2 - (a_1.length : Int))) (0 : Int)
theorem of (a_1 : List (List Int)) (left_2 : Int) {r : (Int × Unit) × (Unit)} (h : Ev (fun k => T k a_1 left_2) r) : F (a_1, left_2, ()) = some r := Ev.run (fun k => by kernel_rfl) h
theorem ok : CtxOK prog ctx := ⟨nilM, mixed_ok, tab_ok tab_good, consM ⟨laws_szInt64S.S, nilM⟩, nilM, nilM⟩
theorem S : Sound prog ⟨22, sig, F⟩ := sound_k (res := [.tmp 4]) func22 ok
end laws_szInt64SS
namespace laws_szComplex
noncomputable def sig : Sig := ⟨[.val true (.sl (.sl (.int .i64))), .val false (.int .i64)], [(.val false, (.int .i64), .deep)]⟩
noncomputable def ctx : Ctx := ⟨tabOf tabl, [⟨22, laws_szInt64SS.sig, laws_szInt64SS.F⟩], [], [], [], []⟩
noncomputable def cfg : Cfg := ⟨ctx, [], [], fun _ => ([], []), fun _ => []⟩
noncomputable def code : Code := (f7).body.getD .skip
noncomputable def fin := finK ctx sig [.tmp 4]
noncomputable def F (d : List (List Int) × Int × Unit) : Option ((Int × Unit) × (Unit)) := anyK (runFn cfg fin code (initSt sig.ps d 12))
noncomputable def T (a_1 : List (List Int)) (left_2 : Int) : Option ((Int × Unit) × (Unit)) :=
  (laws_szInt64SS.F (a_1, left_2, ())).bind fun r3 =>
    if (decide ((r3.1.1 : Int) < (0 : Int))) = true then
      some (((-1 : Int), ()), ())
    else
      some (((r3.1.1 : Int), ()), ())
theorem eq (a_1 : List (List Int)) (left_2 : Int) : F (a_1, left_2, ()) = T a_1 left_2 := eq_any fun k => by kernel_rfl
theorem ok : CtxOK prog ctx := ⟨nilM, mixed_ok, tab_ok tab_good, consM ⟨laws_szInt64SS.S, nilM⟩, nilM, nilM⟩
theorem S : Sound prog ⟨7, sig, F⟩ := sound_k (res := [.tmp 4]) func7 ok
end laws_szComplex
namespace laws_toInt64S
noncomputable def sig : Sig := ⟨[.val false (.sl (.int .i64))], [(.val false, (.sl (.int .i64)), .deep)]⟩
noncomputable def ctx : Ctx := ⟨tabOf tabl, [], [], [], [], []⟩
noncomputable def cfg : Cfg := ⟨ctx, [], [], fun id => match id with | 3 => ([0, 3, 4], [12]) | _ => ([], []), fun _ => []⟩
noncomputable def code : Code := (f13).body.getD .skip
noncomputable def fin := finK ctx sig [.tmp 2]
noncomputable def F (d : List Int × Unit) : Option ((List Int × Unit) × (Unit)) := anyK (runFn cfg fin code (initSt sig.ps d 22))
noncomputable def l3 (k : Nat) (x2 : List Int) (i3 : Int) (x4 : List Int) : Option ((List Int × Unit) × (Unit)) :=
  Go.Vm.runT cfg fin k [.inLoop (sub [1, 1, 0, 1, 0, 0] code), .inBlock 0, .code (sub [1, 1, 1] code)]
    ⟨[.val false [⟨(.sl (.int .i64)), .sh, x2⟩], .dead, .dead, .view 12 (.root 0) 1 false, .val false [⟨(.int .i64), .sh, i3⟩]] ++ deads 17, [(12, ⟨false, [⟨(.sl (.int .i64)), .deep, x4⟩]⟩)]⟩
theorem l3_eq (k : Nat) (x2 : List Int) (i3 : Int) (x4 : List Int) : l3 (k + 1) x2 i3 x4 =
  if (decide (i3 < (x2.length : Int))) = true then
    if 0 ≤ i3 ∧ i3 < (x2.length : Int) then
      if 0 ≤ i3 ∧ i3 < (x4.length : Int) then
        l3 k x2 (IntKind.i64.wrap (i3 + (1 : Int))) (x4.set i3.toNat (x2.getD i3.toNat 0 : Int))
      else
        none
    else
      none
  else
    some ((x4, ()), ()) := by kernel_rfl
noncomputable def T (k : Nat) (a_1 : List Int) : Option ((List Int × Unit) × (Unit)) :=
  if 0 ≤ (a_1.length : Int) ∧ (a_1.length : Int) ≤ (bigN : Int) then
    l3 k a_1 (0 : Int) (List.replicate (a_1.length : Int).toNat 0)
  else
    none
theorem of (a_1 : List Int) {r : (List Int × Unit) × (Unit)} (h : Ev (fun k => T k a_1) r) : F (a_1, ()) = some r := Ev.run (fun k => by kernel_rfl) h
theorem ok : CtxOK prog ctx := ⟨nilM, mixed_ok, tab_ok tab_good, nilM, nilM, nilM⟩
theorem S : Sound prog ⟨13, sig, F⟩ := sound_k (res := [.tmp 2]) func13 ok
end laws_toInt64S
namespace laws_toInt64SS
noncomputable def sig : Sig := ⟨[.val false (.sl (.sl (.int .i64)))], [(.val false, (.sl (.sl (.int .i64))), .deep)]⟩
noncomputable def ctx : Ctx := ⟨tabOf tabl, [⟨13, laws_toInt64S.sig, laws_toInt64S.F⟩], [], [], [], []⟩
noncomputable def cfg : Cfg := ⟨ctx, [], [], fun id => match id with | 3 => ([0, 3, 4], [12]) | _ => ([], []), fun _ => []⟩
noncomputable def code : Code := (f25).body.getD .skip
noncomputable def fin := finK ctx sig [.tmp 2]
noncomputable def F (d : List (List Int) × Unit) : Option ((List (List Int) × Unit) × (Unit)) := anyK (runFn cfg fin code (initSt sig.ps d 23))
noncomputable def l3 (k : Nat) (x2 : List (List Int)) (i3 : Int) (x4 : List (List Int)) : Option ((List (List Int) × Unit) × (Unit)) :=
  Go.Vm.runT cfg fin k [.inLoop (sub [1, 1, 0, 1, 0, 0] code), .inBlock 0, .code (sub [1, 1, 1] code)]
    ⟨[.val false [⟨(.sl (.sl (.int .i64))), .sh, x2⟩], .dead, .dead, .view 12 (.root 0) 1 false, .val false [⟨(.int .i64), .sh, i3⟩]] ++ deads 18, [(12, ⟨false, [⟨(.sl (.sl (.int .i64))), .deep, x4⟩]⟩)]⟩
theorem l3_eq (k : Nat) (x2 : List (List Int)) (i3 : Int) (x4 : List (List Int)) : l3 (k + 1) x2 i3 x4 =
  if (decide (i3 < (x2.length : Int))) = true then
    if 0 ≤ i3 ∧ i3 < (x2.length : Int) then
      (laws_toInt64S.F (x2.getD i3.toNat ([] : List Int), ())).bind fun r5 =>
        if 0 ≤ i3 ∧ i3 < (x4.length : Int) then
          l3 k x2 (IntKind.i64.wrap (i3 + (1 : Int))) (x4.set i3.toNat r5.1.1)
        else
          none
    else
      none
  else
    some ((x4, ()), ()) := by kernel_rfl
noncomputable def T (k : Nat) (a_1 : List (List Int)) : Option ((List (List Int) × Unit) × (Unit)) :=
  if 0 ≤ (a_1.length : Int) ∧ (a_1.length : Int) ≤ (bigN : Int) then
    l3 k a_1 (0 : Int) (List.replicate (a_1.length : Int).toNat ([] : List Int))
  else
    none
theorem of (a_1 : List (List Int)) {r : (List (List Int) × Unit) × (Unit)} (h : Ev (fun k => T k a_1) r) : F (a_1, ()) = some r := Ev.run (fun k => by kernel_rfl) h
theorem ok : CtxOK prog ctx := ⟨nilM, mixed_ok, tab_ok tab_good, consM ⟨laws_toInt64S.S, nilM⟩, nilM, nilM⟩
theorem S : Sound prog ⟨25, sig, F⟩ := sound_k (res := [.tmp 2]) func25 ok
end laws_toInt64SS
namespace laws_toComplex
noncomputable def sig : Sig := ⟨[.val true (.sl (.sl (.int .i64)))], [(.val true, (.sl (.sl (.int .i64))), .deep)]⟩
noncomputable def ctx : Ctx := ⟨tabOf tabl, [⟨25, laws_toInt64SS.sig, laws_toInt64SS.F⟩], [], [], [], []⟩
noncomputable def cfg : Cfg := ⟨ctx, [], [], fun _ => ([], []), fun _ => []⟩
noncomputable def code : Code := (f9).body.getD .skip
noncomputable def fin := finK ctx sig [.cell 2 27]
noncomputable def F (d : List (List Int) × Unit) : Option ((List (List Int) × Unit) × (Unit)) := anyK (runFn cfg fin code (initSt sig.ps d 9))
noncomputable def T (a_1 : List (List Int)) : Option ((List (List Int) × Unit) × (Unit)) :=
  (laws_toInt64SS.F (a_1, ())).bind fun r2 =>
    some ((r2.1.1, ()), ())
theorem eq (a_1 : List (List Int)) : F (a_1, ()) = T a_1 := eq_any fun k => by kernel_rfl
theorem ok : CtxOK prog ctx := ⟨nilM, mixed_ok, tab_ok tab_good, consM ⟨laws_toInt64SS.S, nilM⟩, nilM, nilM⟩
theorem S : Sound prog ⟨9, sig, F⟩ := sound_k (res := [.cell 2 27]) func9 ok
end laws_toComplex
namespace laws_eqInt64S
noncomputable def sig : Sig := ⟨[.val false (.sl (.int .i64)), .val false (.sl (.int .i64))], [(.val false, .bool, .deep)]⟩
noncomputable def ctx : Ctx := ⟨tabOf tabl, [], [], [], [], []⟩
noncomputable def cfg : Cfg := ⟨ctx, [], [], fun id => match id with | 4 => ([0, 1, 5], []) | _ => ([], []), fun _ => []⟩
noncomputable def code : Code := (f15).body.getD .skip
noncomputable def fin := finK ctx sig [.tmp 4]
noncomputable def F (d : List Int × List Int × Unit) : Option ((Bool × Unit) × (Unit)) := anyK (runFn cfg fin code (initSt sig.ps d 26))
noncomputable def l4 (k : Nat) (x3 : List Int) (x4 : List Int) (i5 : Int) : Option ((Bool × Unit) × (Unit)) :=
  Go.Vm.runT cfg fin k [.inLoop (sub [1, 1, 0, 1, 0, 0] code), .inBlock 0, .code (sub [1, 1, 1] code)]
    ⟨[.val false [⟨(.sl (.int .i64)), .sh, x3⟩], .val false [⟨(.sl (.int .i64)), .sh, x4⟩], .dead, .dead, .dead, .val false [⟨(.int .i64), .sh, i5⟩]] ++ deads 20, []⟩
theorem l4_eq (k : Nat) (x3 : List Int) (x4 : List Int) (i5 : Int) : l4 (k + 1) x3 x4 i5 =
  if (decide (i5 < (x3.length : Int))) = true then
    if 0 ≤ i5 ∧ i5 < (x3.length : Int) then
      if 0 ≤ i5 ∧ i5 < (x4.length : Int) then
        if ((x3.getD i5.toNat 0 : Int) != (x4.getD i5.toNat 0 : Int)) = true then
          some ((false, ()), ())
        else
          l4 k x3 x4 (IntKind.i64.wrap (i5 + (1 : Int)))
      else
        none
    else
      none
  else
    some ((true, ()), ()) := by kernel_rfl
noncomputable def T (k : Nat) (a_1 : List Int) (b_2 : List Int) : Option ((Bool × Unit) × (Unit)) :=
  if ((a_1.length : Int) != (b_2.length : Int)) = true then
    some ((false, ()), ())
  else
    l4 k a_1 b_2 (0 : Int)
theorem of (a_1 : List Int) (b_2 : List Int) {r : (Bool × Unit) × (Unit)} (h : Ev (fun k => T k a_1 b_2) r) : F (a_1, b_2, ()) = some r := Ev.run (fun k => by kernel_rfl) h
theorem ok : CtxOK prog ctx := ⟨nilM, mixed_ok, tab_ok tab_good, nilM, nilM, nilM⟩
theorem S : Sound prog ⟨15, sig, F⟩ := sound_k (res := [.tmp 4]) func15 ok
end laws_eqInt64S
namespace laws_eqInt64SS
noncomputable def sig : Sig := ⟨[.val false (.sl (.sl (.int .i64))), .val false (.sl (.sl (.int .i64)))], [(.val false, .bool, .deep)]⟩
noncomputable def ctx : Ctx := ⟨tabOf tabl, [⟨15, laws_eqInt64S.sig, laws_eqInt64S.F⟩], [], [], [], []⟩
noncomputable def cfg : Cfg := ⟨ctx, [], [], fun id => match id with | 4 => ([0, 1, 5], []) | _ => ([], []), fun _ => []⟩
noncomputable def code : Code := (f29).body.getD .skip
noncomputable def fin := finK ctx sig [.tmp 4]
noncomputable def F (d : List (List Int) × List (List Int) × Unit) : Option ((Bool × Unit) × (Unit)) := anyK (runFn cfg fin code (initSt sig.ps d 27))
noncomputable def l4 (k : Nat) (x3 : List (List Int)) (x4 : List (List Int)) (i5 : Int) : Option ((Bool × Unit) × (Unit)) :=
  Go.Vm.runT cfg fin k [.inLoop (sub [1, 1, 0, 1, 0, 0] code), .inBlock 0, .code (sub [1, 1, 1] code)]
    ⟨[.val false [⟨(.sl (.sl (.int .i64))), .sh, x3⟩], .val false [⟨(.sl (.sl (.int .i64))), .sh, x4⟩], .dead, .dead, .dead, .val false [⟨(.int .i64), .sh, i5⟩]] ++ deads 21, []⟩
theorem l4_eq (k : Nat) (x3 : List (List Int)) (x4 : List (List Int)) (i5 : Int) : l4 (k + 1) x3 x4 i5 =
  if (decide (i5 < (x3.length : Int))) = true then
    if 0 ≤ i5 ∧ i5 < (x3.length : Int) then
      if 0 ≤ i5 ∧ i5 < (x4.length : Int) then
        (laws_eqInt64S.F (x3.getD i5.toNat ([] : List Int), x4.getD i5.toNat ([] : List Int), ())).bind fun r6 =>
          if (!(r6.1.1 : Bool)) = true then
            some ((false, ()), ())
          else
            l4 k x3 x4 (IntKind.i64.wrap (i5 + (1 : Int)))
      else
        none
    else
      none
  else
    some ((true, ()), ()) := by kernel_rfl
noncomputable def T (k : Nat) (a_1 : List (List Int)) (b_2 : List (List Int)) : Option ((Bool × Unit) × (Unit)) :=
  if ((a_1.length : Int) != (b_2.length : Int)) = true then
    some ((false, ()), ())
  else
    l4 k a_1 b_2 (0 : Int)
theorem of (a_1 : List (List Int)) (b_2 : List (List Int)) {r : (Bool × Unit) × (Unit)} (h : Ev (fun k => T k a_1 b_2) r) : F (a_1, b_2, ()) = some r := Ev.run (fun k => by kernel_rfl) h
theorem ok : CtxOK prog ctx := ⟨nilM, mixed_ok, tab_ok tab_good, consM ⟨laws_eqInt64S.S, nilM⟩, nilM, nilM⟩
theorem S : Sound prog ⟨29, sig, F⟩ := sound_k (res := [.tmp 4]) func29 ok
end laws_eqInt64SS
namespace laws_eqComplex
noncomputable def sig : Sig := ⟨[.val true (.sl (.sl (.int .i64))), .val true (.sl (.sl (.int .i64)))], [(.val false, .bool, .deep)]⟩
noncomputable def ctx : Ctx := ⟨tabOf tabl, [⟨29, laws_eqInt64SS.sig, laws_eqInt64SS.F⟩], [], [], [], []⟩
noncomputable def cfg : Cfg := ⟨ctx, [], [], fun _ => ([], []), fun _ => []⟩
noncomputable def code : Code := (f11).body.getD .skip
noncomputable def fin := finK ctx sig [.tmp 4]
noncomputable def F (d : List (List Int) × List (List Int) × Unit) : Option ((Bool × Unit) × (Unit)) := anyK (runFn cfg fin code (initSt sig.ps d 11))
noncomputable def T (a_1 : List (List Int)) (b_2 : List (List Int)) : Option ((Bool × Unit) × (Unit)) :=
  (laws_eqInt64SS.F (a_1, b_2, ())).bind fun r3 =>
    if (!(r3.1.1 : Bool)) = true then
      some ((false, ()), ())
    else
      some ((true, ()), ())
theorem eq (a_1 : List (List Int)) (b_2 : List (List Int)) : F (a_1, b_2, ()) = T a_1 b_2 := eq_any fun k => by kernel_rfl
theorem ok : CtxOK prog ctx := ⟨nilM, mixed_ok, tab_ok tab_good, consM ⟨laws_eqInt64SS.S, nilM⟩, nilM, nilM⟩
theorem S : Sound prog ⟨11, sig, F⟩ := sound_k (res := [.tmp 4]) func11 ok
end laws_eqComplex
namespace spec_l00In
noncomputable def sig : Sig := ⟨[.val false (.int .i64), .val false (.int .i64), .val false (.int .i64)], [(.val false, .bool, .deep)]⟩
noncomputable def ctx : Ctx := ⟨tabOf tabl, [], [], [], [], []⟩
noncomputable def cfg : Cfg := ⟨ctx, [], [], fun _ => ([], []), fun _ => []⟩
noncomputable def code : Code := (f60).body.getD .skip
noncomputable def fin := finK ctx sig [.tmp 6]
noncomputable def F (d : Int × Int × Int × Unit) : Option ((Bool × Unit) × (Unit)) := anyK (runFn cfg fin code (initSt sig.ps d 15))
noncomputable def T (n_1 : Int) (low_2 : Int) (high_3 : Int) : Option ((Bool × Unit) × (Unit)) :=
  if (decide (n_1 ≥ low_2)) = true then
    some ((decide (n_1 ≤ high_3), ()), ())
  else
    some ((false, ()), ())
theorem eq (n_1 : Int) (low_2 : Int) (high_3 : Int) : F (n_1, low_2, high_3, ()) = T n_1 low_2 high_3 := eq_any fun k => by kernel_rfl
theorem ok : CtxOK prog ctx := ⟨nilM, mixed_ok, tab_ok tab_good, nilM, nilM, nilM⟩
theorem S : Sound prog ⟨60, sig, F⟩ := sound_k (res := [.tmp 6]) func60 ok
end spec_l00In
namespace spec_l00Rises
noncomputable def sig : Sig := ⟨[.val false (.sl (.int .i64)), .val false (.int .i64), .val false (.int .i64)], [(.val false, .bool, .deep)]⟩
noncomputable def ctx : Ctx := ⟨tabOf tabl, [⟨60, spec_l00In.sig, spec_l00In.F⟩], [], [], [], []⟩
noncomputable def cfg : Cfg := ⟨ctx, [], [], fun id => match id with | 2 => ([0, 1, 2, 7], []) | _ => ([], []), fun _ => []⟩
noncomputable def code : Code := (f61).body.getD .skip
noncomputable def fin := finK ctx sig [.tmp 6]
noncomputable def F (d : List Int × Int × Int × Unit) : Option ((Bool × Unit) × (Unit)) := anyK (runFn cfg fin code (initSt sig.ps d 38))
noncomputable def l2 (k : Nat) (x4 : List Int) (i5 : Int) (i6 : Int) (i7 : Int) : Option ((Bool × Unit) × (Unit)) :=
  Go.Vm.runT cfg fin k [.inLoop (sub [1, 0, 1, 0, 0] code), .inBlock 0, .code (sub [1, 1] code)]
    ⟨[.val false [⟨(.sl (.int .i64)), .sh, x4⟩], .val false [⟨(.int .i64), .sh, i5⟩], .val false [⟨(.int .i64), .sh, i6⟩], .dead, .dead, .dead, .dead, .val false [⟨(.int .i64), .sh, i7⟩]] ++ deads 30, []⟩
theorem l2_eq (k : Nat) (x4 : List Int) (i5 : Int) (i6 : Int) (i7 : Int) : l2 (k + 1) x4 i5 i6 i7 =
  if (decide (i7 < (x4.length : Int))) = true then
    if 0 ≤ i7 ∧ i7 < (x4.length : Int) then
      (spec_l00In.F ((x4.getD i7.toNat 0 : Int), i5, i6, ())).bind fun r8 =>
        if (!(r8.1.1 : Bool)) = true then
          some ((false, ()), ())
        else
          if (decide (i7 > (0 : Int))) = true then
            if 0 ≤ (IntKind.i64.wrap (i7 - (1 : Int))) ∧ (IntKind.i64.wrap (i7 - (1 : Int))) < (x4.length : Int) then
              if 0 ≤ i7 ∧ i7 < (x4.length : Int) then
                if (decide ((x4.getD (IntKind.i64.wrap (i7 - (1 : Int))).toNat 0) ≥ (x4.getD i7.toNat 0 : Int))) = true then
                  some ((false, ()), ())
                else
                  l2 k x4 i5 i6 (IntKind.i64.wrap (i7 + (1 : Int)))
              else
                none
            else
              none
          else
            l2 k x4 i5 i6 (IntKind.i64.wrap (i7 + (1 : Int)))
    else
      none
  else
    some ((true, ()), ()) := by kernel_rfl
noncomputable def T (k : Nat) (list_1 : List Int) (low_2 : Int) (high_3 : Int) : Option ((Bool × Unit) × (Unit)) :=
  l2 k list_1 low_2 high_3 (0 : Int)
theorem of (list_1 : List Int) (low_2 : Int) (high_3 : Int) {r : (Bool × Unit) × (Unit)} (h : Ev (fun k => T k list_1 low_2 high_3) r) : F (list_1, low_2, high_3, ()) = some r := Ev.run (fun k => by kernel_rfl) h
theorem ok : CtxOK prog ctx := ⟨nilM, mixed_ok, tab_ok tab_good, consM ⟨spec_l00In.S, nilM⟩, nilM, nilM⟩
theorem S : Sound prog ⟨61, sig, F⟩ := sound_k (res := [.tmp 6]) func61 ok
end spec_l00Rises
namespace spec_l05Simplex
noncomputable def sig : Sig := ⟨[.val false (.sl (.int .i64))], [(.val false, .bool, .deep)]⟩
noncomputable def ctx : Ctx := ⟨tabOf tabl, [⟨60, spec_l00In.sig, spec_l00In.F⟩, ⟨61, spec_l00Rises.sig, spec_l00Rises.F⟩], [], [], [], []⟩
noncomputable def cfg : Cfg := ⟨ctx, [], [], fun _ => ([], []), fun _ => []⟩
noncomputable def code : Code := (f39).body.getD .skip
noncomputable def fin := finK ctx sig [.tmp 2]
noncomputable def F (d : List Int × Unit) : Option ((Bool × Unit) × (Unit)) := anyK (runFn cfg fin code (initSt sig.ps d 10))
noncomputable def T (s_1 : List Int) : Option ((Bool × Unit) × (Unit)) :=
  (spec_l00In.F ((s_1.length : Int), (1 : Int), (4 : Int), ())).bind fun r2 =>
    if (r2.1.1 : Bool) = true then
      (spec_l00Rises.F (s_1, (0 : Int), (9 : Int), ())).bind fun r3 =>
        some (((r3.1.1 : Bool), ()), ())
    else
      some ((false, ()), ())
theorem eq (s_1 : List Int) : F (s_1, ()) = T s_1 := eq_any fun k => by kernel_rfl
theorem ok : CtxOK prog ctx := ⟨nilM, mixed_ok, tab_ok tab_good, consM ⟨spec_l00In.S, consM ⟨spec_l00Rises.S, nilM⟩⟩, nilM, nilM⟩
theorem S : Sound prog ⟨39, sig, F⟩ := sound_k (res := [.tmp 2]) func39 ok
end spec_l05Simplex
namespace spec_l05Before
noncomputable def sig : Sig := ⟨[.val false (.sl (.int .i64)), .val false (.sl (.int .i64))], [(.val false, .bool, .deep)]⟩
noncomputable def ctx : Ctx := ⟨tabOf tabl, [], [], [], [], []⟩
noncomputable def cfg : Cfg := ⟨ctx, [], [], fun id => match id with | 4 => ([0, 1, 5], []) | _ => ([], []), fun _ => []⟩
noncomputable def code : Code := (f40).body.getD .skip
noncomputable def fin := finK ctx sig [.tmp 4]
noncomputable def F (d : List Int × List Int × Unit) : Option ((Bool × Unit) × (Unit)) := anyK (runFn cfg fin code (initSt sig.ps d 40))
noncomputable def l4 (k : Nat) (x3 : List Int) (x4 : List Int) (i5 : Int) : Option ((Bool × Unit) × (Unit)) :=
  Go.Vm.runT cfg fin k [.inLoop (sub [1, 1, 0, 1, 0, 0] code), .inBlock 0, .code (sub [1, 1, 1] code)]
    ⟨[.val false [⟨(.sl (.int .i64)), .sh, x3⟩], .val false [⟨(.sl (.int .i64)), .sh, x4⟩], .dead, .dead, .dead, .val false [⟨(.int .i64), .sh, i5⟩]] ++ deads 34, []⟩
theorem l4_eq (k : Nat) (x3 : List Int) (x4 : List Int) (i5 : Int) : l4 (k + 1) x3 x4 i5 =
  if (decide (i5 < (x3.length : Int))) = true then
    if 0 ≤ i5 ∧ i5 < (x3.length : Int) then
      if 0 ≤ i5 ∧ i5 < (x4.length : Int) then
        if ((x3.getD i5.toNat 0 : Int) != (x4.getD i5.toNat 0 : Int)) = true then
          if 0 ≤ i5 ∧ i5 < (x3.length : Int) then
            if 0 ≤ i5 ∧ i5 < (x4.length : Int) then
              some ((decide ((x3.getD i5.toNat 0 : Int) < (x4.getD i5.toNat 0 : Int)), ()), ())
            else
              none
          else
            none
        else
          l4 k x3 x4 (IntKind.i64.wrap (i5 + (1 : Int)))
      else
        none
    else
      none
  else
    some ((false, ()), ()) := by kernel_rfl
noncomputable def T (k : Nat) (a_1 : List Int) (b_2 : List Int) : Option ((Bool × Unit) × (Unit)) :=
  if ((a_1.length : Int) != (b_2.length : Int)) = true then
    some ((decide ((a_1.length : Int) < (b_2.length : Int)), ()), ())
  else
    l4 k a_1 b_2 (0 : Int)
theorem of (a_1 : List Int) (b_2 : List Int) {r : (Bool × Unit) × (Unit)} (h : Ev (fun k => T k a_1 b_2) r) : F (a_1, b_2, ()) = some r := Ev.run (fun k => by kernel_rfl) h
theorem ok : CtxOK prog ctx := ⟨nilM, mixed_ok, tab_ok tab_good, nilM, nilM, nilM⟩
theorem S : Sound prog ⟨40, sig, F⟩ := sound_k (res := [.tmp 4]) func40 ok
end spec_l05Before
namespace spec_l00Same
noncomputable def sig : Sig := ⟨[.val false (.sl (.int .i64)), .val false (.sl (.int .i64))], [(.val false, .bool, .deep)]⟩
noncomputable def ctx : Ctx := ⟨tabOf tabl, [], [], [], [], []⟩
noncomputable def cfg : Cfg := ⟨ctx, [], [], fun id => match id with | 4 => ([0, 1, 5], []) | _ => ([], []), fun _ => []⟩
noncomputable def code : Code := (f62).body.getD .skip
noncomputable def fin := finK ctx sig [.tmp 4]
noncomputable def F (d : List Int × List Int × Unit) : Option ((Bool × Unit) × (Unit)) := anyK (runFn cfg fin code (initSt sig.ps d 26))
noncomputable def l4 (k : Nat) (x3 : List Int) (x4 : List Int) (i5 : Int) : Option ((Bool × Unit) × (Unit)) :=
  Go.Vm.runT cfg fin k [.inLoop (sub [1, 1, 0, 1, 0, 0] code), .inBlock 0, .code (sub [1, 1, 1] code)]
    ⟨[.val false [⟨(.sl (.int .i64)), .sh, x3⟩], .val false [⟨(.sl (.int .i64)), .sh, x4⟩], .dead, .dead, .dead, .val false [⟨(.int .i64), .sh, i5⟩]] ++ deads 20, []⟩
theorem l4_eq (k : Nat) (x3 : List Int) (x4 : List Int) (i5 : Int) : l4 (k + 1) x3 x4 i5 =
  if (decide (i5 < (x3.length : Int))) = true then
    if 0 ≤ i5 ∧ i5 < (x3.length : Int) then
      if 0 ≤ i5 ∧ i5 < (x4.length : Int) then
        if ((x3.getD i5.toNat 0 : Int) != (x4.getD i5.toNat 0 : Int)) = true then
          some ((false, ()), ())
        else
          l4 k x3 x4 (IntKind.i64.wrap (i5 + (1 : Int)))
      else
        none
    else
      none
  else
    some ((true, ()), ()) := by kernel_rfl
noncomputable def T (k : Nat) (a_1 : List Int) (b_2 : List Int) : Option ((Bool × Unit) × (Unit)) :=
  if ((a_1.length : Int) != (b_2.length : Int)) = true then
    some ((false, ()), ())
  else
    l4 k a_1 b_2 (0 : Int)
theorem of (a_1 : List Int) (b_2 : List Int) {r : (Bool × Unit) × (Unit)} (h : Ev (fun k => T k a_1 b_2) r) : F (a_1, b_2, ()) = some r := Ev.run (fun k => by kernel_rfl) h
theorem ok : CtxOK prog ctx := ⟨nilM, mixed_ok, tab_ok tab_good, nilM, nilM, nilM⟩
theorem S : Sound prog ⟨62, sig, F⟩ := sound_k (res := [.tmp 4]) func62 ok
end spec_l00Same
namespace spec_l05Find
noncomputable def sig : Sig := ⟨[.rptr (.sl (.sl (.int .i64))), .val false (.sl (.int .i64))], [(.val false, (.int .i64), .deep)]⟩
noncomputable def ctx : Ctx := ⟨tabOf tabl, [⟨62, spec_l00Same.sig, spec_l00Same.F⟩], [], [], [], []⟩
noncomputable def cfg : Cfg := ⟨ctx, [], [], fun id => match id with | 2 => ([0, 1, 5], []) | _ => ([], []), fun _ => []⟩
noncomputable def code : Code := (f41).body.getD .skip
noncomputable def fin := finK ctx sig [.tmp 4]
noncomputable def F (d : List (List Int) × List Int × Unit) : Option ((Int × Unit) × (Unit)) := anyK (runFn cfg fin code (initSt sig.ps d 25))
noncomputable def l2 (k : Nat) (x3 : List (List Int)) (x4 : List Int) (i5 : Int) : Option ((Int × Unit) × (Unit)) :=
  Go.Vm.runT cfg fin k [.inLoop (sub [1, 0, 1, 0, 0] code), .inBlock 0, .code (sub [1, 1] code)]
    ⟨[.rptr false [⟨(.sl (.sl (.int .i64))), .sh, x3⟩], .val false [⟨(.sl (.int .i64)), .sh, x4⟩], .dead, .dead, .dead, .val false [⟨(.int .i64), .sh, i5⟩]] ++ deads 19, []⟩
theorem l2_eq (k : Nat) (x3 : List (List Int)) (x4 : List Int) (i5 : Int) : l2 (k + 1) x3 x4 i5 =
  if (decide (i5 < (x3.length : Int))) = true then
    if 0 ≤ i5 ∧ i5 < (x3.length : Int) then
      (spec_l00Same.F (x3.getD i5.toNat ([] : List Int), x4, ())).bind fun r6 =>
        if (r6.1.1 : Bool) = true then
          some ((i5, ()), ())
        else
          l2 k x3 x4 (IntKind.i64.wrap (i5 + (1 : Int)))
    else
      none
  else
    some (((-1 : Int), ()), ()) := by kernel_rfl
noncomputable def T (k : Nat) (c_1 : List (List Int)) (s_2 : List Int) : Option ((Int × Unit) × (Unit)) :=
  l2 k c_1 s_2 (0 : Int)
theorem of (c_1 : List (List Int)) (s_2 : List Int) {r : (Int × Unit) × (Unit)} (h : Ev (fun k => T k c_1 s_2) r) : F (c_1, s_2, ()) = some r := Ev.run (fun k => by kernel_rfl) h
theorem ok : CtxOK prog ctx := ⟨nilM, mixed_ok, tab_ok tab_good, consM ⟨spec_l00Same.S, nilM⟩, nilM, nilM⟩
theorem S : Sound prog ⟨41, sig, F⟩ := sound_k (res := [.tmp 4]) func41 ok
end spec_l05Find
namespace spec_l00Own
noncomputable def sig : Sig := ⟨[.val false (.sl (.int .i64))], [(.val false, (.sl (.int .i64)), .deep)]⟩
noncomputable def ctx : Ctx := ⟨tabOf tabl, [], [], [], [], []⟩
noncomputable def cfg : Cfg := ⟨ctx, [], [], fun _ => ([], []), fun _ => []⟩
noncomputable def code : Code := (f36).body.getD .skip
noncomputable def fin := finK ctx sig [.tmp 2]
noncomputable def F (d : List Int × Unit) : Option ((List Int × Unit) × (Unit)) := anyK (runFn cfg fin code (initSt sig.ps d 6))
noncomputable def T (list_1 : List Int) : Option ((List Int × Unit) × (Unit)) :=
  if ([] : List Int).length + list_1.length ≤ bigA then
    some ((([] : List Int) ++ list_1, ()), ())
  else
    none
theorem eq (list_1 : List Int) : F (list_1, ()) = T list_1 := eq_any fun k => by kernel_rfl
theorem ok : CtxOK prog ctx := ⟨nilM, mixed_ok, tab_ok tab_good, nilM, nilM, nilM⟩
theorem S : Sound prog ⟨36, sig, F⟩ := sound_k (res := [.tmp 2]) func36 ok
end spec_l00Own
namespace spec_l05Drop
noncomputable def sig : Sig := ⟨[.val false (.sl (.int .i64)), .val false (.int .i64)], [(.val false, (.sl (.int .i64)), .deep)]⟩
noncomputable def ctx : Ctx := ⟨tabOf tabl, [⟨36, spec_l00Own.sig, spec_l00Own.F⟩], [], [], [], []⟩
noncomputable def cfg : Cfg := ⟨ctx, [], [], fun _ => ([], []), fun _ => []⟩
noncomputable def code : Code := (f42).body.getD .skip
noncomputable def fin := finK ctx sig [.tmp 4]
noncomputable def F (d : List Int × Int × Unit) : Option ((List Int × Unit) × (Unit)) := anyK (runFn cfg fin code (initSt sig.ps d 16))
noncomputable def T (s_1 : List Int) (k_2 : Int) : Option ((List Int × Unit) × (Unit)) :=
  if 0 ≤ (0 : Int) ∧ (0 : Int) ≤ k_2 ∧ k_2 ≤ (s_1.length : Int) then
    (spec_l00Own.F (cutL s_1 (0 : Int) k_2, ())).bind fun r3 =>
      if 0 ≤ (IntKind.i64.wrap (k_2 + (1 : Int))) ∧ (IntKind.i64.wrap (k_2 + (1 : Int))) ≤ (s_1.length : Int) ∧ (s_1.length : Int) ≤ (s_1.length : Int) then
        if r3.1.1.length + (cutL s_1 (IntKind.i64.wrap (k_2 + (1 : Int))) (s_1.length : Int)).length ≤ bigA then
          some ((r3.1.1 ++ (cutL s_1 (IntKind.i64.wrap (k_2 + (1 : Int))) (s_1.length : Int)), ()), ())
        else
          none
      else
        none
  else
    none
theorem eq (s_1 : List Int) (k_2 : Int) : F (s_1, k_2, ()) = T s_1 k_2 := eq_any fun k => by kernel_rfl
theorem ok : CtxOK prog ctx := ⟨nilM, mixed_ok, tab_ok tab_good, consM ⟨spec_l00Own.S, nilM⟩, nilM, nilM⟩
theorem S : Sound prog ⟨42, sig, F⟩ := sound_k (res := [.tmp 4]) func42 ok
end spec_l05Drop
namespace spec_l05Ok
noncomputable def sig : Sig := ⟨[.rptr (.sl (.sl (.int .i64)))], [(.val false, .bool, .deep)]⟩
noncomputable def ctx : Ctx := ⟨tabOf tabl, [⟨39, spec_l05Simplex.sig, spec_l05Simplex.F⟩, ⟨40, spec_l05Before.sig, spec_l05Before.F⟩, ⟨41, spec_l05Find.sig, spec_l05Find.F⟩, ⟨42, spec_l05Drop.sig, spec_l05Drop.F⟩], [], [], [], []⟩
noncomputable def cfg : Cfg := ⟨ctx, [], [], fun id => match id with | 4 => ([0, 3], []) | 10 => ([0, 3, 4, 5], []) | _ => ([], []), fun _ => []⟩
noncomputable def code : Code := (f23).body.getD .skip
noncomputable def fin := finK ctx sig [.tmp 2]
noncomputable def F (d : List (List Int) × Unit) : Option ((Bool × Unit) × (Unit)) := anyK (runFn cfg fin code (initSt sig.ps d 65))
noncomputable def l4 (k : Nat) (x2 : List (List Int)) (i3 : Int) : Option ((Bool × Unit) × (Unit)) :=
  Go.Vm.runT cfg fin k [.inLoop (sub [1, 1, 0, 1, 0, 0] code), .inBlock 0, .code (sub [1, 1, 1] code)]
    ⟨[.rptr false [⟨(.sl (.sl (.int .i64))), .sh, x2⟩], .dead, .dead, .val false [⟨(.int .i64), .sh, i3⟩]] ++ deads 61, []⟩
noncomputable def l10 (k : Nat) (x6 : List (List Int)) (i7 : Int) (x8 : List Int) (i9 : Int) : Option ((Bool × Unit) × (Unit)) :=
  Go.Vm.runT cfg fin k [.inLoop (sub [1, 1, 0, 1, 0, 0, 1, 0, 0, 1, 1, 1, 0, 0] code), .inBlock 2, .inBlock 1, .code (sub [1, 1, 0, 1, 0, 0, 1, 1] code), .inLoop (sub [1, 1, 0, 1, 0, 0] code), .inBlock 0, .code (sub [1, 1, 1] code)]
    ⟨[.rptr false [⟨(.sl (.sl (.int .i64))), .sh, x6⟩], .dead, .dead, .val false [⟨(.int .i64), .sh, i7⟩], .val false [⟨(.sl (.int .i64)), .sh, x8⟩], .val false [⟨(.int .i64), .sh, i9⟩]] ++ deads 59, []⟩
theorem l4_eq (k : Nat) (x2 : List (List Int)) (i3 : Int) : l4 (k + 1) x2 i3 =
  if (decide (i3 < (x2.length : Int))) = true then
    if 0 ≤ i3 ∧ i3 < (x2.length : Int) then
      (spec_l05Simplex.F (x2.getD i3.toNat ([] : List Int), ())).bind fun r4 =>
        if (!(r4.1.1 : Bool)) = true then
          some ((false, ()), ())
        else
          if (decide (i3 > (0 : Int))) = true then
            if 0 ≤ (IntKind.i64.wrap (i3 - (1 : Int))) ∧ (IntKind.i64.wrap (i3 - (1 : Int))) < (x2.length : Int) then
              (spec_l05Before.F (x2.getD (IntKind.i64.wrap (i3 - (1 : Int))).toNat ([] : List Int), x2.getD i3.toNat ([] : List Int), ())).bind fun r5 =>
                if (!(r5.1.1 : Bool)) = true then
                  some ((false, ()), ())
                else
                  l10 k x2 i3 (x2.getD i3.toNat ([] : List Int)) (0 : Int)
            else
              none
          else
            l10 k x2 i3 (x2.getD i3.toNat ([] : List Int)) (0 : Int)
    else
      none
  else
    some ((true, ()), ()) := by kernel_rfl
theorem l10_eq (k : Nat) (x6 : List (List Int)) (i7 : Int) (x8 : List Int) (i9 : Int) : l10 (k + 1) x6 i7 x8 i9 =
  if (decide (i9 < (x8.length : Int))) = true then
    if (decide ((x8.length : Int) > (1 : Int))) = true then
      (spec_l05Drop.F (x8, i9, ())).bind fun r10 =>
        (spec_l05Find.F (x6, r10.1.1, ())).bind fun r11 =>
          if (decide ((r11.1.1 : Int) < (0 : Int))) = true then
            some ((false, ()), ())
          else
            l10 k x6 i7 x8 (IntKind.i64.wrap (i9 + (1 : Int)))
    else
      l4 k x6 (IntKind.i64.wrap (i7 + (1 : Int)))
  else
    l4 k x6 (IntKind.i64.wrap (i7 + (1 : Int))) := by kernel_rfl
noncomputable def T (k : Nat) (toArray_1 : List (List Int)) : Option ((Bool × Unit) × (Unit)) :=
  if (decide ((toArray_1.length : Int) > (48 : Int))) = true then
    some ((false, ()), ())
  else
    l4 k toArray_1 (0 : Int)
theorem of (toArray_1 : List (List Int)) {r : (Bool × Unit) × (Unit)} (h : Ev (fun k => T k toArray_1) r) : F (toArray_1, ()) = some r := Ev.run (fun k => by kernel_rfl) h
theorem ok : CtxOK prog ctx := ⟨nilM, mixed_ok, tab_ok tab_good, consM ⟨spec_l05Simplex.S, consM ⟨spec_l05Before.S, consM ⟨spec_l05Find.S, consM ⟨spec_l05Drop.S, nilM⟩⟩⟩⟩, nilM, nilM⟩
theorem S : Sound prog ⟨23, sig, F⟩ := sound_k (res := [.tmp 2]) func23 ok
end spec_l05Ok
namespace spec_l14Meet
noncomputable def sig : Sig := ⟨[.rptr (.sl (.sl (.int .i64))), .rptr (.sl (.sl (.int .i64)))], [(.val true, (.sl (.sl (.int .i64))), .deep)]⟩
noncomputable def ctx : Ctx := ⟨tabOf tabl, [⟨36, spec_l00Own.sig, spec_l00Own.F⟩, ⟨41, spec_l05Find.sig, spec_l05Find.F⟩], [], [], [], []⟩
noncomputable def cfg : Cfg := ⟨ctx, [], [], fun id => match id with | 3 => ([0, 1, 4, 5, 6], [16, 20]) | _ => ([], []), fun _ => []⟩
noncomputable def code : Code := (f32).body.getD .skip
noncomputable def fin := finK ctx sig [.cell 4 27]
noncomputable def F (d : List (List Int) × List (List Int) × Unit) : Option ((List (List Int) × Unit) × (Unit)) := anyK (runFn cfg fin code (initSt sig.ps d 40))
noncomputable def l3 (k : Nat) (x3 : List (List Int)) (x4 : List (List Int)) (i5 : Int) (x6 : List (List Int)) (x7 : List (List Int)) : Option ((List (List Int) × Unit) × (Unit)) :=
  Go.Vm.runT cfg fin k [.inLoop (sub [1, 1, 0, 1, 0, 0] code), .inBlock 0, .code (sub [1, 1, 1] code)]
    ⟨[.rptr false [⟨(.sl (.sl (.int .i64))), .sh, x3⟩], .rptr false [⟨(.sl (.sl (.int .i64))), .sh, x4⟩], .dead, .dead, .ref 16 (.root 0), .view 20 (.root 0) 1 false, .val false [⟨(.int .i64), .sh, i5⟩]] ++ deads 33, [(16, ⟨true, [⟨(.sl (.sl (.int .i64))), .deep, x6⟩]⟩), (20, ⟨false, [⟨(.sl (.sl (.int .i64))), .deep, x7⟩]⟩)]⟩
theorem l3_eq (k : Nat) (x3 : List (List Int)) (x4 : List (List Int)) (i5 : Int) (x6 : List (List Int)) (x7 : List (List Int)) : l3 (k + 1) x3 x4 i5 x6 x7 =
  if (decide (i5 < (x3.length : Int))) = true then
    if 0 ≤ i5 ∧ i5 < (x3.length : Int) then
      (spec_l05Find.F (x4, x3.getD i5.toNat ([] : List Int), ())).bind fun r8 =>
        if (decide ((r8.1.1 : Int) ≥ (0 : Int))) = true then
          if 0 ≤ i5 ∧ i5 < (x3.length : Int) then
            (spec_l00Own.F (x3.getD i5.toNat ([] : List Int), ())).bind fun r9 =>
              if x7.length + ([r9.1.1] : List (List Int)).length ≤ bigA then
                l3 k x3 x4 (IntKind.i64.wrap (i5 + (1 : Int))) x6 (x7 ++ ([r9.1.1]))
              else
                none
          else
            none
        else
          l3 k x3 x4 (IntKind.i64.wrap (i5 + (1 : Int))) x6 x7
    else
      none
  else
    some ((x7, ()), ()) := by kernel_rfl
noncomputable def T (k : Nat) (a_1 : List (List Int)) (b_2 : List (List Int)) : Option ((List (List Int) × Unit) × (Unit)) :=
  l3 k a_1 b_2 (0 : Int) ([] : List (List Int)) ([] : List (List Int))
theorem of (a_1 : List (List Int)) (b_2 : List (List Int)) {r : (List (List Int) × Unit) × (Unit)} (h : Ev (fun k => T k a_1 b_2) r) : F (a_1, b_2, ()) = some r := Ev.run (fun k => by kernel_rfl) h
theorem ok : CtxOK prog ctx := ⟨nilM, mixed_ok, tab_ok tab_good, consM ⟨spec_l00Own.S, consM ⟨spec_l05Find.S, nilM⟩⟩, nilM, nilM⟩
theorem S : Sound prog ⟨32, sig, F⟩ := sound_k (res := [.cell 4 27]) func32 ok
end spec_l14Meet
namespace spec_MeetComplex
noncomputable def sig : Sig := ⟨[.val true (.sl (.sl (.int .i64))), .val true (.sl (.sl (.int .i64)))], [(.val true, (.sl (.sl (.int .i64))), .deep), (.val false, (.int .i64), .deep)]⟩
noncomputable def ctx : Ctx := ⟨tabOf tabl, [⟨23, spec_l05Ok.sig, spec_l05Ok.F⟩, ⟨32, spec_l14Meet.sig, spec_l14Meet.F⟩], [], [], [], []⟩
noncomputable def cfg : Cfg := ⟨ctx, [], [], fun _ => ([], []), fun _ => []⟩
noncomputable def code : Code := (f16).body.getD .skip
noncomputable def fin := finK ctx sig [.cell 4 27, .tmp 5]
noncomputable def F (d : List (List Int) × List (List Int) × Unit) : Option ((List (List Int) × Int × Unit) × (Unit)) := anyK (runFn cfg fin code (initSt sig.ps d 14))
noncomputable def T (a_1 : List (List Int)) (b_2 : List (List Int)) : Option ((List (List Int) × Int × Unit) × (Unit)) :=
  (spec_l05Ok.F (a_1, ())).bind fun r3 =>
    if (!(r3.1.1 : Bool)) = true then
      some (([], ((1 : Int), ())), ())
    else
      (spec_l05Ok.F (b_2, ())).bind fun r4 =>
        if (!(r4.1.1 : Bool)) = true then
          some (([], ((1 : Int), ())), ())
        else
          (spec_l14Meet.F (a_1, b_2, ())).bind fun r5 =>
            some ((r5.1.1, ((0 : Int), ())), ())
theorem eq (a_1 : List (List Int)) (b_2 : List (List Int)) : F (a_1, b_2, ()) = T a_1 b_2 := eq_any fun k => by kernel_rfl
theorem ok : CtxOK prog ctx := ⟨nilM, mixed_ok, tab_ok tab_good, consM ⟨spec_l05Ok.S, consM ⟨spec_l14Meet.S, nilM⟩⟩, nilM, nilM⟩
theorem S : Sound prog ⟨16, sig, F⟩ := sound_k (res := [.cell 4 27, .tmp 5]) func16 ok
end spec_MeetComplex
namespace impl_isRising
noncomputable def sig : Sig := ⟨[.val false (.sl (.int .i64))], [(.val false, .bool, .deep)]⟩
noncomputable def ctx : Ctx := ⟨tabOf tabl, [], [], [], [], []⟩
noncomputable def cfg : Cfg := ⟨ctx, [], [], fun id => match id with | 2 => ([0, 3], []) | _ => ([], []), fun _ => []⟩
noncomputable def code : Code := (f63).body.getD .skip
noncomputable def fin := finK ctx sig [.tmp 2]
noncomputable def F (d : List Int × Unit) : Option ((Bool × Unit) × (Unit)) := anyK (runFn cfg fin code (initSt sig.ps d 20))
noncomputable def l2 (k : Nat) (x2 : List Int) (i3 : Int) : Option ((Bool × Unit) × (Unit)) :=
  Go.Vm.runT cfg fin k [.inLoop (sub [1, 0, 1, 0, 0] code), .inBlock 0, .code (sub [1, 1] code)]
    ⟨[.val false [⟨(.sl (.int .i64)), .sh, x2⟩], .dead, .dead, .val false [⟨(.int .i64), .sh, i3⟩]] ++ deads 16, []⟩
theorem l2_eq (k : Nat) (x2 : List Int) (i3 : Int) : l2 (k + 1) x2 i3 =
  if (decide (i3 < (x2.length : Int))) = true then
    if 0 ≤ (IntKind.i64.wrap (i3 - (1 : Int))) ∧ (IntKind.i64.wrap (i3 - (1 : Int))) < (x2.length : Int) then
      if 0 ≤ i3 ∧ i3 < (x2.length : Int) then
        if (decide ((x2.getD (IntKind.i64.wrap (i3 - (1 : Int))).toNat 0) ≥ (x2.getD i3.toNat 0 : Int))) = true then
          some ((false, ()), ())
        else
          l2 k x2 (IntKind.i64.wrap (i3 + (1 : Int)))
      else
        none
    else
      none
  else
    some ((true, ()), ()) := by kernel_rfl
noncomputable def T (k : Nat) (list_1 : List Int) : Option ((Bool × Unit) × (Unit)) :=
  l2 k list_1 (1 : Int)
theorem of (list_1 : List Int) {r : (Bool × Unit) × (Unit)} (h : Ev (fun k => T k list_1) r) : F (list_1, ()) = some r := Ev.run (fun k => by kernel_rfl) h
theorem ok : CtxOK prog ctx := ⟨nilM, mixed_ok, tab_ok tab_good, nilM, nilM, nilM⟩
theorem S : Sound prog ⟨63, sig, F⟩ := sound_k (res := [.tmp 2]) func63 ok
end impl_isRising
namespace slices_IndexFunc_Lint64_int64
noncomputable def sig : Sig := ⟨[.val false (.sl (.int .i64)), .fnx ⟨[(false, (.int .i64))], [(.val false, .bool, .deep)]⟩], [(.val false, (.int .i64), .deep)]⟩
noncomputable def ctx : Ctx := ⟨tabOf tabl, [], [], [], [], []⟩
noncomputable def cfg : Cfg := ⟨ctx, [], [], fun id => match id with | 2 => ([0, 1, 7, 8], []) | _ => ([], []), fun _ => []⟩
noncomputable def code : Code := (f83).body.getD .skip
noncomputable def fin := finK ctx sig [.tmp 4]
noncomputable def F (d : List Int × ((Int × Unit) → Option (Bool × Unit)) × Unit) : Option ((Int × Unit) × (Unit)) := anyK (runFn cfg fin code (initSt sig.ps d 19))
noncomputable def l2 (k : Nat) (x3 : List Int) (f4 : (Int × Unit) → Option (Bool × Unit)) (i5 : Int) (i6 : Int) : Option ((Int × Unit) × (Unit)) :=
  Go.Vm.runT cfg fin k [.inLoop (sub [1, 0, 1, 0, 0] code), .inBlock 0, .code (sub [1, 1] code)]
    ⟨[.val false [⟨(.sl (.int .i64)), .sh, x3⟩], .fnx ⟨[(false, (.int .i64))], [(.val false, .bool, .deep)]⟩ f4, .dead, .dead, .dead, .dead, .dead, .val false [⟨(.int .i64), .sh, i5⟩], .val false [⟨(.int .i64), .sh, i6⟩]] ++ deads 10, []⟩
theorem l2_eq (k : Nat) (x3 : List Int) (f4 : (Int × Unit) → Option (Bool × Unit)) (i5 : Int) (i6 : Int) : l2 (k + 1) x3 f4 i5 i6 =
  if (decide (i6 < i5)) = true then
    if 0 ≤ i6 ∧ i6 < (x3.length : Int) then
      (f4 ((x3.getD i6.toNat 0 : Int), ())).bind fun r7 =>
        if (r7.1 : Bool) = true then
          some ((i6, ()), ())
        else
          l2 k x3 f4 i5 (IntKind.i64.wrap (i6 + (1 : Int)))
    else
      none
  else
    some (((-1 : Int), ()), ()) := by kernel_rfl
noncomputable def T (k : Nat) (s_1 : List Int) (f_2 : (Int × Unit) → Option (Bool × Unit)) : Option ((Int × Unit) × (Unit)) :=
  l2 k s_1 f_2 (s_1.length : Int) (0 : Int)
theorem of (s_1 : List Int) (f_2 : (Int × Unit) → Option (Bool × Unit)) {r : (Int × Unit) × (Unit)} (h : Ev (fun k => T k s_1 f_2) r) : F (s_1, f_2, ()) = some r := Ev.run (fun k => by kernel_rfl) h
theorem ok : CtxOK prog ctx := ⟨nilM, mixed_ok, tab_ok tab_good, nilM, nilM, nilM⟩
theorem S : Sound prog ⟨83, sig, F⟩ := sound_k (res := [.tmp 4]) func83 ok
end slices_IndexFunc_Lint64_int64
namespace slices_ContainsFunc_Lint64_int64
noncomputable def sig : Sig := ⟨[.val false (.sl (.int .i64)), .fnx ⟨[(false, (.int .i64))], [(.val false, .bool, .deep)]⟩], [(.val false, .bool, .deep)]⟩
noncomputable def ctx : Ctx := ⟨tabOf tabl, [⟨83, slices_IndexFunc_Lint64_int64.sig, slices_IndexFunc_Lint64_int64.F⟩], [], [], [], []⟩
noncomputable def cfg : Cfg := ⟨ctx, [], [], fun _ => ([], []), fun _ => []⟩
noncomputable def code : Code := (f64).body.getD .skip
noncomputable def fin := finK ctx sig [.tmp 4]
noncomputable def F (d : List Int × ((Int × Unit) → Option (Bool × Unit)) × Unit) : Option ((Bool × Unit) × (Unit)) := anyK (runFn cfg fin code (initSt sig.ps d 9))
noncomputable def T (s_1 : List Int) (f_2 : (Int × Unit) → Option (Bool × Unit)) : Option ((Bool × Unit) × (Unit)) :=
  (slices_IndexFunc_Lint64_int64.F (s_1, f_2, ())).bind fun r3 =>
    some ((decide ((r3.1.1 : Int) ≥ (0 : Int)), ()), ())
theorem eq (s_1 : List Int) (f_2 : (Int × Unit) → Option (Bool × Unit)) : F (s_1, f_2, ()) = T s_1 f_2 := eq_any fun k => by kernel_rfl
theorem ok : CtxOK prog ctx := ⟨nilM, mixed_ok, tab_ok tab_good, consM ⟨slices_IndexFunc_Lint64_int64.S, nilM⟩, nilM, nilM⟩
theorem S : Sound prog ⟨64, sig, F⟩ := sound_k (res := [.tmp 4]) func64 ok
end slices_ContainsFunc_Lint64_int64
namespace impl_within
noncomputable def sig : Sig := ⟨[.val false (.int .i64), .val false (.int .i64), .val false (.int .i64)], [(.val false, .bool, .deep)]⟩
noncomputable def ctx : Ctx := ⟨tabOf tabl, [], [], [], [], []⟩
noncomputable def cfg : Cfg := ⟨ctx, [], [], fun _ => ([], []), fun _ => []⟩
noncomputable def code : Code := (f84).body.getD .skip
noncomputable def fin := finK ctx sig [.tmp 6]
noncomputable def F (d : Int × Int × Int × Unit) : Option ((Bool × Unit) × (Unit)) := anyK (runFn cfg fin code (initSt sig.ps d 15))
noncomputable def T (n_1 : Int) (low_2 : Int) (high_3 : Int) : Option ((Bool × Unit) × (Unit)) :=
  if (decide (n_1 ≥ low_2)) = true then
    some ((decide (n_1 ≤ high_3), ()), ())
  else
    some ((false, ()), ())
theorem eq (n_1 : Int) (low_2 : Int) (high_3 : Int) : F (n_1, low_2, high_3, ()) = T n_1 low_2 high_3 := eq_any fun k => by kernel_rfl
theorem ok : CtxOK prog ctx := ⟨nilM, mixed_ok, tab_ok tab_good, nilM, nilM, nilM⟩
theorem S : Sound prog ⟨84, sig, F⟩ := sound_k (res := [.tmp 6]) func84 ok
end impl_within
namespace impl_isVertex
noncomputable def sig : Sig := ⟨[.val false (.int .i64)], [(.val false, .bool, .deep)]⟩
noncomputable def ctx : Ctx := ⟨tabOf tabl, [⟨84, impl_within.sig, impl_within.F⟩], [], [], [], []⟩
noncomputable def cfg : Cfg := ⟨ctx, [], [], fun _ => ([], []), fun _ => []⟩
noncomputable def code : Code := (f66).body.getD .skip
noncomputable def fin := finK ctx sig [.tmp 2]
noncomputable def F (d : Int × Unit) : Option ((Bool × Unit) × (Unit)) := anyK (runFn cfg fin code (initSt sig.ps d 5))
noncomputable def T (v_1 : Int) : Option ((Bool × Unit) × (Unit)) :=
  (impl_within.F (v_1, (0 : Int), (9 : Int), ())).bind fun r2 =>
    some (((r2.1.1 : Bool), ()), ())
theorem eq (v_1 : Int) : F (v_1, ()) = T v_1 := eq_any fun k => by kernel_rfl
theorem ok : CtxOK prog ctx := ⟨nilM, mixed_ok, tab_ok tab_good, consM ⟨impl_within.S, nilM⟩, nilM, nilM⟩
theorem S : Sound prog ⟨66, sig, F⟩ := sound_k (res := [.tmp 2]) func66 ok
end impl_isVertex
namespace impl_ValidSimplex_1
noncomputable def sig : Sig := ⟨[.val false (.int .i64)], [(.val false, .bool, .deep)]⟩
noncomputable def ctx : Ctx := ⟨tabOf tabl, [⟨66, impl_isVertex.sig, impl_isVertex.F⟩], [], [], [], []⟩
noncomputable def cfg : Cfg := ⟨ctx, [], [], fun _ => ([], []), fun _ => []⟩
noncomputable def code : Code := (f65).body.getD .skip
noncomputable def fin := finK ctx sig [.tmp 2]
noncomputable def F (d : Int × Unit) : Option ((Bool × Unit) × (Unit)) := anyK (runFn cfg fin code (initSt sig.ps d 6))
noncomputable def T (v_1 : Int) : Option ((Bool × Unit) × (Unit)) :=
  (impl_isVertex.F (v_1, ())).bind fun r2 =>
    some ((!(r2.1.1 : Bool), ()), ())
theorem eq (v_1 : Int) : F (v_1, ()) = T v_1 := eq_any fun k => by kernel_rfl
theorem ok : CtxOK prog ctx := ⟨nilM, mixed_ok, tab_ok tab_good, consM ⟨impl_isVertex.S, nilM⟩, nilM, nilM⟩
theorem S : Sound prog ⟨65, sig, F⟩ := sound_k (res := [.tmp 2]) func65 ok
noncomputable def cloG (y : Unit) (d : Int × Unit) : Option (Bool × Unit) := (F (joinIns [] [(false, (.int .i64))] d y)).map (·.1)
noncomputable def clo : Clo := ⟨65, ⟨[(false, (.int .i64))], [(.val false, .bool, .deep)]⟩, [], cloG⟩
theorem cloS : SoundClo prog clo := sound_clo (s := ⟨[(false, (.int .i64))], [(.val false, .bool, .deep)]⟩) (caps := []) rfl S
end impl_ValidSimplex_1
namespace impl_ValidSimplex
noncomputable def sig : Sig := ⟨[.val false (.sl (.int .i64))], [(.val false, .bool, .deep)]⟩
noncomputable def ctx : Ctx := ⟨tabOf tabl, [⟨63, impl_isRising.sig, impl_isRising.F⟩, ⟨64, slices_ContainsFunc_Lint64_int64.sig, slices_ContainsFunc_Lint64_int64.F⟩], [impl_ValidSimplex_1.clo], [], [], []⟩
noncomputable def cfg : Cfg := ⟨ctx, [], [], fun _ => ([], []), fun _ => []⟩
noncomputable def code : Code := (f43).body.getD .skip
noncomputable def fin := finK ctx sig [.tmp 2]
noncomputable def F (d : List Int × Unit) : Option ((Bool × Unit) × (Unit)) := anyK (runFn cfg fin code (initSt sig.ps d 20))
noncomputable def T (s_1 : List Int) : Option ((Bool × Unit) × (Unit)) :=
  if (decide ((s_1.length : Int) ≥ (1 : Int))) = true then
    if (decide ((s_1.length : Int) ≤ (4 : Int))) = true then
      (impl_isRising.F (s_1, ())).bind fun r2 =>
        if (r2.1.1 : Bool) = true then
          (slices_ContainsFunc_Lint64_int64.F (s_1, impl_ValidSimplex_1.cloG (()), ())).bind fun r3 =>
            some ((!(r3.1.1 : Bool), ()), ())
        else
          some ((false, ()), ())
    else
      some ((false, ()), ())
  else
    some ((false, ()), ())
theorem eq (s_1 : List Int) : F (s_1, ()) = T s_1 := eq_any fun k => by kernel_rfl
theorem ok : CtxOK prog ctx := ⟨nilM, mixed_ok, tab_ok tab_good, consM ⟨impl_isRising.S, consM ⟨slices_ContainsFunc_Lint64_int64.S, nilM⟩⟩, consM ⟨impl_ValidSimplex_1.cloS, nilM⟩, nilM⟩
theorem S : Sound prog ⟨43, sig, F⟩ := sound_k (res := [.tmp 2]) func43 ok
end impl_ValidSimplex
namespace cmp_Or_int
noncomputable def sig : Sig := ⟨[.val false (.sl (.int .i64))], [(.val false, (.int .i64), .deep)]⟩
noncomputable def ctx : Ctx := ⟨tabOf tabl, [], [], [], [], []⟩
noncomputable def cfg : Cfg := ⟨ctx, [], [], fun id => match id with | 3 => ([3, 6, 7, 8], []) | _ => ([], []), fun _ => []⟩
noncomputable def code : Code := (f67).body.getD .skip
noncomputable def fin := finK ctx sig [.tmp 2]
noncomputable def F (d : List Int × Unit) : Option ((Int × Unit) × (Unit)) := anyK (runFn cfg fin code (initSt sig.ps d 18))
noncomputable def l3 (k : Nat) (i2 : Int) (x3 : List Int) (i4 : Int) (i5 : Int) : Option ((Int × Unit) × (Unit)) :=
  Go.Vm.runT cfg fin k [.inLoop (sub [1, 1, 0, 1, 0, 0] code), .inBlock 0, .code (sub [1, 1, 1] code)]
    ⟨[.dead, .dead, .dead, .val false [⟨(.int .i64), .sh, i2⟩], .dead, .dead, .val false [⟨(.sl (.int .i64)), .sh, x3⟩], .val false [⟨(.int .i64), .sh, i4⟩], .val false [⟨(.int .i64), .sh, i5⟩]] ++ deads 9, []⟩
theorem l3_eq (k : Nat) (i2 : Int) (x3 : List Int) (i4 : Int) (i5 : Int) : l3 (k + 1) i2 x3 i4 i5 =
  if (decide (i5 < i4)) = true then
    if 0 ≤ i5 ∧ i5 < (x3.length : Int) then
      if ((x3.getD i5.toNat 0 : Int) != i2) = true then
        some (((x3.getD i5.toNat 0 : Int), ()), ())
      else
        l3 k i2 x3 i4 (IntKind.i64.wrap (i5 + (1 : Int)))
    else
      none
  else
    some ((i2, ()), ()) := by kernel_rfl
noncomputable def T (k : Nat) (vals_1 : List Int) : Option ((Int × Unit) × (Unit)) :=
  l3 k (0 : Int) vals_1 (vals_1.length : Int) (0 : Int)
theorem of (vals_1 : List Int) {r : (Int × Unit) × (Unit)} (h : Ev (fun k => T k vals_1) r) : F (vals_1, ()) = some r := Ev.run (fun k => by kernel_rfl) h
theorem ok : CtxOK prog ctx := ⟨nilM, mixed_ok, tab_ok tab_good, nilM, nilM, nilM⟩
theorem S : Sound prog ⟨67, sig, F⟩ := sound_k (res := [.tmp 2]) func67 ok
end cmp_Or_int
namespace cmp_isNaN_int
noncomputable def sig : Sig := ⟨[.val false (.int .i64)], [(.val false, .bool, .deep)]⟩
noncomputable def ctx : Ctx := ⟨tabOf tabl, [], [], [], [], []⟩
noncomputable def cfg : Cfg := ⟨ctx, [], [], fun _ => ([], []), fun _ => []⟩
noncomputable def code : Code := (f85).body.getD .skip
noncomputable def fin := finK ctx sig [.tmp 2]
noncomputable def F (d : Int × Unit) : Option ((Bool × Unit) × (Unit)) := anyK (runFn cfg fin code (initSt sig.ps d 6))
noncomputable def T (x_1 : Int) : Option ((Bool × Unit) × (Unit)) :=
  some ((x_1 != x_1, ()), ())
theorem eq (x_1 : Int) : F (x_1, ()) = T x_1 := eq_any fun k => by kernel_rfl
theorem ok : CtxOK prog ctx := ⟨nilM, mixed_ok, tab_ok tab_good, nilM, nilM, nilM⟩
theorem S : Sound prog ⟨85, sig, F⟩ := sound_k (res := [.tmp 2]) func85 ok
end cmp_isNaN_int
namespace cmp_Compare_int
noncomputable def sig : Sig := ⟨[.val false (.int .i64), .val false (.int .i64)], [(.val false, (.int .i64), .deep)]⟩
noncomputable def ctx : Ctx := ⟨tabOf tabl, [⟨85, cmp_isNaN_int.sig, cmp_isNaN_int.F⟩], [], [], [], []⟩
noncomputable def cfg : Cfg := ⟨ctx, [], [], fun _ => ([], []), fun _ => []⟩
noncomputable def code : Code := (f68).body.getD .skip
noncomputable def fin := finK ctx sig [.tmp 4]
noncomputable def F (d : Int × Int × Unit) : Option ((Int × Unit) × (Unit)) := anyK (runFn cfg fin code (initSt sig.ps d 20))
noncomputable def T (x_1 : Int) (y_2 : Int) : Option ((Int × Unit) × (Unit)) :=
  (cmp_isNaN_int.F (x_1, ())).bind fun r3 =>
    (cmp_isNaN_int.F (y_2, ())).bind fun r4 =>
      if (r3.1.1 : Bool) = true then
        if (r4.1.1 : Bool) = true then
          some (((0 : Int), ()), ())
        else
          some (((-1 : Int), ()), ())
      else
        if (r4.1.1 : Bool) = true then
          some (((1 : Int), ()), ())
        else
          if (decide (x_1 < y_2)) = true then
            some (((-1 : Int), ()), ())
          else
            if (decide (x_1 > y_2)) = true then
              some (((1 : Int), ()), ())
            else
              some (((0 : Int), ()), ())
theorem eq (x_1 : Int) (y_2 : Int) : F (x_1, y_2, ()) = T x_1 y_2 := eq_any fun k => by kernel_rfl
theorem ok : CtxOK prog ctx := ⟨nilM, mixed_ok, tab_ok tab_good, consM ⟨cmp_isNaN_int.S, nilM⟩, nilM, nilM⟩
theorem S : Sound prog ⟨68, sig, F⟩ := sound_k (res := [.tmp 4]) func68 ok
end cmp_Compare_int
namespace cmp_isNaN_int64
noncomputable def sig : Sig := ⟨[.val false (.int .i64)], [(.val false, .bool, .deep)]⟩
noncomputable def ctx : Ctx := ⟨tabOf tabl, [], [], [], [], []⟩
noncomputable def cfg : Cfg := ⟨ctx, [], [], fun _ => ([], []), fun _ => []⟩
noncomputable def code : Code := (f94).body.getD .skip
noncomputable def fin := finK ctx sig [.tmp 2]
noncomputable def F (d : Int × Unit) : Option ((Bool × Unit) × (Unit)) := anyK (runFn cfg fin code (initSt sig.ps d 6))
noncomputable def T (x_1 : Int) : Option ((Bool × Unit) × (Unit)) :=
  some ((x_1 != x_1, ()), ())
theorem eq (x_1 : Int) : F (x_1, ()) = T x_1 := eq_any fun k => by kernel_rfl
theorem ok : CtxOK prog ctx := ⟨nilM, mixed_ok, tab_ok tab_good, nilM, nilM, nilM⟩
theorem S : Sound prog ⟨94, sig, F⟩ := sound_k (res := [.tmp 2]) func94 ok
end cmp_isNaN_int64
namespace cmp_Compare_int64
noncomputable def sig : Sig := ⟨[.val false (.int .i64), .val false (.int .i64)], [(.val false, (.int .i64), .deep)]⟩
noncomputable def ctx : Ctx := ⟨tabOf tabl, [⟨94, cmp_isNaN_int64.sig, cmp_isNaN_int64.F⟩], [], [], [], []⟩
noncomputable def cfg : Cfg := ⟨ctx, [], [], fun _ => ([], []), fun _ => []⟩
noncomputable def code : Code := (f86).body.getD .skip
noncomputable def fin := finK ctx sig [.tmp 4]
noncomputable def F (d : Int × Int × Unit) : Option ((Int × Unit) × (Unit)) := anyK (runFn cfg fin code (initSt sig.ps d 20))
noncomputable def T (x_1 : Int) (y_2 : Int) : Option ((Int × Unit) × (Unit)) :=
  (cmp_isNaN_int64.F (x_1, ())).bind fun r3 =>
    (cmp_isNaN_int64.F (y_2, ())).bind fun r4 =>
      if (r3.1.1 : Bool) = true then
        if (r4.1.1 : Bool) = true then
          some (((0 : Int), ()), ())
        else
          some (((-1 : Int), ()), ())
      else
        if (r4.1.1 : Bool) = true then
          some (((1 : Int), ()), ())
        else
          if (decide (x_1 < y_2)) = true then
            some (((-1 : Int), ()), ())
          else
            if (decide (x_1 > y_2)) = true then
              some (((1 : Int), ()), ())
            else
              some (((0 : Int), ()), ())
theorem eq (x_1 : Int) (y_2 : Int) : F (x_1, y_2, ()) = T x_1 y_2 := eq_any fun k => by kernel_rfl
theorem ok : CtxOK prog ctx := ⟨nilM, mixed_ok, tab_ok tab_good, consM ⟨cmp_isNaN_int64.S, nilM⟩, nilM, nilM⟩
theorem S : Sound prog ⟨86, sig, F⟩ := sound_k (res := [.tmp 4]) func86 ok
end cmp_Compare_int64
namespace slices_Compare_Lint64_int64
noncomputable def sig : Sig := ⟨[.val false (.sl (.int .i64)), .val false (.sl (.int .i64))], [(.val false, (.int .i64), .deep)]⟩
noncomputable def ctx : Ctx := ⟨tabOf tabl, [⟨86, cmp_Compare_int64.sig, cmp_Compare_int64.F⟩], [], [], [], []⟩
noncomputable def cfg : Cfg := ⟨ctx, [], [], fun id => match id with | 2 => ([0, 1, 9, 10, 11], []) | _ => ([], []), fun _ => []⟩
noncomputable def code : Code := (f69).body.getD .skip
noncomputable def fin := finK ctx sig [.tmp 4]
noncomputable def F (d : List Int × List Int × Unit) : Option ((Int × Unit) × (Unit)) := anyK (runFn cfg fin code (initSt sig.ps d 36))
noncomputable def l2 (k : Nat) (x3 : List Int) (x4 : List Int) (x5 : List Int) (i6 : Int) (i7 : Int) : Option ((Int × Unit) × (Unit)) :=
  Go.Vm.runT cfg fin k [.inLoop (sub [1, 0, 1, 0, 0] code), .inBlock 0, .code (sub [1, 1] code)]
    ⟨[.val false [⟨(.sl (.int .i64)), .sh, x3⟩], .val false [⟨(.sl (.int .i64)), .sh, x4⟩], .dead, .dead, .dead, .dead, .dead, .dead, .dead, .val false [⟨(.sl (.int .i64)), .sh, x5⟩], .val false [⟨(.int .i64), .sh, i6⟩], .val false [⟨(.int .i64), .sh, i7⟩]] ++ deads 24, []⟩
theorem l2_eq (k : Nat) (x3 : List Int) (x4 : List Int) (x5 : List Int) (i6 : Int) (i7 : Int) : l2 (k + 1) x3 x4 x5 i6 i7 =
  if (decide (i7 < i6)) = true then
    if 0 ≤ i7 ∧ i7 < (x5.length : Int) then
      if (decide (i7 ≥ (x4.length : Int))) = true then
        some (((1 : Int), ()), ())
      else
        if 0 ≤ i7 ∧ i7 < (x4.length : Int) then
          (cmp_Compare_int64.F ((x5.getD i7.toNat 0 : Int), (x4.getD i7.toNat 0 : Int), ())).bind fun r8 =>
            if ((r8.1.1 : Int) != (0 : Int)) = true then
              some (((r8.1.1 : Int), ()), ())
            else
              l2 k x3 x4 x5 i6 (IntKind.i64.wrap (i7 + (1 : Int)))
        else
          none
    else
      none
  else
    if (decide ((x3.length : Int) < (x4.length : Int))) = true then
      some (((-1 : Int), ()), ())
    else
      some (((0 : Int), ()), ()) := by kernel_rfl
noncomputable def T (k : Nat) (s1_1 : List Int) (s2_2 : List Int) : Option ((Int × Unit) × (Unit)) :=
  l2 k s1_1 s2_2 s1_1 (s1_1.length : Int) (0 : Int)
theorem of (s1_1 : List Int) (s2_2 : List Int) {r : (Int × Unit) × (Unit)} (h : Ev (fun k => T k s1_1 s2_2) r) : F (s1_1, s2_2, ()) = some r := Ev.run (fun k => by kernel_rfl) h
theorem ok : CtxOK prog ctx := ⟨nilM, mixed_ok, tab_ok tab_good, consM ⟨cmp_Compare_int64.S, nilM⟩, nilM, nilM⟩
theorem S : Sound prog ⟨69, sig, F⟩ := sound_k (res := [.tmp 4]) func69 ok
end slices_Compare_Lint64_int64
namespace impl_compareSimplices
noncomputable def sig : Sig := ⟨[.val false (.sl (.int .i64)), .val false (.sl (.int .i64))], [(.val false, (.int .i64), .deep)]⟩
noncomputable def ctx : Ctx := ⟨tabOf tabl, [⟨67, cmp_Or_int.sig, cmp_Or_int.F⟩, ⟨68, cmp_Compare_int.sig, cmp_Compare_int.F⟩, ⟨69, slices_Compare_Lint64_int64.sig, slices_Compare_Lint64_int64.F⟩], [], [], [], []⟩
noncomputable def cfg : Cfg := ⟨ctx, [], [], fun _ => ([], []), fun _ => []⟩
noncomputable def code : Code := (f44).body.getD .skip
noncomputable def fin := finK ctx sig [.tmp 4]
noncomputable def F (d : List Int × List Int × Unit) : Option ((Int × Unit) × (Unit)) := anyK (runFn cfg fin code (initSt sig.ps d 15))
noncomputable def T (a_1 : List Int) (b_2 : List Int) : Option ((Int × Unit) × (Unit)) :=
  (cmp_Compare_int.F ((a_1.length : Int), (b_2.length : Int), ())).bind fun r3 =>
    (slices_Compare_Lint64_int64.F (a_1, b_2, ())).bind fun r4 =>
      (cmp_Or_int.F ([(r3.1.1 : Int), (r4.1.1 : Int)], ())).bind fun r5 =>
        some (((r5.1.1 : Int), ()), ())
theorem eq (a_1 : List Int) (b_2 : List Int) : F (a_1, b_2, ()) = T a_1 b_2 := eq_any fun k => by kernel_rfl
theorem ok : CtxOK prog ctx := ⟨nilM, mixed_ok, tab_ok tab_good, consM ⟨cmp_Or_int.S, consM ⟨cmp_Compare_int.S, consM ⟨slices_Compare_Lint64_int64.S, nilM⟩⟩⟩, nilM, nilM⟩
theorem S : Sound prog ⟨44, sig, F⟩ := sound_k (res := [.tmp 4]) func44 ok
noncomputable def cloG (y : Unit) (d : List Int × List Int × Unit) : Option (Int × Unit) := (F (joinIns [] [(false, (.sl (.int .i64))), (false, (.sl (.int .i64)))] d y)).map (·.1)
noncomputable def clo : Clo := ⟨44, ⟨[(false, (.sl (.int .i64))), (false, (.sl (.int .i64)))], [(.val false, (.int .i64), .deep)]⟩, [], cloG⟩
theorem cloS : SoundClo prog clo := sound_clo (s := ⟨[(false, (.sl (.int .i64))), (false, (.sl (.int .i64)))], [(.val false, (.int .i64), .deep)]⟩) (caps := []) rfl S
end impl_compareSimplices
namespace slices_IndexFunc_LLint64_Lint64
noncomputable def sig : Sig := ⟨[.val false (.sl (.sl (.int .i64))), .fnx ⟨[(false, (.sl (.int .i64)))], [(.val false, .bool, .deep)]⟩], [(.val false, (.int .i64), .deep)]⟩
noncomputable def ctx : Ctx := ⟨tabOf tabl, [], [], [], [], []⟩
noncomputable def cfg : Cfg := ⟨ctx, [], [], fun id => match id with | 2 => ([0, 1, 7, 8], []) | _ => ([], []), fun _ => []⟩
noncomputable def code : Code := (f70).body.getD .skip
noncomputable def fin := finK ctx sig [.tmp 4]
noncomputable def F (d : List (List Int) × ((List Int × Unit) → Option (Bool × Unit)) × Unit) : Option ((Int × Unit) × (Unit)) := anyK (runFn cfg fin code (initSt sig.ps d 19))
noncomputable def l2 (k : Nat) (x3 : List (List Int)) (f4 : (List Int × Unit) → Option (Bool × Unit)) (i5 : Int) (i6 : Int) : Option ((Int × Unit) × (Unit)) :=
  Go.Vm.runT cfg fin k [.inLoop (sub [1, 0, 1, 0, 0] code), .inBlock 0, .code (sub [1, 1] code)]
    ⟨[.val false [⟨(.sl (.sl (.int .i64))), .sh, x3⟩], .fnx ⟨[(false, (.sl (.int .i64)))], [(.val false, .bool, .deep)]⟩ f4, .dead, .dead, .dead, .dead, .dead, .val false [⟨(.int .i64), .sh, i5⟩], .val false [⟨(.int .i64), .sh, i6⟩]] ++ deads 10, []⟩
theorem l2_eq (k : Nat) (x3 : List (List Int)) (f4 : (List Int × Unit) → Option (Bool × Unit)) (i5 : Int) (i6 : Int) : l2 (k + 1) x3 f4 i5 i6 =
  if (decide (i6 < i5)) = true then
    if 0 ≤ i6 ∧ i6 < (x3.length : Int) then
      (f4 (x3.getD i6.toNat ([] : List Int), ())).bind fun r7 =>
        if (r7.1 : Bool) = true then
          some ((i6, ()), ())
        else
          l2 k x3 f4 i5 (IntKind.i64.wrap (i6 + (1 : Int)))
    else
      none
  else
    some (((-1 : Int), ()), ()) := by kernel_rfl
noncomputable def T (k : Nat) (s_1 : List (List Int)) (f_2 : (List Int × Unit) → Option (Bool × Unit)) : Option ((Int × Unit) × (Unit)) :=
  l2 k s_1 f_2 (s_1.length : Int) (0 : Int)
theorem of (s_1 : List (List Int)) (f_2 : (List Int × Unit) → Option (Bool × Unit)) {r : (Int × Unit) × (Unit)} (h : Ev (fun k => T k s_1 f_2) r) : F (s_1, f_2, ()) = some r := Ev.run (fun k => by kernel_rfl) h
theorem ok : CtxOK prog ctx := ⟨nilM, mixed_ok, tab_ok tab_good, nilM, nilM, nilM⟩
theorem S : Sound prog ⟨70, sig, F⟩ := sound_k (res := [.tmp 4]) func70 ok
end slices_IndexFunc_LLint64_Lint64
namespace slices_ContainsFunc_LLint64_Lint64
noncomputable def sig : Sig := ⟨[.val false (.sl (.sl (.int .i64))), .fnx ⟨[(false, (.sl (.int .i64)))], [(.val false, .bool, .deep)]⟩], [(.val false, .bool, .deep)]⟩
noncomputable def ctx : Ctx := ⟨tabOf tabl, [⟨70, slices_IndexFunc_LLint64_Lint64.sig, slices_IndexFunc_LLint64_Lint64.F⟩], [], [], [], []⟩
noncomputable def cfg : Cfg := ⟨ctx, [], [], fun _ => ([], []), fun _ => []⟩
noncomputable def code : Code := (f45).body.getD .skip
noncomputable def fin := finK ctx sig [.tmp 4]
noncomputable def F (d : List (List Int) × ((List Int × Unit) → Option (Bool × Unit)) × Unit) : Option ((Bool × Unit) × (Unit)) := anyK (runFn cfg fin code (initSt sig.ps d 9))
noncomputable def T (s_1 : List (List Int)) (f_2 : (List Int × Unit) → Option (Bool × Unit)) : Option ((Bool × Unit) × (Unit)) :=
  (slices_IndexFunc_LLint64_Lint64.F (s_1, f_2, ())).bind fun r3 =>
    some ((decide ((r3.1.1 : Int) ≥ (0 : Int)), ()), ())
theorem eq (s_1 : List (List Int)) (f_2 : (List Int × Unit) → Option (Bool × Unit)) : F (s_1, f_2, ()) = T s_1 f_2 := eq_any fun k => by kernel_rfl
theorem ok : CtxOK prog ctx := ⟨nilM, mixed_ok, tab_ok tab_good, consM ⟨slices_IndexFunc_LLint64_Lint64.S, nilM⟩, nilM, nilM⟩
theorem S : Sound prog ⟨45, sig, F⟩ := sound_k (res := [.tmp 4]) func45 ok
end slices_ContainsFunc_LLint64_Lint64
namespace slices_Concat_Lint64_int64
noncomputable def sig : Sig := ⟨[.val false (.sl (.sl (.int .i64)))], [(.val false, (.sl (.int .i64)), .deep)]⟩
noncomputable def ctx : Ctx := ⟨tabOf tabl, [], [], [], [(87, (.int .i64))], []⟩
noncomputable def cfg : Cfg := ⟨ctx, [], [], fun id => match id with | 3 => ([0, 3, 9, 10, 11], []) | 11 => ([6, 25, 26, 27], [24]) | _ => ([], []), fun _ => []⟩
noncomputable def code : Code := (f71).body.getD .skip
noncomputable def fin := finK ctx sig [.tmp 2]
noncomputable def F (d : List (List Int) × Unit) : Option ((List Int × Unit) × (Unit)) := anyK (runFn cfg fin code (initSt sig.ps d 36))
noncomputable def l3 (k : Nat) (x2 : List (List Int)) (i3 : Int) (x4 : List (List Int)) (i5 : Int) (i6 : Int) : Option ((List Int × Unit) × (Unit)) :=
  Go.Vm.runT cfg fin k [.inLoop (sub [1, 1, 0, 1, 0, 0] code), .inBlock 0, .code (sub [1, 1, 1] code)]
    ⟨[.val false [⟨(.sl (.sl (.int .i64))), .sh, x2⟩], .dead, .dead, .val false [⟨(.int .i64), .sh, i3⟩], .dead, .dead, .dead, .dead, .dead, .val false [⟨(.sl (.sl (.int .i64))), .sh, x4⟩], .val false [⟨(.int .i64), .sh, i5⟩], .val false [⟨(.int .i64), .sh, i6⟩]] ++ deads 24, []⟩
noncomputable def l11 (k : Nat) (x7 : List (List Int)) (i8 : Int) (i9 : Int) (x10 : List Int) : Option ((List Int × Unit) × (Unit)) :=
  Go.Vm.runT cfg fin k [.inLoop (sub [1, 1, 1, 1, 0, 1, 0, 0] code), .inBlock 2, .code (sub [1, 1, 1, 1, 1] code)]
    ⟨[.dead, .dead, .dead, .dead, .dead, .dead, .view 24 (.root 0) 1 false, .dead, .dead, .dead, .dead, .dead, .dead, .dead, .dead, .dead, .dead, .dead, .dead, .dead, .dead, .dead, .dead, .dead, .dead, .val false [⟨(.sl (.sl (.int .i64))), .sh, x7⟩], .val false [⟨(.int .i64), .sh, i8⟩], .val false [⟨(.int .i64), .sh, i9⟩]] ++ deads 8, [(24, ⟨false, [⟨(.sl (.int .i64)), .deep, x10⟩]⟩)]⟩
theorem l3_eq (k : Nat) (x2 : List (List Int)) (i3 : Int) (x4 : List (List Int)) (i5 : Int) (i6 : Int) : l3 (k + 1) x2 i3 x4 i5 i6 =
  if (decide (i6 < i5)) = true then
    if 0 ≤ i6 ∧ i6 < (x4.length : Int) then
      if (decide ((IntKind.i64.wrap (i3 + ((x4.getD i6.toNat ([] : List Int)).length : Int))) < (0 : Int))) = true then
        none
      else
        l3 k x2 (IntKind.i64.wrap (i3 + ((x4.getD i6.toNat ([] : List Int)).length : Int))) x4 i5 (IntKind.i64.wrap (i6 + (1 : Int)))
    else
      none
  else
    if 0 ≤ i3 ∧ i3 ≤ (bigN : Int) then
      l11 k x2 (x2.length : Int) (0 : Int) ([] : List Int)
    else
      none := by kernel_rfl
theorem l11_eq (k : Nat) (x7 : List (List Int)) (i8 : Int) (i9 : Int) (x10 : List Int) : l11 (k + 1) x7 i8 i9 x10 =
  if (decide (i9 < i8)) = true then
    if 0 ≤ i9 ∧ i9 < (x7.length : Int) then
      if x10.length + (x7.getD i9.toNat ([] : List Int)).length ≤ bigA then
        l11 k x7 i8 (IntKind.i64.wrap (i9 + (1 : Int))) (x10 ++ (x7.getD i9.toNat ([] : List Int)))
      else
        none
    else
      none
  else
    some ((x10, ()), ()) := by kernel_rfl
noncomputable def T (k : Nat) (slices_1 : List (List Int)) : Option ((List Int × Unit) × (Unit)) :=
  l3 k slices_1 (0 : Int) slices_1 (slices_1.length : Int) (0 : Int)
theorem of (slices_1 : List (List Int)) {r : (List Int × Unit) × (Unit)} (h : Ev (fun k => T k slices_1) r) : F (slices_1, ()) = some r := Ev.run (fun k => by kernel_rfl) h
theorem ok : CtxOK prog ctx := ⟨nilM, mixed_ok, tab_ok tab_good, nilM, nilM, consM ⟨slices_Grow_Lint64_int64.growOK, nilM⟩⟩
theorem S : Sound prog ⟨71, sig, F⟩ := sound_k (res := [.tmp 2]) func71 ok
end slices_Concat_Lint64_int64
namespace impl_facesOf
noncomputable def sig : Sig := ⟨[.val false (.sl (.int .i64))], [(.val false, (.sl (.sl (.int .i64))), .deep)]⟩
noncomputable def ctx : Ctx := ⟨tabOf tabl, [⟨71, slices_Concat_Lint64_int64.sig, slices_Concat_Lint64_int64.F⟩], [], [], [], []⟩
noncomputable def cfg : Cfg := ⟨ctx, [], [], fun id => match id with | 3 => ([0, 3, 6, 7], [12]) | _ => ([], []), fun _ => []⟩
noncomputable def code : Code := (f46).body.getD .skip
noncomputable def fin := finK ctx sig [.tmp 2]
noncomputable def F (d : List Int × Unit) : Option ((List (List Int) × Unit) × (Unit)) := anyK (runFn cfg fin code (initSt sig.ps d 27))
noncomputable def l3 (k : Nat) (x2 : List Int) (i3 : Int) (i4 : Int) (x5 : List (List Int)) : Option ((List (List Int) × Unit) × (Unit)) :=
  Go.Vm.runT cfg fin k [.inLoop (sub [1, 1, 0, 1, 0, 0] code), .inBlock 0, .code (sub [1, 1, 1] code)]
    ⟨[.val false [⟨(.sl (.int .i64)), .sh, x2⟩], .dead, .dead, .view 12 (.root 0) 1 false, .dead, .dead, .val false [⟨(.int .i64), .sh, i3⟩], .val false [⟨(.int .i64), .sh, i4⟩]] ++ deads 19, [(12, ⟨false, [⟨(.sl (.sl (.int .i64))), .deep, x5⟩]⟩)]⟩
theorem l3_eq (k : Nat) (x2 : List Int) (i3 : Int) (i4 : Int) (x5 : List (List Int)) : l3 (k + 1) x2 i3 i4 x5 =
  if (decide (i4 < i3)) = true then
    if (decide ((x2.length : Int) > (1 : Int))) = true then
      if 0 ≤ (0 : Int) ∧ (0 : Int) ≤ i4 ∧ i4 ≤ (x2.length : Int) then
        if 0 ≤ (IntKind.i64.wrap (i4 + (1 : Int))) ∧ (IntKind.i64.wrap (i4 + (1 : Int))) ≤ (x2.length : Int) ∧ (x2.length : Int) ≤ (x2.length : Int) then
          (slices_Concat_Lint64_int64.F ([cutL x2 (0 : Int) i4, cutL x2 (IntKind.i64.wrap (i4 + (1 : Int))) (x2.length : Int)], ())).bind fun r6 =>
            if x5.length + ([r6.1.1] : List (List Int)).length ≤ bigA then
              l3 k x2 i3 (IntKind.i64.wrap (i4 + (1 : Int))) (x5 ++ ([r6.1.1]))
            else
              none
        else
          none
      else
        none
    else
      l3 k x2 i3 (IntKind.i64.wrap (i4 + (1 : Int))) x5
  else
    some ((x5, ()), ()) := by kernel_rfl
noncomputable def T (k : Nat) (s_1 : List Int) : Option ((List (List Int) × Unit) × (Unit)) :=
  l3 k s_1 (s_1.length : Int) (0 : Int) ([])
theorem of (s_1 : List Int) {r : (List (List Int) × Unit) × (Unit)} (h : Ev (fun k => T k s_1) r) : F (s_1, ()) = some r := Ev.run (fun k => by kernel_rfl) h
theorem ok : CtxOK prog ctx := ⟨nilM, mixed_ok, tab_ok tab_good, consM ⟨slices_Concat_Lint64_int64.S, nilM⟩, nilM, nilM⟩
theorem S : Sound prog ⟨46, sig, F⟩ := sound_k (res := [.tmp 2]) func46 ok
end impl_facesOf
namespace slices_BinarySearchFunc_LLint64_Lint64_Lint64
noncomputable def sig : Sig := ⟨[.val false (.sl (.sl (.int .i64))), .val false (.sl (.int .i64)), .fnx ⟨[(false, (.sl (.int .i64))), (false, (.sl (.int .i64)))], [(.val false, (.int .i64), .deep)]⟩], [(.val false, (.int .i64), .deep), (.val false, .bool, .deep)]⟩
noncomputable def ctx : Ctx := ⟨tabOf tabl, [], [], [], [], []⟩
noncomputable def cfg : Cfg := ⟨ctx, [], [], fun id => match id with | 3 => ([0, 1, 2, 8, 9, 10], []) | _ => ([], []), fun _ => []⟩
noncomputable def code : Code := (f72).body.getD .skip
noncomputable def fin := finK ctx sig [.tmp 6, .tmp 7]
noncomputable def F (d : List (List Int) × List Int × ((List Int × List Int × Unit) → Option (Int × Unit)) × Unit) : Option ((Int × Bool × Unit) × (Unit)) := anyK (runFn cfg fin code (initSt sig.ps d 49))
noncomputable def l3 (k : Nat) (x4 : List (List Int)) (x5 : List Int) (f6 : (List Int × List Int × Unit) → Option (Int × Unit)) (i7 : Int) (i8 : Int) (i9 : Int) : Option ((Int × Bool × Unit) × (Unit)) :=
  Go.Vm.runT cfg fin k [.inLoop (sub [1, 1, 1, 0, 0, 0] code), .inBlock 0, .code (sub [1, 1, 1, 1] code)]
    ⟨[.val false [⟨(.sl (.sl (.int .i64))), .sh, x4⟩], .val false [⟨(.sl (.int .i64)), .sh, x5⟩], .fnx ⟨[(false, (.sl (.int .i64))), (false, (.sl (.int .i64)))], [(.val false, (.int .i64), .deep)]⟩ f6, .dead, .dead, .dead, .dead, .dead, .val false [⟨(.int .i64), .sh, i7⟩], .val false [⟨(.int .i64), .sh, i8⟩], .val false [⟨(.int .i64), .sh, i9⟩]] ++ deads 38, []⟩
theorem l3_eq (k : Nat) (x4 : List (List Int)) (x5 : List Int) (f6 : (List Int × List Int × Unit) → Option (Int × Unit)) (i7 : Int) (i8 : Int) (i9 : Int) : l3 (k + 1) x4 x5 f6 i7 i8 i9 =
  if (decide (i8 < i9)) = true then
    if (1 : Int) < 0 then
      none
    else
      if 0 ≤ (IntKind.i64.wrap ((IntKind.u64.wrap (IntKind.i64.wrap (i8 + i9))).fdiv (2 ^ (min (1 : Int).toNat IntKind.u64.bits)))) ∧ (IntKind.i64.wrap ((IntKind.u64.wrap (IntKind.i64.wrap (i8 + i9))).fdiv (2 ^ (min (1 : Int).toNat IntKind.u64.bits)))) < (x4.length : Int) then
        (f6 (x4.getD (IntKind.i64.wrap ((IntKind.u64.wrap (IntKind.i64.wrap (i8 + i9))).fdiv (2 ^ (min (1 : Int).toNat IntKind.u64.bits)))).toNat ([] : List Int), x5, ())).bind fun r10 =>
          if (decide ((r10.1 : Int) < (0 : Int))) = true then
            l3 k x4 x5 f6 i7 (IntKind.i64.wrap ((IntKind.i64.wrap ((IntKind.u64.wrap (IntKind.i64.wrap (i8 + i9))).fdiv (2 ^ (min (1 : Int).toNat IntKind.u64.bits)))) + (1 : Int))) i9
          else
            l3 k x4 x5 f6 i7 i8 (IntKind.i64.wrap ((IntKind.u64.wrap (IntKind.i64.wrap (i8 + i9))).fdiv (2 ^ (min (1 : Int).toNat IntKind.u64.bits))))
      else
        none
  else
    if (decide (i8 < i7)) = true then
      if 0 ≤ i8 ∧ i8 < (x4.length : Int) then
        (f6 (x4.getD i8.toNat ([] : List Int), x5, ())).bind fun r11 =>
          some ((i8, ((r11.1 : Int) == (0 : Int), ())), ())
      else
        none
    else
      some ((i8, (false, ())), ()) := by kernel_rfl
noncomputable def T (k : Nat) (x_1 : List (List Int)) (target_2 : List Int) (f_3 : (List Int × List Int × Unit) → Option (Int × Unit)) : Option ((Int × Bool × Unit) × (Unit)) :=
  l3 k x_1 target_2 f_3 (x_1.length : Int) (0 : Int) (x_1.length : Int)
theorem of (x_1 : List (List Int)) (target_2 : List Int) (f_3 : (List Int × List Int × Unit) → Option (Int × Unit)) {r : (Int × Bool × Unit) × (Unit)} (h : Ev (fun k => T k x_1 target_2 f_3) r) : F (x_1, target_2, f_3, ()) = some r := Ev.run (fun k => by kernel_rfl) h
theorem ok : CtxOK prog ctx := ⟨nilM, mixed_ok, tab_ok tab_good, nilM, nilM, nilM⟩
theorem S : Sound prog ⟨72, sig, F⟩ := sound_k (res := [.tmp 6, .tmp 7]) func72 ok
end slices_BinarySearchFunc_LLint64_Lint64_Lint64
namespace impl_indexOf
noncomputable def sig : Sig := ⟨[.val true (.sl (.sl (.int .i64))), .val false (.sl (.int .i64))], [(.val false, (.int .i64), .deep)]⟩
noncomputable def ctx : Ctx := ⟨tabOf tabl, [⟨72, slices_BinarySearchFunc_LLint64_Lint64_Lint64.sig, slices_BinarySearchFunc_LLint64_Lint64_Lint64.F⟩], [impl_compareSimplices.clo], [], [], []⟩
noncomputable def cfg : Cfg := ⟨ctx, [], [], fun _ => ([], []), fun _ => []⟩
noncomputable def code : Code := (f48).body.getD .skip
noncomputable def fin := finK ctx sig [.tmp 4]
noncomputable def F (d : List (List Int) × List Int × Unit) : Option ((Int × Unit) × (Unit)) := anyK (runFn cfg fin code (initSt sig.ps d 17))
noncomputable def T (c_1 : List (List Int)) (s_2 : List Int) : Option ((Int × Unit) × (Unit)) :=
  (slices_BinarySearchFunc_LLint64_Lint64_Lint64.F (c_1, s_2, impl_compareSimplices.cloG (()), ())).bind fun r3 =>
    if (!(r3.1.2.1 : Bool)) = true then
      some (((-1 : Int), ()), ())
    else
      some (((r3.1.1 : Int), ()), ())
theorem eq (c_1 : List (List Int)) (s_2 : List Int) : F (c_1, s_2, ()) = T c_1 s_2 := eq_any fun k => by kernel_rfl
theorem ok : CtxOK prog ctx := ⟨nilM, mixed_ok, tab_ok tab_good, consM ⟨slices_BinarySearchFunc_LLint64_Lint64_Lint64.S, nilM⟩, consM ⟨impl_compareSimplices.cloS, nilM⟩, nilM⟩
theorem S : Sound prog ⟨48, sig, F⟩ := sound_k (res := [.tmp 4]) func48 ok
end impl_indexOf
namespace impl_ValidComplex_1
noncomputable def sig : Sig := ⟨[.val false (.sl (.int .i64)), .rptr (.sl (.sl (.int .i64))), .rptr (.int .i64)], [(.val false, .bool, .deep)]⟩
noncomputable def ctx : Ctx := ⟨tabOf tabl, [⟨48, impl_indexOf.sig, impl_indexOf.F⟩], [], [], [], []⟩
noncomputable def cfg : Cfg := ⟨ctx, [], [], fun _ => ([], []), fun _ => []⟩
noncomputable def code : Code := (f47).body.getD .skip
noncomputable def fin := finK ctx sig [.tmp 4]
noncomputable def F (d : List Int × List (List Int) × Int × Unit) : Option ((Bool × Unit) × (Unit)) := anyK (runFn cfg fin code (initSt sig.ps d 13))
noncomputable def T (f_1 : List Int) (a_2 : List (List Int)) (a_3 : Int) : Option ((Bool × Unit) × (Unit)) :=
  if 0 ≤ (0 : Int) ∧ (0 : Int) ≤ a_3 ∧ a_3 ≤ (a_2.length : Int) then
    (impl_indexOf.F (cutL a_2 (0 : Int) a_3, f_1, ())).bind fun r4 =>
      some ((decide ((r4.1.1 : Int) < (0 : Int)), ()), ())
  else
    none
theorem eq (f_1 : List Int) (a_2 : List (List Int)) (a_3 : Int) : F (f_1, a_2, a_3, ()) = T f_1 a_2 a_3 := eq_any fun k => by kernel_rfl
theorem ok : CtxOK prog ctx := ⟨nilM, mixed_ok, tab_ok tab_good, consM ⟨impl_indexOf.S, nilM⟩, nilM, nilM⟩
theorem S : Sound prog ⟨47, sig, F⟩ := sound_k (res := [.tmp 4]) func47 ok
noncomputable def cloG (y : List (List Int) × Int × Unit) (d : List Int × Unit) : Option (Bool × Unit) := (F (joinIns [.rptr (.sl (.sl (.int .i64))), .rptr (.int .i64)] [(false, (.sl (.int .i64)))] d y)).map (·.1)
noncomputable def clo : Clo := ⟨47, ⟨[(false, (.sl (.int .i64)))], [(.val false, .bool, .deep)]⟩, [.rptr (.sl (.sl (.int .i64))), .rptr (.int .i64)], cloG⟩
theorem cloS : SoundClo prog clo := sound_clo (s := ⟨[(false, (.sl (.int .i64)))], [(.val false, .bool, .deep)]⟩) (caps := [.rptr (.sl (.sl (.int .i64))), .rptr (.int .i64)]) rfl S
end impl_ValidComplex_1
namespace impl_ValidComplex
noncomputable def sig : Sig := ⟨[.val true (.sl (.sl (.int .i64)))], [(.val false, .bool, .deep)]⟩
noncomputable def ctx : Ctx := ⟨tabOf tabl, [⟨43, impl_ValidSimplex.sig, impl_ValidSimplex.F⟩, ⟨44, impl_compareSimplices.sig, impl_compareSimplices.F⟩, ⟨45, slices_ContainsFunc_LLint64_Lint64.sig, slices_ContainsFunc_LLint64_Lint64.F⟩, ⟨46, impl_facesOf.sig, impl_facesOf.F⟩], [impl_ValidComplex_1.clo], [], [], []⟩
noncomputable def cfg : Cfg := ⟨ctx, [], [], fun id => match id with | 2 => ([1, 6, 7, 8], [4]) | _ => ([], []), fun _ => []⟩
noncomputable def code : Code := (f26).body.getD .skip
noncomputable def fin := finK ctx sig [.tmp 2]
noncomputable def F (d : List (List Int) × Unit) : Option ((Bool × Unit) × (Unit)) := anyK (runFn cfg fin code (initSt sig.ps d 40))
noncomputable def l2 (k : Nat) (x2 : List (List Int)) (i3 : Int) (i4 : Int) (x5 : List (List Int)) : Option ((Bool × Unit) × (Unit)) :=
  Go.Vm.runT cfg fin k [.inLoop (sub [1, 0, 1, 0, 0] code), .inBlock 0, .code (sub [1, 1] code)]
    ⟨[.dead, .ref 4 (.root 0), .dead, .dead, .dead, .dead, .val false [⟨(.sl (.sl (.int .i64))), .sh, x2⟩], .val false [⟨(.int .i64), .sh, i3⟩], .val false [⟨(.int .i64), .sh, i4⟩]] ++ deads 31, [(4, ⟨true, [⟨(.sl (.sl (.int .i64))), .sh, x5⟩]⟩)]⟩
theorem l2_eq (k : Nat) (x2 : List (List Int)) (i3 : Int) (i4 : Int) (x5 : List (List Int)) : l2 (k + 1) x2 i3 i4 x5 =
  if (decide (i4 < i3)) = true then
    if 0 ≤ i4 ∧ i4 < (x2.length : Int) then
      (impl_ValidSimplex.F (x2.getD i4.toNat ([] : List Int), ())).bind fun r6 =>
        if (!(r6.1.1 : Bool)) = true then
          some ((false, ()), ())
        else
          if (decide (i4 > (0 : Int))) = true then
            if 0 ≤ (IntKind.i64.wrap (i4 - (1 : Int))) ∧ (IntKind.i64.wrap (i4 - (1 : Int))) < (x5.length : Int) then
              (impl_compareSimplices.F (x5.getD (IntKind.i64.wrap (i4 - (1 : Int))).toNat ([] : List Int), x2.getD i4.toNat ([] : List Int), ())).bind fun r7 =>
                if (decide ((r7.1.1 : Int) ≥ (0 : Int))) = true then
                  some ((false, ()), ())
                else
                  (impl_facesOf.F (x2.getD i4.toNat ([] : List Int), ())).bind fun r8 =>
                    (slices_ContainsFunc_LLint64_Lint64.F (r8.1.1, impl_ValidComplex_1.cloG (x5, i4, ()), ())).bind fun r9 =>
                      if (r9.1.1 : Bool) = true then
                        some ((false, ()), ())
                      else
                        l2 k x2 i3 (IntKind.i64.wrap (i4 + (1 : Int))) x5
            else
              none
          else
            (impl_facesOf.F (x2.getD i4.toNat ([] : List Int), ())).bind fun r10 =>
              (slices_ContainsFunc_LLint64_Lint64.F (r10.1.1, impl_ValidComplex_1.cloG (x5, i4, ()), ())).bind fun r11 =>
                if (r11.1.1 : Bool) = true then
                  some ((false, ()), ())
                else
                  l2 k x2 i3 (IntKind.i64.wrap (i4 + (1 : Int))) x5
    else
      none
  else
    some ((decide ((x5.length : Int) ≤ (48 : Int)), ()), ()) := by kernel_rfl
noncomputable def T (k : Nat) (c_1 : List (List Int)) : Option ((Bool × Unit) × (Unit)) :=
  l2 k c_1 (c_1.length : Int) (0 : Int) c_1
theorem of (c_1 : List (List Int)) {r : (Bool × Unit) × (Unit)} (h : Ev (fun k => T k c_1) r) : F (c_1, ()) = some r := Ev.run (fun k => by kernel_rfl) h
theorem ok : CtxOK prog ctx := ⟨nilM, mixed_ok, tab_ok tab_good, consM ⟨impl_ValidSimplex.S, consM ⟨impl_compareSimplices.S, consM ⟨slices_ContainsFunc_LLint64_Lint64.S, consM ⟨impl_facesOf.S, nilM⟩⟩⟩⟩, consM ⟨impl_ValidComplex_1.cloS, nilM⟩, nilM⟩
theorem S : Sound prog ⟨26, sig, F⟩ := sound_k (res := [.tmp 2]) func26 ok
end impl_ValidComplex
namespace slices_Clone_Lint64_int64
noncomputable def sig : Sig := ⟨[.val false (.sl (.int .i64))], [(.val false, (.sl (.int .i64)), .deep)]⟩
noncomputable def ctx : Ctx := ⟨tabOf tabl, [], [], [], [], []⟩
noncomputable def cfg : Cfg := ⟨ctx, [], [], fun _ => ([], []), fun _ => []⟩
noncomputable def code : Code := (f88).body.getD .skip
noncomputable def fin := finK ctx sig [.tmp 2]
noncomputable def F (d : List Int × Unit) : Option ((List Int × Unit) × (Unit)) := anyK (runFn cfg fin code (initSt sig.ps d 8))
noncomputable def T (s_1 : List Int) : Option ((List Int × Unit) × (Unit)) :=
  if 0 < s_1.length then
    if ([] : List Int).length + s_1.length ≤ bigA then
      some ((([] : List Int) ++ s_1, ()), ())
    else
      none
  else
    both (
      some (([], ()), ())
    ) (
      if ([] : List Int).length + s_1.length ≤ bigA then
        some ((([] : List Int) ++ s_1, ()), ())
      else
        none
    )
theorem eq (s_1 : List Int) : F (s_1, ()) = T s_1 := eq_any fun k => by kernel_rfl
theorem ok : CtxOK prog ctx := ⟨nilM, mixed_ok, tab_ok tab_good, nilM, nilM, nilM⟩
theorem S : Sound prog ⟨88, sig, F⟩ := sound_k (res := [.tmp 2]) func88 ok
end slices_Clone_Lint64_int64
namespace impl_copyLists
noncomputable def sig : Sig := ⟨[.val false (.sl (.sl (.int .i64)))], [(.val false, (.sl (.sl (.int .i64))), .deep)]⟩
noncomputable def ctx : Ctx := ⟨tabOf tabl, [⟨88, slices_Clone_Lint64_int64.sig, slices_Clone_Lint64_int64.F⟩], [], [], [], []⟩
noncomputable def cfg : Cfg := ⟨ctx, [], [], fun id => match id with | 3 => ([3, 6, 7, 8], [12]) | _ => ([], []), fun _ => []⟩
noncomputable def code : Code := (f75).body.getD .skip
noncomputable def fin := finK ctx sig [.tmp 2]
noncomputable def F (d : List (List Int) × Unit) : Option ((List (List Int) × Unit) × (Unit)) := anyK (runFn cfg fin code (initSt sig.ps d 19))
noncomputable def l3 (k : Nat) (x2 : List (List Int)) (i3 : Int) (i4 : Int) (x5 : List (List Int)) : Option ((List (List Int) × Unit) × (Unit)) :=
  Go.Vm.runT cfg fin k [.inLoop (sub [1, 1, 0, 1, 0, 0] code), .inBlock 0, .code (sub [1, 1, 1] code)]
    ⟨[.dead, .dead, .dead, .view 12 (.root 0) 1 false, .dead, .dead, .val false [⟨(.sl (.sl (.int .i64))), .sh, x2⟩], .val false [⟨(.int .i64), .sh, i3⟩], .val false [⟨(.int .i64), .sh, i4⟩]] ++ deads 10, [(12, ⟨false, [⟨(.sl (.sl (.int .i64))), .deep, x5⟩]⟩)]⟩
theorem l3_eq (k : Nat) (x2 : List (List Int)) (i3 : Int) (i4 : Int) (x5 : List (List Int)) : l3 (k + 1) x2 i3 i4 x5 =
  if (decide (i4 < i3)) = true then
    if 0 ≤ i4 ∧ i4 < (x2.length : Int) then
      (slices_Clone_Lint64_int64.F (x2.getD i4.toNat ([] : List Int), ())).bind fun r6 =>
        if x5.length + ([r6.1.1] : List (List Int)).length ≤ bigA then
          l3 k x2 i3 (IntKind.i64.wrap (i4 + (1 : Int))) (x5 ++ ([r6.1.1]))
        else
          none
    else
      none
  else
    some ((x5, ()), ()) := by kernel_rfl
noncomputable def T (k : Nat) (lists_1 : List (List Int)) : Option ((List (List Int) × Unit) × (Unit)) :=
  l3 k lists_1 (lists_1.length : Int) (0 : Int) ([])
theorem of (lists_1 : List (List Int)) {r : (List (List Int) × Unit) × (Unit)} (h : Ev (fun k => T k lists_1) r) : F (lists_1, ()) = some r := Ev.run (fun k => by kernel_rfl) h
theorem ok : CtxOK prog ctx := ⟨nilM, mixed_ok, tab_ok tab_good, consM ⟨slices_Clone_Lint64_int64.S, nilM⟩, nilM, nilM⟩
theorem S : Sound prog ⟨75, sig, F⟩ := sound_k (res := [.tmp 2]) func75 ok
end impl_copyLists
namespace slices_SortFunc_LLint64_Lint64
noncomputable def sig : Sig := sortS
noncomputable def F (d : List (List Int) × ((List Int × List Int × Unit) → Option (Int × Unit)) × Unit) : Option ((Unit) × (List (List Int) × Unit)) := sortF ordS d
def ren : Go.Shelf.Ren := ⟨fun | 6 => 76 | 14 => 89 | 15 => 90 | 20 => 95 | 21 => 96 | 22 => 97 | 23 => 98 | 24 => 99 | 25 => 100 | 26 => 101 | 27 => 102 | 28 => 103 | 29 => 104 | 46 => 106 | 47 => 107 | 48 => 108 | 49 => 109 | 50 => 110 | 57 => 120 | n => n, fun | 0 => 0 | 3 => 3 | 4 => 4 | 5 => 5 | 9 => 9 | 22 => 22 | 24 => 31 | 25 => 55 | 39 => 86 | 45 => 92 | 46 => 93 | 50 => 72 | 53 => 99 | 55 => 101 | 66 => 103 | 70 => 107 | 76 => 115 | 77 => 116 | n => n, fun n => n⟩
theorem lays : Go.Proofs.SlLaysF.n6 prog ren where
  mixed := by kernel_rfl
  f6 := ⟨"slices.SortFunc[[][]int64,[]int64]", by decide, func76.trans (congrArg some (by kernel_rfl))⟩
  f14 := ⟨"slices.pdqsortCmpFunc[[]int64]", by decide, func89.trans (congrArg some (by kernel_rfl))⟩
  f15 := func90.trans (congrArg some (by kernel_rfl))
  f20 := ⟨"slices.insertionSortCmpFunc[[]int64]", by decide, func95.trans (congrArg some (by kernel_rfl))⟩
  f21 := ⟨"slices.heapSortCmpFunc[[]int64]", by decide, func96.trans (congrArg some (by kernel_rfl))⟩
  f22 := ⟨"slices.breakPatternsCmpFunc[[]int64]", by decide, func97.trans (congrArg some (by kernel_rfl))⟩
  f23 := ⟨"slices.choosePivotCmpFunc[[]int64]", by decide, func98.trans (congrArg some (by kernel_rfl))⟩
  f24 := ⟨"slices.reverseRangeCmpFunc[[]int64]", by decide, func99.trans (congrArg some (by kernel_rfl))⟩
  f25 := ⟨"slices.partialInsertionSortCmpFunc[[]int64]", by decide, func100.trans (congrArg some (by kernel_rfl))⟩
  f26 := ⟨"slices.partitionEqualCmpFunc[[]int64]", by decide, func101.trans (congrArg some (by kernel_rfl))⟩
  f27 := ⟨"slices.partitionCmpFunc[[]int64]", by decide, func102.trans (congrArg some (by kernel_rfl))⟩
  f28 := func103.trans (congrArg some (by kernel_rfl))
  f29 := func104.trans (congrArg some (by kernel_rfl))
  f46 := ⟨"slices.siftDownCmpFunc[[]int64]", by decide, func106.trans (congrArg some (by kernel_rfl))⟩
  f47 := func107.trans (congrArg some (by kernel_rfl))
  f48 := func108.trans (congrArg some (by kernel_rfl))
  f49 := ⟨"slices.medianAdjacentCmpFunc[[]int64]", by decide, func109.trans (congrArg some (by kernel_rfl))⟩
  f50 := ⟨"slices.medianCmpFunc[[]int64]", by decide, func110.trans (congrArg some (by kernel_rfl))⟩
  f57 := ⟨"slices.order2CmpFunc[[]int64]", by decide, func120.trans (congrArg some (by kernel_rfl))⟩
  t0 := underlying0
  a0 := isAgg0
  z0 := sizeOf0
  v0 := zeroValue0
  t3 := underlying3
  a3 := isAgg3
  z3 := sizeOf3
  v3 := zeroValue3
  t4 := underlying4
  a4 := isAgg4
  z4 := sizeOf4
  v4 := zeroValue4
  t5 := underlying5
  a5 := isAgg5
  z5 := sizeOf5
  v5 := zeroValue5
  t9 := underlying9
  a9 := isAgg9
  z9 := sizeOf9
  v9 := zeroValue9
  t22 := underlying22
  a22 := isAgg22
  z22 := sizeOf22
  v22 := zeroValue22
  a24 := isAgg31
  z24 := sizeOf31
  t25 := underlying55
  a25 := isAgg55
  z25 := sizeOf55
  v25 := zeroValue55
  t39 := underlying86
  a39 := isAgg86
  z39 := sizeOf86
  v39 := zeroValue86
  t45 := underlying92
  a45 := isAgg92
  z45 := sizeOf92
  v45 := zeroValue92
  t46 := underlying93
  a46 := isAgg93
  z46 := sizeOf93
  v46 := zeroValue93
  t50 := underlying72
  a50 := isAgg72
  z50 := sizeOf72
  v50 := zeroValue72
  t53 := underlying99
  a53 := isAgg99
  z53 := sizeOf99
  v53 := zeroValue99
  t55 := underlying101
  a55 := isAgg101
  z55 := sizeOf101
  v55 := zeroValue101
  t66 := underlying103
  a66 := isAgg103
  z66 := sizeOf103
  v66 := zeroValue103
  t70 := underlying107
  a70 := isAgg107
  z70 := sizeOf107
  v70 := zeroValue107
  t76 := underlying115
  a76 := isAgg115
  z76 := sizeOf115
  v76 := zeroValue115
  t77 := underlying116
  a77 := isAgg116
  z77 := sizeOf116
  v77 := zeroValue116
theorem S : Sound prog ⟨76, sig, F⟩ := sort_sound lays ordS_swo ordS_tot
end slices_SortFunc_LLint64_Lint64
namespace slices_CompactFunc_LLint64_Lint64
noncomputable def sig : Sig := compS
noncomputable def F (d : List (List Int) × ((List Int × List Int × Unit) → Option (Bool × Unit)) × Unit) : Option ((List (List Int) × Unit) × (Unit)) := compF d
theorem emp (p : Option Addr) (cap : Nat) (fv : Value) (w : World) : Calls prog 77 #[.slice p 0 cap, fv] w fun e w' => e = .returned (.slice p 0 cap) ∧ w' = w := by
  go_enter func77, ntmps77
  go_wp2
  go_ret
  exact ⟨rfl, rfl⟩
open Go.Proofs Go.Shelf Go.RowKit Go.Lib Go.Sort in
set_option maxHeartbeats 16000000 in
set_option maxRecDepth 1000000 in
theorem walk {α : Type} [Inhabited α] (enc : α → Value) (hO : OneCell enc) (eq : α → α → Bool) (zr : α) (hz : enc zr = .slice none 0 0) (g : Nat) (cb : Array Value) (eg : ∀ args w, (callFunc g args).run prog w = .ok (.enter g args) w)
    (blk off cap : Nat) (d : Array α) (w : World) (hcmp : EqLays1 prog g cb enc eq blk off d.size w) (hH : Holds enc w blk off d) (hblk : blk < w.heap.size) (hsz : d.size < 4611686018427387904) (hcap : d.size ≤ cap) (kp : Nat → Bool) (hkp0 : kp 0 = true) (hkp : ∀ j, 0 < j → kp j = !(eq d[j]! d[j - 1]!)) :
    Calls prog 77 #[.slice (some ⟨blk, off, none⟩) d.size cap, .func (.func g) #[] cb] w fun e w' => e = .returned (.slice (some ⟨blk, off, none⟩) (keptUpTo kp d d.size).length cap) ∧ SW enc w blk off (keptUpTo kp d d.size ++ List.replicate (d.size - (keptUpTo kp d d.size).length) zr).toArray w' := by
  have mixed : prog.follows .mixedOrders = true := mixed_ok
  have hcl0 := hO.cells
  simp only [Value.cells] at hcl0
  have hst := hO.store prog
  have R : Row1 enc w blk off d := ⟨hO, hH, hblk⟩
  have HC : Aside (EqLays1 prog g cb enc eq blk off d.size w) := hcmp
  have S0 : Aside (SW enc w blk off d w) := SW.start hH
  have same : ∀ W, SW enc w blk off d W → (∀ j, j < d.size → kp j = true) → (keptUpTo kp d d.size).length = d.size ∧ SW enc w blk off (keptUpTo kp d d.size ++ List.replicate (d.size - (keptUpTo kp d d.size).length) zr).toArray W := by
    intro W hW hall
    have e : keptUpTo kp d d.size = d.toList := by rw [keptUpTo_all kp d _ hall, range_map_get]
    rw [e]
    refine ⟨by simp, ?_⟩
    simpa using hW
  have HS : Aside _ := same
  have K0 : Aside (kp 0 = true) := hkp0
  have K1 : Aside (∀ j, 0 < j → kp j = !(eq d[j]! d[j - 1]!)) := hkp
  clear hcmp same hkp0 hkp hH
  by_cases h2 : d.size < 2
  · go_enter func77, ntmps77
    go_wp2
    go_ret
    obtain ⟨e1, e2⟩ := HS.out _ S0.out (fun j hj => by
      have : j = 0 := by omega
      rw [this]; exact K0.out)
    exact ⟨by rw [e1]; rfl, e2⟩
  · go_enter func77, ntmps77
    go_wp2
    go_loopg [5] d.size (fun g1 s5 wr => ∃ k : Nat, s5 = .int .i64 k ∧ 1 ≤ k ∧ k ≤ d.size ∧ d.size - k ≤ g1 ∧ Aside (SW enc w blk off d wr) ∧ Hid (∀ j, j < k → kp j = true))
    case atStart => exact ⟨1, rfl, Nat.le_refl _, by omega, by omega, S0, fun j hj => by
      have : j = 0 := by omega
      rw [this]; exact K0.out⟩
    case round =>
      clear S0
      obtain ⟨k, rfl, hk1, hk, hg1, S1, HA⟩ := hrel
      by_cases hlt : k < d.size
      · have hltz : (k : Int) < (d.size : Int) := by omega
        obtain ⟨kq, hkq⟩ : ∃ q, q + 1 = k := ⟨k - 1, by omega⟩
        have zk : (k : Int) = (kq : Int) + 1 := by omega
        obtain ⟨iN, hiN⟩ : ∃ q, q = k := ⟨_, rfl⟩
        obtain ⟨jN, hjN⟩ : ∃ q, q = k - 1 := ⟨_, rfl⟩
        have ea : ((kq : Int) + 1).toNat = iN := by omega
        have pa : (0 : Int) ≤ (kq : Int) + 1 := by omega
        have ba : (kq : Int) + 1 < (d.size : Int) := by omega
        have ra : IntKind.i64.wrap ((kq : Int) + 1) = (kq : Int) + 1 := by rw [IntKind.wrap_i64]; omega
        have ec : ((kq : Int)).toNat = jN := by omega
        have pc : (0 : Int) ≤ (kq : Int) := by omega
        have bc : (kq : Int) < (d.size : Int) := by omega
        have rc : IntKind.i64.wrap ((kq : Int)) = (kq : Int) := by rw [IntKind.wrap_i64]; omega
        obtain ⟨x, hx⟩ : ∃ x, x = d[k]! := ⟨_, rfl⟩
        obtain ⟨y, hy⟩ : ∃ x, x = d[k - 1]! := ⟨_, rfl⟩
        have la := S1.out.cl R rfl k (by omega)
        have lb := S1.out.cl R rfl (k - 1) (by omega)
        rw [← hx, ← hiN] at la
        rw [← hy, ← hjN] at lb
        have hc := sw_eql S1.out HC.out rfl x y
        have KK : Aside (kp k = !(eq x y)) := by rw [hx, hy]; exact K1.out k (by omega)
        clear hx hy hiN hjN
        cases hv : eq x y with
        | true =>
          rw [hv] at hc KK
          go_wp2_with fail
          go_quiet_grown (first | (go_at_fn g; refine Calls.grown_of (hc _ _)))
          have S2 : Aside (SW enc w blk off d (grow (wr.drewN nq) osq)) := S1.out.grown nq osq
          clear la lb hc S1
          generalize grow (wr.drewN nq) osq = w2 at S2 ⊢
          clear nq osq
          clear ea ec pa ba ra pc bc rc
          have hzk : (kq : Int) + 1 = (k : Int) := by omega
          clear zk hkq
          simp only [hzk]
          clear hzk
          go_wp2
          go_loopg [5, 7] d.size (fun g2 s5 s7 wr2 => ∃ (kk k2 : Nat) (dk : Array α), s5 = .int .i64 kk ∧ s7 = .int .i64 k2 ∧ 1 ≤ k2 ∧ k + k2 ≤ d.size ∧ d.size - (k + k2) ≤ g2 ∧ Aside (SW enc w blk off dk wr2) ∧ Aside (KeptInv kp d (k + k2) kk dk))
          case atStart => exact ⟨k, 1, d, rfl, rfl, Nat.le_refl _, by omega, by omega, S2, KeptInv.start HA.out (by rw [KK.out]; rfl)⟩
          case round =>
            clear S2 KK HA
            obtain ⟨kk, k2, dk, rfl, rfl, h1, hle, hg2, S3, I2⟩ := hrel
            have hkk := I2.out.lt
            have hds := I2.out.size
            by_cases hlt2 : k + k2 < d.size
            · obtain ⟨kq, hkq⟩ : ∃ q, q + 1 = k2 := ⟨k2 - 1, by omega⟩
              have zk : (k2 : Int) = (kq : Int) + 1 := by omega
              obtain ⟨iN, hiN⟩ : ∃ q, q = k2 := ⟨_, rfl⟩
              obtain ⟨jN, hjN⟩ : ∃ q, q = k2 - 1 := ⟨_, rfl⟩
              have ea : ((kq : Int) + 1).toNat = iN := by omega
              have pa : (0 : Int) ≤ (kq : Int) + 1 := by omega
              have ba : (kq : Int) + 1 < ((d.size - k : Nat) : Int) := by omega
              have ra : IntKind.i64.wrap ((kq : Int) + 1) = (kq : Int) + 1 := by rw [IntKind.wrap_i64]; omega
              have ec : ((kq : Int)).toNat = jN := by omega
              have pc : (0 : Int) ≤ (kq : Int) := by omega
              have bc : (kq : Int) < ((d.size - k : Nat) : Int) := by omega
              have rc : IntKind.i64.wrap ((kq : Int)) = (kq : Int) := by rw [IntKind.wrap_i64]; omega
              obtain ⟨x, hx⟩ : ∃ x, x = d[k + k2]! := ⟨_, rfl⟩
              obtain ⟨y, hy⟩ : ∃ x, x = d[k + k2 - 1]! := ⟨_, rfl⟩
              have la := S3.out.cl R hds (k + k2) (by omega)
              have lb := S3.out.cl R hds (k + k2 - 1) (by omega)
              rw [I2.out.high (k + k2) (by omega), ← hx, show off + (k + k2) = off + k + iN by omega] at la
              rw [I2.out.high (k + k2 - 1) (by omega), ← hy, show off + (k + k2 - 1) = off + k + jN by omega] at lb
              have hc := sw_eql S3.out HC.out hds x y
              have KK : Aside (kp (k + k2) = !(eq x y)) := by rw [hx, hy]; exact K1.out (k + k2) (by omega)
              have XX : Aside (x = d[k + k2]!) := hx
              clear hx hy hiN hjN
              cases hv : eq x y with
              | true =>
                rw [hv] at hc KK
                go_wp2_with fail
                go_quiet_grown (first | (go_at_fn g; refine Calls.grown_of (hc _ _)))
                have S2 : Aside (SW enc w blk off dk (grow (wr.drewN nq) osq)) := S3.out.grown nq osq
                clear la lb hc S3
                generalize grow (wr.drewN nq) osq = w2 at S2 ⊢
                clear nq osq
                clear ea ec
                go_wp2
                go_roundg (d.size - (k + (k2 + 1)))
                case measure => omega
                case rel => exact ⟨kk, k2 + 1, dk, rfl, by go_num, by omega, by omega, Nat.le_refl _, S2, I2.out.skip (by rw [KK.out]; rfl)⟩
              | false =>
                rw [hv] at hc KK
                go_wp2_with fail
                go_quiet_grown (first | (go_at_fn g; refine Calls.grown_of (hc _ _)))
                have S2 : Aside (SW enc w blk off dk (grow (wr.drewN nq) osq)) := S3.out.grown nq osq
                clear la lb hc S3
                generalize grow (wr.drewN nq) osq = w2 at S2 ⊢
                clear nq osq
                clear ea ec pa ba ra pc bc rc
                have hzk : (kq : Int) + 1 = (k2 : Int) := by omega
                clear zk hkq
                simp only [hzk]
                clear hzk
                have cm := S2.out.c1 R hds (k + k2) (by omega)
                have ck := S2.out.c1 R hds kk (by omega)
                have fk := S2.out.f1 R hds kk (by omega)
                rw [I2.out.high (k + k2) (by omega), ← XX.out, show off + (k + k2) = off + k + k2 by omega] at cm
                generalize dk[kk]! = old at ck
                have hlz : (k2 : Int) < ((d.size - k : Nat) : Int) := by omega
                go_wp2
                go_roundg (d.size - (k + (k2 + 1)))
                case measure => omega
                case rel => exact ⟨kk + 1, k2 + 1, dk.setIfInBounds kk x, by go_num, by go_num, by omega, by omega, Nat.le_refl _, sw_set S2.out hblk kk x (by omega), (by have := I2.out.keep hlt2 (by rw [KK.out]; rfl); rwa [← XX.out] at this)⟩
            · have hend : k + k2 = d.size := by omega
              have hcl : ∀ ty, (Builtin.clear_ #[22] ty #[.slice (some ⟨blk, off + kk, none⟩) (d.size - kk) (cap - kk)]).run prog wr = .ok (.tuple #[]) (wr.setCells blk (off + kk) (List.replicate (d.size - kk) (enc zr))) :=
                fun ty => Lib.run_clear_slice wr _ _ ty _ underlying22 (fun w => by rw [hz]; exact zeroValue31 w) (hO.cells zr) (hO zr) blk (off + kk) _ _ (by omega) (fun j hj => by rw [show off + kk + j = off + (kk + j) by omega, S3.out.c1 R hds (kk + j) (by omega)]; rfl) (fun j hj => by rw [show off + kk + j = off + (kk + j) by omega]; exact S3.out.f1 R hds (kk + j) (by omega))
              go_wp2
              go_ret
              have hI := I2.out
              rw [hend] at hI
              refine ⟨by rw [hI.len]; rfl, ?_⟩
              rw [hI.len, ← hI.done zr]
              have := sw_lay hblk (List.replicate (d.size - kk) zr) dk _ kk S3.out (by simp; omega)
              rw [List.map_replicate, hz] at this
              exact this
        | false =>
          rw [hv] at hc KK
          go_wp2_with fail
          go_quiet_grown (first | (go_at_fn g; refine Calls.grown_of (hc _ _)))
          have S2 : Aside (SW enc w blk off d (grow (wr.drewN nq) osq)) := S1.out.grown nq osq
          clear la lb hc S1
          generalize grow (wr.drewN nq) osq = w2 at S2 ⊢
          clear nq osq
          clear ea ec
          go_wp2
          go_roundg (d.size - (k + 1))
          case measure => omega
          case rel =>
            refine ⟨k + 1, by go_num, by omega, by omega, Nat.le_refl _, S2, fun j hj => ?_⟩
            by_cases e : j = k
            · subst e; exact KK.out
            · exact HA.out j (by omega)
      · have : k = d.size := by omega
        subst this
        go_wp2
        go_ret
        obtain ⟨e1, e2⟩ := HS.out _ S1.out HA.out
        exact ⟨by rw [e1]; rfl, e2⟩
theorem S : Sound prog ⟨77, sig, F⟩ := comp_sound ⟨⟨_, func77, by kernel_rfl, by kernel_rfl⟩, emp, walk⟩
end slices_CompactFunc_LLint64_Lint64
namespace slices_Equal_Lint64_int64
noncomputable def sig : Sig := ⟨[.val false (.sl (.int .i64)), .val false (.sl (.int .i64))], [(.val false, .bool, .deep)]⟩
noncomputable def ctx : Ctx := ⟨tabOf tabl, [], [], [], [], []⟩
noncomputable def cfg : Cfg := ⟨ctx, [], [], fun id => match id with | 4 => ([0, 1, 12, 13], []) | _ => ([], []), fun _ => []⟩
noncomputable def code : Code := (f74).body.getD .skip
noncomputable def fin := finK ctx sig [.tmp 4]
noncomputable def F (d : List Int × List Int × Unit) : Option ((Bool × Unit) × (Unit)) := anyK (runFn cfg fin code (initSt sig.ps d 26))
noncomputable def l4 (k : Nat) (x3 : List Int) (x4 : List Int) (i5 : Int) (i6 : Int) : Option ((Bool × Unit) × (Unit)) :=
  Go.Vm.runT cfg fin k [.inLoop (sub [1, 1, 0, 1, 0, 0] code), .inBlock 0, .code (sub [1, 1, 1] code)]
    ⟨[.val false [⟨(.sl (.int .i64)), .sh, x3⟩], .val false [⟨(.sl (.int .i64)), .sh, x4⟩], .dead, .dead, .dead, .dead, .dead, .dead, .dead, .dead, .dead, .dead, .val false [⟨(.int .i64), .sh, i5⟩], .val false [⟨(.int .i64), .sh, i6⟩]] ++ deads 12, []⟩
theorem l4_eq (k : Nat) (x3 : List Int) (x4 : List Int) (i5 : Int) (i6 : Int) : l4 (k + 1) x3 x4 i5 i6 =
  if (decide (i6 < i5)) = true then
    if 0 ≤ i6 ∧ i6 < (x3.length : Int) then
      if 0 ≤ i6 ∧ i6 < (x4.length : Int) then
        if ((x3.getD i6.toNat 0 : Int) != (x4.getD i6.toNat 0 : Int)) = true then
          some ((false, ()), ())
        else
          l4 k x3 x4 i5 (IntKind.i64.wrap (i6 + (1 : Int)))
      else
        none
    else
      none
  else
    some ((true, ()), ()) := by kernel_rfl
noncomputable def T (k : Nat) (s1_1 : List Int) (s2_2 : List Int) : Option ((Bool × Unit) × (Unit)) :=
  if ((s1_1.length : Int) != (s2_2.length : Int)) = true then
    some ((false, ()), ())
  else
    l4 k s1_1 s2_2 (s1_1.length : Int) (0 : Int)
theorem of (s1_1 : List Int) (s2_2 : List Int) {r : (Bool × Unit) × (Unit)} (h : Ev (fun k => T k s1_1 s2_2) r) : F (s1_1, s2_2, ()) = some r := Ev.run (fun k => by kernel_rfl) h
theorem ok : CtxOK prog ctx := ⟨nilM, mixed_ok, tab_ok tab_good, nilM, nilM, nilM⟩
theorem S : Sound prog ⟨74, sig, F⟩ := sound_k (res := [.tmp 4]) func74 ok
noncomputable def cloG (y : Unit) (d : List Int × List Int × Unit) : Option (Bool × Unit) := (F (joinIns [] [(false, (.sl (.int .i64))), (false, (.sl (.int .i64)))] d y)).map (·.1)
noncomputable def clo : Clo := ⟨74, ⟨[(false, (.sl (.int .i64))), (false, (.sl (.int .i64)))], [(.val false, .bool, .deep)]⟩, [], cloG⟩
theorem cloS : SoundClo prog clo := sound_clo (s := ⟨[(false, (.sl (.int .i64))), (false, (.sl (.int .i64)))], [(.val false, .bool, .deep)]⟩) (caps := []) rfl S
end slices_Equal_Lint64_int64
namespace impl_inOrder
noncomputable def sig : Sig := ⟨[.val false (.sl (.sl (.int .i64)))], [(.val true, (.sl (.sl (.int .i64))), .deep)]⟩
noncomputable def ctx : Ctx := ⟨tabOf tabl, [⟨75, impl_copyLists.sig, impl_copyLists.F⟩, ⟨76, slices_SortFunc_LLint64_Lint64.sig, slices_SortFunc_LLint64_Lint64.F⟩, ⟨77, slices_CompactFunc_LLint64_Lint64.sig, slices_CompactFunc_LLint64_Lint64.F⟩], [impl_compareSimplices.clo, slices_Equal_Lint64_int64.clo], [], [], []⟩
noncomputable def cfg : Cfg := ⟨ctx, [], [], fun _ => ([], []), fun _ => []⟩
noncomputable def code : Code := (f50).body.getD .skip
noncomputable def fin := finK ctx sig [.cell 2 27]
noncomputable def F (d : List (List Int) × Unit) : Option ((List (List Int) × Unit) × (Unit)) := anyK (runFn cfg fin code (initSt sig.ps d 11))
noncomputable def T (list_1 : List (List Int)) : Option ((List (List Int) × Unit) × (Unit)) :=
  (impl_copyLists.F (list_1, ())).bind fun r2 =>
    (slices_SortFunc_LLint64_Lint64.F (r2.1.1, impl_compareSimplices.cloG (()), ())).bind fun r3 =>
      (slices_CompactFunc_LLint64_Lint64.F (r3.2.1, slices_Equal_Lint64_int64.cloG (()), ())).bind fun r4 =>
        some ((r4.1.1, ()), ())
theorem eq (list_1 : List (List Int)) : F (list_1, ()) = T list_1 := eq_any fun k => by kernel_rfl
theorem ok : CtxOK prog ctx := ⟨nilM, mixed_ok, tab_ok tab_good, consM ⟨impl_copyLists.S, consM ⟨slices_SortFunc_LLint64_Lint64.S, consM ⟨slices_CompactFunc_LLint64_Lint64.S, nilM⟩⟩⟩, consM ⟨impl_compareSimplices.cloS, consM ⟨slices_Equal_Lint64_int64.cloS, nilM⟩⟩, nilM⟩
theorem S : Sound prog ⟨50, sig, F⟩ := sound_k (res := [.cell 2 27]) func50 ok
end impl_inOrder
namespace impl_chosenFrom
noncomputable def sig : Sig := ⟨[.val true (.sl (.sl (.int .i64))), .fnx ⟨[(false, (.sl (.int .i64)))], [(.val false, .bool, .deep)]⟩], [(.val true, (.sl (.sl (.int .i64))), .deep)]⟩
noncomputable def ctx : Ctx := ⟨tabOf tabl, [⟨50, impl_inOrder.sig, impl_inOrder.F⟩], [], [], [], []⟩
noncomputable def cfg : Cfg := ⟨ctx, [], [], fun id => match id with | 3 => ([1, 4, 5, 9, 10, 11], [16, 20]) | _ => ([], []), fun id => match id with | 3 => [20] | _ => []⟩
noncomputable def code : Code := (f55).body.getD .skip
noncomputable def fin := finK ctx sig [.cell 4 27]
noncomputable def F (d : List (List Int) × ((List Int × Unit) → Option (Bool × Unit)) × Unit) : Option ((List (List Int) × Unit) × (Unit)) := anyK (runFn cfg fin code (initSt sig.ps d 25))
noncomputable def l3 (k : Nat) (f3 : (List Int × Unit) → Option (Bool × Unit)) (x4 : List (List Int)) (i5 : Int) (i6 : Int) (x7 : List (List Int)) (x8 : List (List Int)) : Option ((List (List Int) × Unit) × (Unit)) :=
  Go.Vm.runT cfg fin k [.inLoop (sub [1, 1, 0, 1, 0, 0] code), .inBlock 0, .code (sub [1, 1, 1] code)]
    ⟨[.dead, .fnx ⟨[(false, (.sl (.int .i64)))], [(.val false, .bool, .deep)]⟩ f3, .dead, .dead, .ref 16 (.root 0), .view 20 (.root 0) 1 false, .dead, .dead, .dead, .val false [⟨(.sl (.sl (.int .i64))), .sh, x4⟩], .val false [⟨(.int .i64), .sh, i5⟩], .val false [⟨(.int .i64), .sh, i6⟩]] ++ deads 13, [(16, ⟨true, [⟨(.sl (.sl (.int .i64))), .deep, x7⟩]⟩), (20, ⟨false, [⟨(.sl (.sl (.int .i64))), .shal, x8⟩]⟩)]⟩
theorem l3_eq (k : Nat) (f3 : (List Int × Unit) → Option (Bool × Unit)) (x4 : List (List Int)) (i5 : Int) (i6 : Int) (x7 : List (List Int)) (x8 : List (List Int)) : l3 (k + 1) f3 x4 i5 i6 x7 x8 =
  if (decide (i6 < i5)) = true then
    if 0 ≤ i6 ∧ i6 < (x4.length : Int) then
      (f3 (x4.getD i6.toNat ([] : List Int), ())).bind fun r9 =>
        if (r9.1 : Bool) = true then
          if x8.length + ([x4.getD i6.toNat ([] : List Int)] : List (List Int)).length ≤ bigA then
            l3 k f3 x4 i5 (IntKind.i64.wrap (i6 + (1 : Int))) x7 (x8 ++ ([x4.getD i6.toNat ([] : List Int)]))
          else
            none
        else
          l3 k f3 x4 i5 (IntKind.i64.wrap (i6 + (1 : Int))) x7 x8
    else
      none
  else
    (impl_inOrder.F (x8, ())).bind fun r10 =>
      some ((r10.1.1, ()), ()) := by kernel_rfl
noncomputable def T (k : Nat) (c_1 : List (List Int)) (f_2 : (List Int × Unit) → Option (Bool × Unit)) : Option ((List (List Int) × Unit) × (Unit)) :=
  l3 k f_2 c_1 (c_1.length : Int) (0 : Int) ([] : List (List Int)) ([])
theorem of (c_1 : List (List Int)) (f_2 : (List Int × Unit) → Option (Bool × Unit)) {r : (List (List Int) × Unit) × (Unit)} (h : Ev (fun k => T k c_1 f_2) r) : F (c_1, f_2, ()) = some r := Ev.run (fun k => by kernel_rfl) h
theorem ok : CtxOK prog ctx := ⟨nilM, mixed_ok, tab_ok tab_good, consM ⟨impl_inOrder.S, nilM⟩, nilM, nilM⟩
theorem S : Sound prog ⟨55, sig, F⟩ := sound_k (res := [.cell 4 27]) func55 ok
end impl_chosenFrom
namespace impl_meet_1
noncomputable def sig : Sig := ⟨[.val false (.sl (.int .i64)), .rptr (.sl (.sl (.int .i64)))], [(.val false, .bool, .deep)]⟩
noncomputable def ctx : Ctx := ⟨tabOf tabl, [⟨48, impl_indexOf.sig, impl_indexOf.F⟩], [], [], [], []⟩
noncomputable def cfg : Cfg := ⟨ctx, [], [], fun _ => ([], []), fun _ => []⟩
noncomputable def code : Code := (f56).body.getD .skip
noncomputable def fin := finK ctx sig [.tmp 3]
noncomputable def F (d : List Int × List (List Int) × Unit) : Option ((Bool × Unit) × (Unit)) := anyK (runFn cfg fin code (initSt sig.ps d 8))
noncomputable def T (s_1 : List Int) (a_2 : List (List Int)) : Option ((Bool × Unit) × (Unit)) :=
  (impl_indexOf.F (a_2, s_1, ())).bind fun r3 =>
    some ((decide ((r3.1.1 : Int) ≥ (0 : Int)), ()), ())
theorem eq (s_1 : List Int) (a_2 : List (List Int)) : F (s_1, a_2, ()) = T s_1 a_2 := eq_any fun k => by kernel_rfl
theorem ok : CtxOK prog ctx := ⟨nilM, mixed_ok, tab_ok tab_good, consM ⟨impl_indexOf.S, nilM⟩, nilM, nilM⟩
theorem S : Sound prog ⟨56, sig, F⟩ := sound_k (res := [.tmp 3]) func56 ok
noncomputable def cloG (y : List (List Int) × Unit) (d : List Int × Unit) : Option (Bool × Unit) := (F (joinIns [.rptr (.sl (.sl (.int .i64)))] [(false, (.sl (.int .i64)))] d y)).map (·.1)
noncomputable def clo : Clo := ⟨56, ⟨[(false, (.sl (.int .i64)))], [(.val false, .bool, .deep)]⟩, [.rptr (.sl (.sl (.int .i64)))], cloG⟩
theorem cloS : SoundClo prog clo := sound_clo (s := ⟨[(false, (.sl (.int .i64)))], [(.val false, .bool, .deep)]⟩) (caps := [.rptr (.sl (.sl (.int .i64)))]) rfl S
end impl_meet_1
namespace impl_meet
noncomputable def sig : Sig := ⟨[.val true (.sl (.sl (.int .i64))), .val true (.sl (.sl (.int .i64)))], [(.val true, (.sl (.sl (.int .i64))), .deep)]⟩
noncomputable def ctx : Ctx := ⟨tabOf tabl, [⟨55, impl_chosenFrom.sig, impl_chosenFrom.F⟩], [impl_meet_1.clo], [], [], []⟩
noncomputable def cfg : Cfg := ⟨ctx, [], [], fun _ => ([], []), fun _ => []⟩
noncomputable def code : Code := (f33).body.getD .skip
noncomputable def fin := finK ctx sig [.cell 4 27]
noncomputable def F (d : List (List Int) × List (List Int) × Unit) : Option ((List (List Int) × Unit) × (Unit)) := anyK (runFn cfg fin code (initSt sig.ps d 8))
noncomputable def T (a_1 : List (List Int)) (b_2 : List (List Int)) : Option ((List (List Int) × Unit) × (Unit)) :=
  (impl_chosenFrom.F (a_1, impl_meet_1.cloG (b_2, ()), ())).bind fun r3 =>
    some ((r3.1.1, ()), ())
theorem eq (a_1 : List (List Int)) (b_2 : List (List Int)) : F (a_1, b_2, ()) = T a_1 b_2 := eq_any fun k => by kernel_rfl
theorem ok : CtxOK prog ctx := ⟨nilM, mixed_ok, tab_ok tab_good, consM ⟨impl_chosenFrom.S, nilM⟩, consM ⟨impl_meet_1.cloS, nilM⟩, nilM⟩
theorem S : Sound prog ⟨33, sig, F⟩ := sound_k (res := [.cell 4 27]) func33 ok
end impl_meet
namespace impl_MeetComplex
noncomputable def sig : Sig := ⟨[.val true (.sl (.sl (.int .i64))), .val true (.sl (.sl (.int .i64)))], [(.val true, (.sl (.sl (.int .i64))), .deep), (.val false, (.int .i64), .deep)]⟩
noncomputable def ctx : Ctx := ⟨tabOf tabl, [⟨26, impl_ValidComplex.sig, impl_ValidComplex.F⟩, ⟨33, impl_meet.sig, impl_meet.F⟩], [], [], [], []⟩
noncomputable def cfg : Cfg := ⟨ctx, [], [], fun _ => ([], []), fun _ => []⟩
noncomputable def code : Code := (f17).body.getD .skip
noncomputable def fin := finK ctx sig [.cell 4 27, .tmp 5]
noncomputable def F (d : List (List Int) × List (List Int) × Unit) : Option ((List (List Int) × Int × Unit) × (Unit)) := anyK (runFn cfg fin code (initSt sig.ps d 18))
noncomputable def T (a_1 : List (List Int)) (b_2 : List (List Int)) : Option ((List (List Int) × Int × Unit) × (Unit)) :=
  (impl_ValidComplex.F (a_1, ())).bind fun r3 =>
    if (!(r3.1.1 : Bool)) = true then
      some (([], ((1 : Int), ())), ())
    else
      (impl_ValidComplex.F (b_2, ())).bind fun r4 =>
        if (!(r4.1.1 : Bool)) = true then
          some (([], ((1 : Int), ())), ())
        else
          (impl_meet.F (a_1, b_2, ())).bind fun r5 =>
            some ((r5.1.1, ((0 : Int), ())), ())
theorem eq (a_1 : List (List Int)) (b_2 : List (List Int)) : F (a_1, b_2, ()) = T a_1 b_2 := eq_any fun k => by kernel_rfl
theorem ok : CtxOK prog ctx := ⟨nilM, mixed_ok, tab_ok tab_good, consM ⟨impl_ValidComplex.S, consM ⟨impl_meet.S, nilM⟩⟩, nilM, nilM⟩
theorem S : Sound prog ⟨17, sig, F⟩ := sound_k (res := [.cell 4 27, .tmp 5]) func17 ok
end impl_MeetComplex
namespace laws_markInt64S
noncomputable def sig : Sig := ⟨[.wr false (.sl (.int .i64)) .deep, .val false (.int .i64)], [(.val false, (.int .i64), .deep)]⟩
noncomputable def ctx : Ctx := ⟨tabOf tabl, [], [], [], [], []⟩
noncomputable def cfg : Cfg := ⟨ctx, [0], [], fun id => match id with | 2 => ([0, 1, 5], [0]) | _ => ([], []), fun _ => []⟩
noncomputable def code : Code := (f57).body.getD .skip
noncomputable def fin := finK ctx sig [.tmp 4]
noncomputable def F (d : List Int × Int × Unit) : Option ((Int × Unit) × (List Int × Unit)) := anyK (runFn cfg fin code (initSt sig.ps d 19))
noncomputable def l2 (k : Nat) (i3 : Int) (i4 : Int) (x5 : List Int) : Option ((Int × Unit) × (List Int × Unit)) :=
  Go.Vm.runT cfg fin k [.inLoop (sub [1, 0, 1, 0, 0] code), .inBlock 0, .code (sub [1, 1] code)]
    ⟨[.view 0 (.root 0) 1 false, .val false [⟨(.int .i64), .sh, i3⟩], .dead, .dead, .dead, .val false [⟨(.int .i64), .sh, i4⟩]] ++ deads 13, [(0, ⟨false, [⟨(.sl (.int .i64)), .deep, x5⟩]⟩)]⟩
theorem l2_eq (k : Nat) (i3 : Int) (i4 : Int) (x5 : List Int) : l2 (k + 1) i3 i4 x5 =
  if (decide (i4 < (x5.length : Int))) = true then
    if 0 ≤ i4 ∧ i4 < (x5.length : Int) then
      l2 k (IntKind.i64.wrap (i3 + (1 : Int))) (IntKind.i64.wrap (i4 + (1 : Int))) (x5.set i4.toNat i3)
    else
      none
  else
    some ((i3, ()), (x5, ())) := by kernel_rfl
noncomputable def T (k : Nat) (a_1 : List Int) (k_2 : Int) : Option ((Int × Unit) × (List Int × Unit)) :=
  l2 k k_2 (0 : Int) a_1
theorem of (a_1 : List Int) (k_2 : Int) {r : (Int × Unit) × (List Int × Unit)} (h : Ev (fun k => T k a_1 k_2) r) : F (a_1, k_2, ()) = some r := Ev.run (fun k => by kernel_rfl) h
theorem ok : CtxOK prog ctx := ⟨nilM, mixed_ok, tab_ok tab_good, nilM, nilM, nilM⟩
theorem S : Sound prog ⟨57, sig, F⟩ := sound_k (res := [.tmp 4]) func57 ok
end laws_markInt64S
namespace laws_markInt64SS
noncomputable def sig : Sig := ⟨[.wr false (.sl (.sl (.int .i64))) .deep, .val false (.int .i64)], [(.val false, (.int .i64), .deep)]⟩
noncomputable def ctx : Ctx := ⟨tabOf tabl, [⟨57, laws_markInt64S.sig, laws_markInt64S.F⟩], [], [], [], []⟩
noncomputable def cfg : Cfg := ⟨ctx, [0], [], fun id => match id with | 2 => ([0, 1, 5], [0]) | _ => ([], []), fun _ => []⟩
noncomputable def code : Code := (f34).body.getD .skip
noncomputable def fin := finK ctx sig [.tmp 4]
noncomputable def F (d : List (List Int) × Int × Unit) : Option ((Int × Unit) × (List (List Int) × Unit)) := anyK (runFn cfg fin code (initSt sig.ps d 19))
noncomputable def l2 (k : Nat) (i3 : Int) (i4 : Int) (x5 : List (List Int)) : Option ((Int × Unit) × (List (List Int) × Unit)) :=
  Go.Vm.runT cfg fin k [.inLoop (sub [1, 0, 1, 0, 0] code), .inBlock 0, .code (sub [1, 1] code)]
    ⟨[.view 0 (.root 0) 1 false, .val false [⟨(.int .i64), .sh, i3⟩], .dead, .dead, .dead, .val false [⟨(.int .i64), .sh, i4⟩]] ++ deads 13, [(0, ⟨false, [⟨(.sl (.sl (.int .i64))), .deep, x5⟩]⟩)]⟩
theorem l2_eq (k : Nat) (i3 : Int) (i4 : Int) (x5 : List (List Int)) : l2 (k + 1) i3 i4 x5 =
  if (decide (i4 < (x5.length : Int))) = true then
    if 0 ≤ i4 ∧ i4 < (x5.length : Int) then
      (laws_markInt64S.F (x5.getD i4.toNat ([] : List Int), i3, ())).bind fun r6 =>
        l2 k (r6.1.1 : Int) (IntKind.i64.wrap (i4 + (1 : Int))) (x5.set i4.toNat r6.2.1)
    else
      none
  else
    some ((i3, ()), (x5, ())) := by kernel_rfl
noncomputable def T (k : Nat) (a_1 : List (List Int)) (k_2 : Int) : Option ((Int × Unit) × (List (List Int) × Unit)) :=
  l2 k k_2 (0 : Int) a_1
theorem of (a_1 : List (List Int)) (k_2 : Int) {r : (Int × Unit) × (List (List Int) × Unit)} (h : Ev (fun k => T k a_1 k_2) r) : F (a_1, k_2, ()) = some r := Ev.run (fun k => by kernel_rfl) h
theorem ok : CtxOK prog ctx := ⟨nilM, mixed_ok, tab_ok tab_good, consM ⟨laws_markInt64S.S, nilM⟩, nilM, nilM⟩
theorem S : Sound prog ⟨34, sig, F⟩ := sound_k (res := [.tmp 4]) func34 ok
end laws_markInt64SS
namespace laws_markComplex
noncomputable def sig : Sig := ⟨[.wr true (.sl (.sl (.int .i64))) .deep, .val false (.int .i64)], [(.val false, (.int .i64), .deep)]⟩
noncomputable def ctx : Ctx := ⟨tabOf tabl, [⟨34, laws_markInt64SS.sig, laws_markInt64SS.F⟩], [], [], [], []⟩
noncomputable def cfg : Cfg := ⟨ctx, [0], [], fun _ => ([], []), fun _ => []⟩
noncomputable def code : Code := (f18).body.getD .skip
noncomputable def fin := finK ctx sig [.tmp 4]
noncomputable def F (d : List (List Int) × Int × Unit) : Option ((Int × Unit) × (List (List Int) × Unit)) := anyK (runFn cfg fin code (initSt sig.ps d 10))
noncomputable def T (a_1 : List (List Int)) (k_2 : Int) : Option ((Int × Unit) × (List (List Int) × Unit)) :=
  (laws_markInt64SS.F (a_1, k_2, ())).bind fun r3 =>
    some (((r3.1.1 : Int), ()), (r3.2.1, ()))
theorem eq (a_1 : List (List Int)) (k_2 : Int) : F (a_1, k_2, ()) = T a_1 k_2 := eq_any fun k => by kernel_rfl
theorem ok : CtxOK prog ctx := ⟨nilM, mixed_ok, tab_ok tab_good, consM ⟨laws_markInt64SS.S, nilM⟩, nilM, nilM⟩
theorem S : Sound prog ⟨18, sig, F⟩ := sound_k (res := [.tmp 4]) func18 ok
end laws_markComplex
namespace laws_heldInt64S
noncomputable def sig : Sig := ⟨[.val false (.sl (.int .i64)), .val false (.int .i64)], [(.val false, (.int .i64), .deep)]⟩
noncomputable def ctx : Ctx := ⟨tabOf tabl, [], [], [], [], []⟩
noncomputable def cfg : Cfg := ⟨ctx, [], [], fun id => match id with | 2 => ([0, 1, 5], []) | _ => ([], []), fun _ => []⟩
noncomputable def code : Code := (f58).body.getD .skip
noncomputable def fin := finK ctx sig [.tmp 4]
noncomputable def F (d : List Int × Int × Unit) : Option ((Int × Unit) × (Unit)) := anyK (runFn cfg fin code (initSt sig.ps d 21))
noncomputable def l2 (k : Nat) (x3 : List Int) (i4 : Int) (i5 : Int) : Option ((Int × Unit) × (Unit)) :=
  Go.Vm.runT cfg fin k [.inLoop (sub [1, 0, 1, 0, 0] code), .inBlock 0, .code (sub [1, 1] code)]
    ⟨[.val false [⟨(.sl (.int .i64)), .sh, x3⟩], .val false [⟨(.int .i64), .sh, i4⟩], .dead, .dead, .dead, .val false [⟨(.int .i64), .sh, i5⟩]] ++ deads 15, []⟩
theorem l2_eq (k : Nat) (x3 : List Int) (i4 : Int) (i5 : Int) : l2 (k + 1) x3 i4 i5 =
  if (decide (i5 < (x3.length : Int))) = true then
    if 0 ≤ i5 ∧ i5 < (x3.length : Int) then
      if ((x3.getD i5.toNat 0 : Int) != i4) = true then
        some (((-1 : Int), ()), ())
      else
        l2 k x3 (IntKind.i64.wrap (i4 + (1 : Int))) (IntKind.i64.wrap (i5 + (1 : Int)))
    else
      none
  else
    some ((i4, ()), ()) := by kernel_rfl
noncomputable def T (k : Nat) (a_1 : List Int) (k_2 : Int) : Option ((Int × Unit) × (Unit)) :=
  l2 k a_1 k_2 (0 : Int)
theorem of (a_1 : List Int) (k_2 : Int) {r : (Int × Unit) × (Unit)} (h : Ev (fun k => T k a_1 k_2) r) : F (a_1, k_2, ()) = some r := Ev.run (fun k => by kernel_rfl) h
theorem ok : CtxOK prog ctx := ⟨nilM, mixed_ok, tab_ok tab_good, nilM, nilM, nilM⟩
theorem S : Sound prog ⟨58, sig, F⟩ := sound_k (res := [.tmp 4]) func58 ok
end laws_heldInt64S
namespace laws_heldInt64SS
noncomputable def sig : Sig := ⟨[.val false (.sl (.sl (.int .i64))), .val false (.int .i64)], [(.val false, (.int .i64), .deep)]⟩
noncomputable def ctx : Ctx := ⟨tabOf tabl, [⟨58, laws_heldInt64S.sig, laws_heldInt64S.F⟩], [], [], [], []⟩
noncomputable def cfg : Cfg := ⟨ctx, [], [], fun id => match id with | 2 => ([0, 1, 5], []) | _ => ([], []), fun _ => []⟩
noncomputable def code : Code := (f35).body.getD .skip
noncomputable def fin := finK ctx sig [.tmp 4]
noncomputable def F (d : List (List Int) × Int × Unit) : Option ((Int × Unit) × (Unit)) := anyK (runFn cfg fin code (initSt sig.ps d 21))
noncomputable def l2 (k : Nat) (x3 : List (List Int)) (i4 : Int) (i5 : Int) : Option ((Int × Unit) × (Unit)) :=
  Go.Vm.runT cfg fin k [.inLoop (sub [1, 0, 1, 0, 0] code), .inBlock 0, .code (sub [1, 1] code)]
    ⟨[.val false [⟨(.sl (.sl (.int .i64))), .sh, x3⟩], .val false [⟨(.int .i64), .sh, i4⟩], .dead, .dead, .dead, .val false [⟨(.int .i64), .sh, i5⟩]] ++ deads 15, []⟩
theorem l2_eq (k : Nat) (x3 : List (List Int)) (i4 : Int) (i5 : Int) : l2 (k + 1) x3 i4 i5 =
  if (decide (i5 < (x3.length : Int))) = true then
    if 0 ≤ i5 ∧ i5 < (x3.length : Int) then
      (laws_heldInt64S.F (x3.getD i5.toNat ([] : List Int), i4, ())).bind fun r6 =>
        if (decide ((r6.1.1 : Int) < (0 : Int))) = true then
          some (((-1 : Int), ()), ())
        else
          l2 k x3 (r6.1.1 : Int) (IntKind.i64.wrap (i5 + (1 : Int)))
    else
      none
  else
    some ((i4, ()), ()) := by kernel_rfl
noncomputable def T (k : Nat) (a_1 : List (List Int)) (k_2 : Int) : Option ((Int × Unit) × (Unit)) :=
  l2 k a_1 k_2 (0 : Int)
theorem of (a_1 : List (List Int)) (k_2 : Int) {r : (Int × Unit) × (Unit)} (h : Ev (fun k => T k a_1 k_2) r) : F (a_1, k_2, ()) = some r := Ev.run (fun k => by kernel_rfl) h
theorem ok : CtxOK prog ctx := ⟨nilM, mixed_ok, tab_ok tab_good, consM ⟨laws_heldInt64S.S, nilM⟩, nilM, nilM⟩
theorem S : Sound prog ⟨35, sig, F⟩ := sound_k (res := [.tmp 4]) func35 ok
end laws_heldInt64SS
namespace laws_heldComplex
noncomputable def sig : Sig := ⟨[.val true (.sl (.sl (.int .i64))), .val false (.int .i64)], [(.val false, (.int .i64), .deep)]⟩
noncomputable def ctx : Ctx := ⟨tabOf tabl, [⟨35, laws_heldInt64SS.sig, laws_heldInt64SS.F⟩], [], [], [], []⟩
noncomputable def cfg : Cfg := ⟨ctx, [], [], fun _ => ([], []), fun _ => []⟩
noncomputable def code : Code := (f19).body.getD .skip
noncomputable def fin := finK ctx sig [.tmp 4]
noncomputable def F (d : List (List Int) × Int × Unit) : Option ((Int × Unit) × (Unit)) := anyK (runFn cfg fin code (initSt sig.ps d 12))
noncomputable def T (a_1 : List (List Int)) (k_2 : Int) : Option ((Int × Unit) × (Unit)) :=
  (laws_heldInt64SS.F (a_1, k_2, ())).bind fun r3 =>
    if (decide ((r3.1.1 : Int) < (0 : Int))) = true then
      some (((-1 : Int), ()), ())
    else
      some (((r3.1.1 : Int), ()), ())
theorem eq (a_1 : List (List Int)) (k_2 : Int) : F (a_1, k_2, ()) = T a_1 k_2 := eq_any fun k => by kernel_rfl
theorem ok : CtxOK prog ctx := ⟨nilM, mixed_ok, tab_ok tab_good, consM ⟨laws_heldInt64SS.S, nilM⟩, nilM, nilM⟩
theorem S : Sound prog ⟨19, sig, F⟩ := sound_k (res := [.tmp 4]) func19 ok
end laws_heldComplex
namespace laws_FnExactMeetComplex
noncomputable def sig : Sig := ⟨[.val true (.sl (.sl (.int .i64))), .val true (.sl (.sl (.int .i64)))], [(.val false, .bool, .deep)]⟩
noncomputable def ctx : Ctx := ⟨tabOf tabl, [⟨7, laws_szComplex.sig, laws_szComplex.F⟩, ⟨9, laws_toComplex.sig, laws_toComplex.F⟩, ⟨11, laws_eqComplex.sig, laws_eqComplex.F⟩, ⟨16, spec_MeetComplex.sig, spec_MeetComplex.F⟩, ⟨17, impl_MeetComplex.sig, impl_MeetComplex.F⟩, ⟨18, laws_markComplex.sig, laws_markComplex.F⟩, ⟨19, laws_heldComplex.sig, laws_heldComplex.F⟩], [], [], [], []⟩
noncomputable def cfg : Cfg := ⟨ctx, [], [], fun _ => ([], []), fun _ => []⟩
noncomputable def code : Code := (f5).body.getD .skip
noncomputable def fin := finK ctx sig [.tmp 4]
noncomputable def F (d : List (List Int) × List (List Int) × Unit) : Option ((Bool × Unit) × (Unit)) := anyK (runFn cfg fin code (initSt sig.ps d 119))
noncomputable def T (toArray_1 : List (List Int)) (a_2 : List (List Int)) : Option ((Bool × Unit) × (Unit)) :=
  (laws_szComplex.F (toArray_1, (1048576 : Int), ())).bind fun r3 =>
    if (decide ((r3.1.1 : Int) < (0 : Int))) = true then
      some ((true, ()), ())
    else
      (laws_szComplex.F (a_2, (r3.1.1 : Int), ())).bind fun r4 =>
        if (decide ((r4.1.1 : Int) < (0 : Int))) = true then
          some ((true, ()), ())
        else
          (laws_toComplex.F (toArray_1, ())).bind fun r5 =>
            (laws_toComplex.F (a_2, ())).bind fun r6 =>
              (spec_MeetComplex.F (r5.1.1, r6.1.1, ())).bind fun r7 =>
                (laws_toComplex.F (toArray_1, ())).bind fun r8 =>
                  (laws_toComplex.F (a_2, ())).bind fun r9 =>
                    (impl_MeetComplex.F (r8.1.1, r9.1.1, ())).bind fun r10 =>
                      (laws_eqComplex.F (r10.1.1, r7.1.1, ())).bind fun r11 =>
                        if (!(r11.1.1 : Bool)) = true then
                          some ((false, ()), ())
                        else
                          if ((r10.1.2.1 : Int) != (r7.1.2.1 : Int)) = true then
                            some ((false, ()), ())
                          else
                            (laws_toComplex.F (toArray_1, ())).bind fun r12 =>
                              (laws_eqComplex.F (r8.1.1, r12.1.1, ())).bind fun r13 =>
                                if (!(r13.1.1 : Bool)) = true then
                                  some ((false, ()), ())
                                else
                                  (laws_toComplex.F (a_2, ())).bind fun r14 =>
                                    (laws_eqComplex.F (r9.1.1, r14.1.1, ())).bind fun r15 =>
                                      if (!(r15.1.1 : Bool)) = true then
                                        some ((false, ()), ())
                                      else
                                        (laws_markComplex.F (r8.1.1, (1 : Int), ())).bind fun r16 =>
                                          (laws_markComplex.F (r9.1.1, (r16.1.1 : Int), ())).bind fun r17 =>
                                            if (decide ((r17.1.1 : Int) < (0 : Int))) = true then
                                              some ((false, ()), ())
                                            else
                                              (laws_eqComplex.F (r10.1.1, r7.1.1, ())).bind fun r18 =>
                                                if (!(r18.1.1 : Bool)) = true then
                                                  some ((false, ()), ())
                                                else
                                                  if ((r10.1.2.1 : Int) != (r7.1.2.1 : Int)) = true then
                                                    some ((false, ()), ())
                                                  else
                                                    (laws_markComplex.F (r10.1.1, (1 : Int), ())).bind fun r19 =>
                                                      (laws_heldComplex.F (r19.2.1, (1 : Int), ())).bind fun r20 =>
                                                        if (decide ((r20.1.1 : Int) < (0 : Int))) = true then
                                                          some ((false, ()), ())
                                                        else
                                                          if ((r20.1.1 : Int) != (r19.1.1 : Int)) = true then
                                                            some ((false, ()), ())
                                                          else
                                                            (laws_toComplex.F (toArray_1, ())).bind fun r21 =>
                                                              (laws_toComplex.F (a_2, ())).bind fun r22 =>
                                                                (impl_MeetComplex.F (r21.1.1, r22.1.1, ())).bind fun r23 =>
                                                                  (laws_eqComplex.F (r23.1.1, r7.1.1, ())).bind fun r24 =>
                                                                    if (!(r24.1.1 : Bool)) = true then
                                                                      some ((false, ()), ())
                                                                    else
                                                                      if ((r23.1.2.1 : Int) != (r7.1.2.1 : Int)) = true then
                                                                        some ((false, ()), ())
                                                                      else
                                                                        (laws_heldComplex.F (r19.2.1, (1 : Int), ())).bind fun r25 =>
                                                                          if (decide ((r25.1.1 : Int) < (0 : Int))) = true then
                                                                            some ((false, ()), ())
                                                                          else
                                                                            if ((r25.1.1 : Int) != (r19.1.1 : Int)) = true then
                                                                              some ((false, ()), ())
                                                                            else
                                                                              some ((true, ()), ())
theorem eq (toArray_1 : List (List Int)) (a_2 : List (List Int)) : F (toArray_1, a_2, ()) = T toArray_1 a_2 := eq_any fun k => by kernel_rfl
theorem ok : CtxOK prog ctx := ⟨nilM, mixed_ok, tab_ok tab_good, consM ⟨laws_szComplex.S, consM ⟨laws_toComplex.S, consM ⟨laws_eqComplex.S, consM ⟨spec_MeetComplex.S, consM ⟨impl_MeetComplex.S, consM ⟨laws_markComplex.S, consM ⟨laws_heldComplex.S, nilM⟩⟩⟩⟩⟩⟩⟩, nilM, nilM⟩
theorem S : Sound prog ⟨5, sig, F⟩ := sound_k (res := [.tmp 4]) func5 ok
end laws_FnExactMeetComplex
end Go.Proofs.Ytahkpjebkelmfaa
