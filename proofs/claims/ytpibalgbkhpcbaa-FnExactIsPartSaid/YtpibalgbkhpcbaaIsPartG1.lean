/- The functions, as the machine runs them. -/
import Derived.Test.YtpibalgbkhpcbaaVm3
import Derived.Test.YtpibalgbkhpcbaaProg
import Derived.KernelRfl
import Derived.WalkKit
import Derived.Lib.Walk
import Derived.Lib.AppendZeros
namespace Go.Proofs.Ytpibalgbkhpcbaa
open Go Go.Vm
set_option linter.unusedVariables false
set_option linter.unusedSimpArgs false
def tabl : List (Nat × TInfo) := [
  (2, ⟨false, (.int .i64), 0, []⟩),
  (3, ⟨false, (.int .i64), 0, []⟩),
  (4, ⟨false, .bool, 0, []⟩),
  (25, ⟨false, (.sl (.int .i64)), 2, []⟩),
  (37, ⟨false, (.sl (.sl (.int .i64))), 25, []⟩),
  (39, ⟨true, (.sl (.sl (.int .i64))), 0, [(0, 1, false)]⟩),
  (45, ⟨true, (.sl (.sl (.int .i64))), 0, [(0, 1, false)]⟩),
  (178, ⟨false, (.sl (.int .i64)), 3, []⟩),
  (181, ⟨false, (.int .u64), 0, []⟩)]
theorem tab_good : tabB Go.Proofs.Try.prog tabl = true := by kernel_rfl
theorem tab_open : openB Go.Proofs.Try.prog tabl = true := by kernel_rfl
theorem mixed_ok : Go.Proofs.Try.prog.follows .mixedOrders = true := by kernel_rfl
set_option maxHeartbeats 2000000 in
set_option maxRecDepth 100000 in
theorem slices_Grow_Lint64_int64.grow0 (w : World) : Calls Go.Proofs.Try.prog 183 #[.slice none 0 0, .int .i64 ((0 : Nat) : Int)] w fun e w' => e = .returned (.slice none 0 0) ∧ w' = w := by
  have h2 : Go.RowKit.wrap64 (((0 : Nat) : Int) - ((0 : Nat) : Int)) = 0 := by unfold Go.RowKit.wrap64; omega
  go_enter Go.Proofs.Try.func183, Go.Proofs.Try.ntmps183
  go_wp2
  go_ret
  exact ⟨rfl, rfl⟩
set_option maxHeartbeats 4000000 in
set_option maxRecDepth 100000 in
theorem slices_Grow_Lint64_int64.grow1 (w : World) (n : Nat) (h0 : 0 < n) (hn : n ≤ 1099511627776) (i : TypeInfo) (z : Value) (hi : Go.Proofs.Try.prog.info? 2 = some i) (hz : i.zero = some z) (hs : 0 < i.size) (hb : i.bytes ≤ 256) :
    Calls Go.Proofs.Try.prog 183 #[.slice none 0 0, .int .i64 (n : Int)] w fun e w' => ∃ G, n ≤ G ∧ G ≤ 9223372036854775807 ∧ e = .returned (.slice (some ⟨w.heap.size, 0, none⟩) 0 G) ∧ w' = w.drew.alloc (.cells (Builtin.zeroCells z.cells n ++ Builtin.zeroCells z.cells (G - n)) 2) := by
  have h1 : ¬ ((n : Int) < 0) := by omega
  have h2 : Go.RowKit.wrap64 (((0 : Nat) : Int) - ((0 : Nat) : Int)) = 0 := by unfold Go.RowKit.wrap64; omega
  have h3 : Go.RowKit.wrap64 ((n : Int) - 0) = (n : Int) := by unfold Go.RowKit.wrap64; omega
  have h4 : (n : Int) > 0 := by omega
  have hm : n * i.bytes ≤ 1099511627776 * 256 := Nat.mul_le_mul hn hb
  have hrz : ∀ ty, (Builtin.append_ #[25, 3] ty #[.slice none 0 0, .int .i64 (n : Int)]).run Go.Proofs.Try.prog w =
      .ok (.slice (some ⟨w.heap.size, 0, none⟩) n (grownCap w n 0 2)) (w.drew.alloc (.cells (Builtin.zeroCells z.cells n ++ Builtin.zeroCells z.cells (grownCap w n 0 2 - n)) 2)) := fun ty =>
    Lib.run_append_nil_zeros (P := Go.Proofs.Try.prog) w 25 3 ty 2 i z .i64 .i64 (by kernel_rfl) (by kernel_rfl) hi hz n h0 hs (by omega) (by omega)
  have hGn : n ≤ grownCap w n 0 2 := grownCap_ge w _ _ _
  obtain ⟨G, hG⟩ : ∃ G, G = grownCap w n 0 2 := ⟨_, rfl⟩
  have hG63 : G ≤ 9223372036854775807 := by
    have := grownCap_le_maxLen w n 0 2 (by unfold maxLen; omega)
    rw [← hG] at this
    unfold maxLen at this
    omega
  rw [← hG] at hrz hGn
  clear hG
  refine Calls.mono (R := fun e w' => e = .returned (.slice (some ⟨w.heap.size, 0, none⟩) 0 G) ∧ w' = w.drew.alloc (.cells (Builtin.zeroCells z.cells n ++ Builtin.zeroCells z.cells (G - n)) 2)) ?_ fun e w' h => ⟨G, hGn, hG63, h.1, h.2⟩
  clear hi hz hs hb hm
  go_enter Go.Proofs.Try.func183, Go.Proofs.Try.ntmps183
  go_wp2_with (at_builtin; refine Lib.wpList_append_run _ rfl _ _ _ _ rfl _ _ rfl rfl _ _ (hrz _) ?_)
  all_goals (go_ret; exact ⟨rfl, rfl⟩)
theorem slices_Grow_Lint64_int64.growOK : GrowOK Go.Proofs.Try.prog (183, (.int .i64)) := by
  have hT : tabOf tabl 2 = some ⟨false, (.int .i64), 0, []⟩ := by kernel_rfl
  obtain ⟨inf, h1, h2, h3, h4, h5⟩ := (tab_ok tab_good).info 2 _ hT
  exact growOK_of ⟨Go.Proofs.Try.f183, Go.Proofs.Try.func183, by kernel_rfl, by kernel_rfl⟩ (zero_size (tab_ok tab_good) hT) slices_Grow_Lint64_int64.grow0 fun w n a b => slices_Grow_Lint64_int64.grow1 w n a b inf _ h1 h5 (by rw [h2]; exact sz_pos _) h4
/-! ### laws_szInt64S -/
noncomputable def laws_szInt64S.sig : Sig := ⟨[.val false (.sl (.int .i64)), .val false (.int .i64)], [(.val false, (.int .i64), .deep)]⟩
noncomputable def laws_szInt64S.ctx : Ctx := ⟨tabOf tabl, [], [], [], []⟩
noncomputable def laws_szInt64S.cfg : Cfg := ⟨laws_szInt64S.ctx, [], [], fun _ => ([], []), fun _ => []⟩
noncomputable def laws_szInt64S.code : Code := (Go.Proofs.Try.f55).body.getD .skip
noncomputable def laws_szInt64S.fin := finK laws_szInt64S.ctx laws_szInt64S.sig [.tmp 4]
noncomputable def laws_szInt64S.F (d : List Int × Int × Unit) : Option ((Int × Unit) × (Unit)) := anyK (runFn laws_szInt64S.cfg laws_szInt64S.fin laws_szInt64S.code (initSt laws_szInt64S.sig.ps d 12))
noncomputable def laws_szInt64S.T (a_1 : List Int) (left_2 : Int) : Option ((Int × Unit) × (Unit)) :=
  if (decide ((IntKind.i64.wrap (left_2 - (a_1.length : Int))) < (0 : Int))) = true then
    some (((-1 : Int), ()), ())
  else
    some ((IntKind.i64.wrap (left_2 - (a_1.length : Int)), ()), ())
theorem laws_szInt64S.run (k : Nat) (a_1 : List Int) (left_2 : Int) : runFn laws_szInt64S.cfg laws_szInt64S.fin laws_szInt64S.code (initSt laws_szInt64S.sig.ps (a_1, left_2, ()) 12) k = laws_szInt64S.T a_1 left_2 := by kernel_rfl
theorem laws_szInt64S.eq (a_1 : List Int) (left_2 : Int) : laws_szInt64S.F (a_1, left_2, ()) = laws_szInt64S.T a_1 left_2 := (congrArg anyK (funext fun k => laws_szInt64S.run k a_1 left_2)).trans (anyK_const _)
theorem laws_szInt64S.ok : CtxOK Go.Proofs.Try.prog laws_szInt64S.ctx := ⟨List.forall_mem_nil _, mixed_ok, tab_ok tab_good, List.forall_mem_nil _, List.forall_mem_nil _, List.forall_mem_nil _⟩
theorem laws_szInt64S.S : Sound Go.Proofs.Try.prog ⟨55, laws_szInt64S.sig, laws_szInt64S.F⟩ := sound_any (fn := Go.Proofs.Try.f55) (code := laws_szInt64S.code) (g := laws_szInt64S.cfg) (res := [.tmp 4]) Go.Proofs.Try.func55 (by kernel_rfl) (by kernel_rfl) laws_szInt64S.ok (by kernel_rfl) (by kernel_rfl) (Nat.le_of_ble_eq_true (by kernel_rfl)) (by kernel_rfl)
/-! ### laws_szInt64SS -/
noncomputable def laws_szInt64SS.sig : Sig := ⟨[.val false (.sl (.sl (.int .i64))), .val false (.int .i64)], [(.val false, (.int .i64), .deep)]⟩
noncomputable def laws_szInt64SS.ctx : Ctx := ⟨tabOf tabl, [⟨55, laws_szInt64S.sig, laws_szInt64S.F⟩], [], [], []⟩
noncomputable def laws_szInt64SS.cfg : Cfg := ⟨laws_szInt64SS.ctx, [], [], fun id => match id with | 5 => ([0, 1, 5], []) | _ => ([], []), fun _ => []⟩
noncomputable def laws_szInt64SS.code : Code := (Go.Proofs.Try.f66).body.getD .skip
noncomputable def laws_szInt64SS.fin := finK laws_szInt64SS.ctx laws_szInt64SS.sig [.tmp 4]
noncomputable def laws_szInt64SS.F (d : List (List Int) × Int × Unit) : Option ((Int × Unit) × (Unit)) := anyK (runFn laws_szInt64SS.cfg laws_szInt64SS.fin laws_szInt64SS.code (initSt laws_szInt64SS.sig.ps d 27))
noncomputable def laws_szInt64SS.l5 (k : Nat) (x3 : List (List Int)) (i4 : Int) (i5 : Int) : Option ((Int × Unit) × (Unit)) :=
  Go.Vm.runT laws_szInt64SS.cfg laws_szInt64SS.fin k [.inLoop (sub [1, 1, 1, 0, 1, 0, 0] laws_szInt64SS.code), .inBlock 0, .code (sub [1, 1, 1, 1] laws_szInt64SS.code)]
    ⟨[.val false [⟨(.sl (.sl (.int .i64))), .sh, x3⟩], .val false [⟨(.int .i64), .sh, i4⟩], .dead, .dead, .dead, .val false [⟨(.int .i64), .sh, i5⟩]] ++ deads 21, []⟩
theorem laws_szInt64SS.l5_eq (k : Nat) (x3 : List (List Int)) (i4 : Int) (i5 : Int) : laws_szInt64SS.l5 (k + 1) x3 i4 i5 =
  if (decide (i5 < (x3.length : Int))) = true then
    if 0 ≤ i5 ∧ i5 < (x3.length : Int) then
      (laws_szInt64S.F (x3.getD i5.toNat ([] : List Int), i4, ())).bind fun r6 =>
        if (decide ((r6.1.1 : Int) < (0 : Int))) = true then
          some (((-1 : Int), ()), ())
        else
          laws_szInt64SS.l5 k x3 (r6.1.1 : Int) (IntKind.i64.wrap (i5 + (1 : Int)))
    else
      none
  else
    some ((i4, ()), ()) := by kernel_rfl
noncomputable def laws_szInt64SS.T (k : Nat) (a_1 : List (List Int)) (left_2 : Int) : Option ((Int × Unit) × (Unit)) :=
  if (decide ((IntKind.i64.wrap (left_2 - (a_1.length : Int))) < (0 : Int))) = true then
    some (((-1 : Int), ()), ())
  else
    laws_szInt64SS.l5 k a_1 (IntKind.i64.wrap (left_2 - (a_1.length : Int))) (0 : Int)
theorem laws_szInt64SS.run (k : Nat) (a_1 : List (List Int)) (left_2 : Int) : runFn laws_szInt64SS.cfg laws_szInt64SS.fin laws_szInt64SS.code (initSt laws_szInt64SS.sig.ps (a_1, left_2, ()) 27) k = laws_szInt64SS.T k a_1 left_2 := by kernel_rfl
theorem laws_szInt64SS.of (a_1 : List (List Int)) (left_2 : Int) {r : (Int × Unit) × (Unit)} (h : Ev (fun k => laws_szInt64SS.T k a_1 left_2) r) : laws_szInt64SS.F (a_1, left_2, ()) = some r := Ev.run (fun k => laws_szInt64SS.run k a_1 left_2) h
theorem laws_szInt64SS.ok : CtxOK Go.Proofs.Try.prog laws_szInt64SS.ctx := ⟨List.forall_mem_nil _, mixed_ok, tab_ok tab_good, List.forall_mem_cons.2 ⟨laws_szInt64S.S, List.forall_mem_nil _⟩, List.forall_mem_nil _, List.forall_mem_nil _⟩
theorem laws_szInt64SS.S : Sound Go.Proofs.Try.prog ⟨66, laws_szInt64SS.sig, laws_szInt64SS.F⟩ := sound_any (fn := Go.Proofs.Try.f66) (code := laws_szInt64SS.code) (g := laws_szInt64SS.cfg) (res := [.tmp 4]) Go.Proofs.Try.func66 (by kernel_rfl) (by kernel_rfl) laws_szInt64SS.ok (by kernel_rfl) (by kernel_rfl) (Nat.le_of_ble_eq_true (by kernel_rfl)) (by kernel_rfl)
/-! ### laws_szComplex -/
noncomputable def laws_szComplex.sig : Sig := ⟨[.val true (.sl (.sl (.int .i64))), .val false (.int .i64)], [(.val false, (.int .i64), .deep)]⟩
noncomputable def laws_szComplex.ctx : Ctx := ⟨tabOf tabl, [⟨66, laws_szInt64SS.sig, laws_szInt64SS.F⟩], [], [], []⟩
noncomputable def laws_szComplex.cfg : Cfg := ⟨laws_szComplex.ctx, [], [], fun _ => ([], []), fun _ => []⟩
noncomputable def laws_szComplex.code : Code := (Go.Proofs.Try.f29).body.getD .skip
noncomputable def laws_szComplex.fin := finK laws_szComplex.ctx laws_szComplex.sig [.tmp 4]
noncomputable def laws_szComplex.F (d : List (List Int) × Int × Unit) : Option ((Int × Unit) × (Unit)) := anyK (runFn laws_szComplex.cfg laws_szComplex.fin laws_szComplex.code (initSt laws_szComplex.sig.ps d 12))
noncomputable def laws_szComplex.T (a_1 : List (List Int)) (left_2 : Int) : Option ((Int × Unit) × (Unit)) :=
  (laws_szInt64SS.F (a_1, left_2, ())).bind fun r3 =>
    if (decide ((r3.1.1 : Int) < (0 : Int))) = true then
      some (((-1 : Int), ()), ())
    else
      some (((r3.1.1 : Int), ()), ())
theorem laws_szComplex.run (k : Nat) (a_1 : List (List Int)) (left_2 : Int) : runFn laws_szComplex.cfg laws_szComplex.fin laws_szComplex.code (initSt laws_szComplex.sig.ps (a_1, left_2, ()) 12) k = laws_szComplex.T a_1 left_2 := by kernel_rfl
theorem laws_szComplex.eq (a_1 : List (List Int)) (left_2 : Int) : laws_szComplex.F (a_1, left_2, ()) = laws_szComplex.T a_1 left_2 := (congrArg anyK (funext fun k => laws_szComplex.run k a_1 left_2)).trans (anyK_const _)
theorem laws_szComplex.ok : CtxOK Go.Proofs.Try.prog laws_szComplex.ctx := ⟨List.forall_mem_nil _, mixed_ok, tab_ok tab_good, List.forall_mem_cons.2 ⟨laws_szInt64SS.S, List.forall_mem_nil _⟩, List.forall_mem_nil _, List.forall_mem_nil _⟩
theorem laws_szComplex.S : Sound Go.Proofs.Try.prog ⟨29, laws_szComplex.sig, laws_szComplex.F⟩ := sound_any (fn := Go.Proofs.Try.f29) (code := laws_szComplex.code) (g := laws_szComplex.cfg) (res := [.tmp 4]) Go.Proofs.Try.func29 (by kernel_rfl) (by kernel_rfl) laws_szComplex.ok (by kernel_rfl) (by kernel_rfl) (Nat.le_of_ble_eq_true (by kernel_rfl)) (by kernel_rfl)
/-! ### spec_l00In -/
noncomputable def spec_l00In.sig : Sig := ⟨[.val false (.int .i64), .val false (.int .i64), .val false (.int .i64)], [(.val false, .bool, .deep)]⟩
noncomputable def spec_l00In.ctx : Ctx := ⟨tabOf tabl, [], [], [], []⟩
noncomputable def spec_l00In.cfg : Cfg := ⟨spec_l00In.ctx, [], [], fun _ => ([], []), fun _ => []⟩
noncomputable def spec_l00In.code : Code := (Go.Proofs.Try.f90).body.getD .skip
noncomputable def spec_l00In.fin := finK spec_l00In.ctx spec_l00In.sig [.tmp 6]
noncomputable def spec_l00In.F (d : Int × Int × Int × Unit) : Option ((Bool × Unit) × (Unit)) := anyK (runFn spec_l00In.cfg spec_l00In.fin spec_l00In.code (initSt spec_l00In.sig.ps d 15))
noncomputable def spec_l00In.T (n_1 : Int) (low_2 : Int) (high_3 : Int) : Option ((Bool × Unit) × (Unit)) :=
  if (decide (n_1 ≥ low_2)) = true then
    some ((decide (n_1 ≤ high_3), ()), ())
  else
    some ((false, ()), ())
theorem spec_l00In.run (k : Nat) (n_1 : Int) (low_2 : Int) (high_3 : Int) : runFn spec_l00In.cfg spec_l00In.fin spec_l00In.code (initSt spec_l00In.sig.ps (n_1, low_2, high_3, ()) 15) k = spec_l00In.T n_1 low_2 high_3 := by kernel_rfl
theorem spec_l00In.eq (n_1 : Int) (low_2 : Int) (high_3 : Int) : spec_l00In.F (n_1, low_2, high_3, ()) = spec_l00In.T n_1 low_2 high_3 := (congrArg anyK (funext fun k => spec_l00In.run k n_1 low_2 high_3)).trans (anyK_const _)
theorem spec_l00In.ok : CtxOK Go.Proofs.Try.prog spec_l00In.ctx := ⟨List.forall_mem_nil _, mixed_ok, tab_ok tab_good, List.forall_mem_nil _, List.forall_mem_nil _, List.forall_mem_nil _⟩
theorem spec_l00In.S : Sound Go.Proofs.Try.prog ⟨90, spec_l00In.sig, spec_l00In.F⟩ := sound_any (fn := Go.Proofs.Try.f90) (code := spec_l00In.code) (g := spec_l00In.cfg) (res := [.tmp 6]) Go.Proofs.Try.func90 (by kernel_rfl) (by kernel_rfl) spec_l00In.ok (by kernel_rfl) (by kernel_rfl) (Nat.le_of_ble_eq_true (by kernel_rfl)) (by kernel_rfl)
/-! ### spec_l00Rises -/
noncomputable def spec_l00Rises.sig : Sig := ⟨[.val false (.sl (.int .i64)), .val false (.int .i64), .val false (.int .i64)], [(.val false, .bool, .deep)]⟩
noncomputable def spec_l00Rises.ctx : Ctx := ⟨tabOf tabl, [⟨90, spec_l00In.sig, spec_l00In.F⟩], [], [], []⟩
noncomputable def spec_l00Rises.cfg : Cfg := ⟨spec_l00Rises.ctx, [], [], fun id => match id with | 2 => ([0, 1, 2, 7], []) | _ => ([], []), fun _ => []⟩
noncomputable def spec_l00Rises.code : Code := (Go.Proofs.Try.f91).body.getD .skip
noncomputable def spec_l00Rises.fin := finK spec_l00Rises.ctx spec_l00Rises.sig [.tmp 6]
noncomputable def spec_l00Rises.F (d : List Int × Int × Int × Unit) : Option ((Bool × Unit) × (Unit)) := anyK (runFn spec_l00Rises.cfg spec_l00Rises.fin spec_l00Rises.code (initSt spec_l00Rises.sig.ps d 38))
noncomputable def spec_l00Rises.l2 (k : Nat) (x4 : List Int) (i5 : Int) (i6 : Int) (i7 : Int) : Option ((Bool × Unit) × (Unit)) :=
  Go.Vm.runT spec_l00Rises.cfg spec_l00Rises.fin k [.inLoop (sub [1, 0, 1, 0, 0] spec_l00Rises.code), .inBlock 0, .code (sub [1, 1] spec_l00Rises.code)]
    ⟨[.val false [⟨(.sl (.int .i64)), .sh, x4⟩], .val false [⟨(.int .i64), .sh, i5⟩], .val false [⟨(.int .i64), .sh, i6⟩], .dead, .dead, .dead, .dead, .val false [⟨(.int .i64), .sh, i7⟩]] ++ deads 30, []⟩
theorem spec_l00Rises.l2_eq (k : Nat) (x4 : List Int) (i5 : Int) (i6 : Int) (i7 : Int) : spec_l00Rises.l2 (k + 1) x4 i5 i6 i7 =
  if (decide (i7 < (x4.length : Int))) = true then
    if 0 ≤ i7 ∧ i7 < (x4.length : Int) then
      (spec_l00In.F ((x4.getD i7.toNat 0 : Int), i5, i6, ())).bind fun r8 =>
        if (!(r8.1.1 : Bool)) = true then
          some ((false, ()), ())
        else
          if (decide (i7 > (0 : Int))) = true then
            if 0 ≤ (IntKind.i64.wrap (i7 - (1 : Int))) ∧ (IntKind.i64.wrap (i7 - (1 : Int))) < (x4.length : Int) then
              if 0 ≤ i7 ∧ i7 < (x4.length : Int) then
                if (decide ((x4.getD (IntKind.i64.wrap (i7 - (1 : Int))).toNat 0) ≥ (x4.getD i7.toNat 0 : Int))) = true then
                  some ((false, ()), ())
                else
                  spec_l00Rises.l2 k x4 i5 i6 (IntKind.i64.wrap (i7 + (1 : Int)))
              else
                none
            else
              none
          else
            spec_l00Rises.l2 k x4 i5 i6 (IntKind.i64.wrap (i7 + (1 : Int)))
    else
      none
  else
    some ((true, ()), ()) := by kernel_rfl
noncomputable def spec_l00Rises.T (k : Nat) (list_1 : List Int) (low_2 : Int) (high_3 : Int) : Option ((Bool × Unit) × (Unit)) :=
  spec_l00Rises.l2 k list_1 low_2 high_3 (0 : Int)
theorem spec_l00Rises.run (k : Nat) (list_1 : List Int) (low_2 : Int) (high_3 : Int) : runFn spec_l00Rises.cfg spec_l00Rises.fin spec_l00Rises.code (initSt spec_l00Rises.sig.ps (list_1, low_2, high_3, ()) 38) k = spec_l00Rises.T k list_1 low_2 high_3 := by kernel_rfl
theorem spec_l00Rises.of (list_1 : List Int) (low_2 : Int) (high_3 : Int) {r : (Bool × Unit) × (Unit)} (h : Ev (fun k => spec_l00Rises.T k list_1 low_2 high_3) r) : spec_l00Rises.F (list_1, low_2, high_3, ()) = some r := Ev.run (fun k => spec_l00Rises.run k list_1 low_2 high_3) h
theorem spec_l00Rises.ok : CtxOK Go.Proofs.Try.prog spec_l00Rises.ctx := ⟨List.forall_mem_nil _, mixed_ok, tab_ok tab_good, List.forall_mem_cons.2 ⟨spec_l00In.S, List.forall_mem_nil _⟩, List.forall_mem_nil _, List.forall_mem_nil _⟩
theorem spec_l00Rises.S : Sound Go.Proofs.Try.prog ⟨91, spec_l00Rises.sig, spec_l00Rises.F⟩ := sound_any (fn := Go.Proofs.Try.f91) (code := spec_l00Rises.code) (g := spec_l00Rises.cfg) (res := [.tmp 6]) Go.Proofs.Try.func91 (by kernel_rfl) (by kernel_rfl) spec_l00Rises.ok (by kernel_rfl) (by kernel_rfl) (Nat.le_of_ble_eq_true (by kernel_rfl)) (by kernel_rfl)
/-! ### spec_l05Simplex -/
noncomputable def spec_l05Simplex.sig : Sig := ⟨[.val false (.sl (.int .i64))], [(.val false, .bool, .deep)]⟩
noncomputable def spec_l05Simplex.ctx : Ctx := ⟨tabOf tabl, [⟨90, spec_l00In.sig, spec_l00In.F⟩, ⟨91, spec_l00Rises.sig, spec_l00Rises.F⟩], [], [], []⟩
noncomputable def spec_l05Simplex.cfg : Cfg := ⟨spec_l05Simplex.ctx, [], [], fun _ => ([], []), fun _ => []⟩
noncomputable def spec_l05Simplex.code : Code := (Go.Proofs.Try.f112).body.getD .skip
noncomputable def spec_l05Simplex.fin := finK spec_l05Simplex.ctx spec_l05Simplex.sig [.tmp 2]
noncomputable def spec_l05Simplex.F (d : List Int × Unit) : Option ((Bool × Unit) × (Unit)) := anyK (runFn spec_l05Simplex.cfg spec_l05Simplex.fin spec_l05Simplex.code (initSt spec_l05Simplex.sig.ps d 10))
noncomputable def spec_l05Simplex.T (s_1 : List Int) : Option ((Bool × Unit) × (Unit)) :=
  (spec_l00In.F ((s_1.length : Int), (1 : Int), (4 : Int), ())).bind fun r2 =>
    if (r2.1.1 : Bool) = true then
      (spec_l00Rises.F (s_1, (0 : Int), (9 : Int), ())).bind fun r3 =>
        some (((r3.1.1 : Bool), ()), ())
    else
      some ((false, ()), ())
theorem spec_l05Simplex.run (k : Nat) (s_1 : List Int) : runFn spec_l05Simplex.cfg spec_l05Simplex.fin spec_l05Simplex.code (initSt spec_l05Simplex.sig.ps (s_1, ()) 10) k = spec_l05Simplex.T s_1 := by kernel_rfl
theorem spec_l05Simplex.eq (s_1 : List Int) : spec_l05Simplex.F (s_1, ()) = spec_l05Simplex.T s_1 := (congrArg anyK (funext fun k => spec_l05Simplex.run k s_1)).trans (anyK_const _)
theorem spec_l05Simplex.ok : CtxOK Go.Proofs.Try.prog spec_l05Simplex.ctx := ⟨List.forall_mem_nil _, mixed_ok, tab_ok tab_good, List.forall_mem_cons.2 ⟨spec_l00In.S, List.forall_mem_cons.2 ⟨spec_l00Rises.S, List.forall_mem_nil _⟩⟩, List.forall_mem_nil _, List.forall_mem_nil _⟩
theorem spec_l05Simplex.S : Sound Go.Proofs.Try.prog ⟨112, spec_l05Simplex.sig, spec_l05Simplex.F⟩ := sound_any (fn := Go.Proofs.Try.f112) (code := spec_l05Simplex.code) (g := spec_l05Simplex.cfg) (res := [.tmp 2]) Go.Proofs.Try.func112 (by kernel_rfl) (by kernel_rfl) spec_l05Simplex.ok (by kernel_rfl) (by kernel_rfl) (Nat.le_of_ble_eq_true (by kernel_rfl)) (by kernel_rfl)
/-! ### spec_l05Before -/
noncomputable def spec_l05Before.sig : Sig := ⟨[.val false (.sl (.int .i64)), .val false (.sl (.int .i64))], [(.val false, .bool, .deep)]⟩
noncomputable def spec_l05Before.ctx : Ctx := ⟨tabOf tabl, [], [], [], []⟩
noncomputable def spec_l05Before.cfg : Cfg := ⟨spec_l05Before.ctx, [], [], fun id => match id with | 4 => ([0, 1, 5], []) | _ => ([], []), fun _ => []⟩
noncomputable def spec_l05Before.code : Code := (Go.Proofs.Try.f113).body.getD .skip
noncomputable def spec_l05Before.fin := finK spec_l05Before.ctx spec_l05Before.sig [.tmp 4]
noncomputable def spec_l05Before.F (d : List Int × List Int × Unit) : Option ((Bool × Unit) × (Unit)) := anyK (runFn spec_l05Before.cfg spec_l05Before.fin spec_l05Before.code (initSt spec_l05Before.sig.ps d 40))
noncomputable def spec_l05Before.l4 (k : Nat) (x3 : List Int) (x4 : List Int) (i5 : Int) : Option ((Bool × Unit) × (Unit)) :=
  Go.Vm.runT spec_l05Before.cfg spec_l05Before.fin k [.inLoop (sub [1, 1, 0, 1, 0, 0] spec_l05Before.code), .inBlock 0, .code (sub [1, 1, 1] spec_l05Before.code)]
    ⟨[.val false [⟨(.sl (.int .i64)), .sh, x3⟩], .val false [⟨(.sl (.int .i64)), .sh, x4⟩], .dead, .dead, .dead, .val false [⟨(.int .i64), .sh, i5⟩]] ++ deads 34, []⟩
theorem spec_l05Before.l4_eq (k : Nat) (x3 : List Int) (x4 : List Int) (i5 : Int) : spec_l05Before.l4 (k + 1) x3 x4 i5 =
  if (decide (i5 < (x3.length : Int))) = true then
    if 0 ≤ i5 ∧ i5 < (x3.length : Int) then
      if 0 ≤ i5 ∧ i5 < (x4.length : Int) then
        if ((x3.getD i5.toNat 0 : Int) != (x4.getD i5.toNat 0 : Int)) = true then
          if 0 ≤ i5 ∧ i5 < (x3.length : Int) then
            if 0 ≤ i5 ∧ i5 < (x4.length : Int) then
              some ((decide ((x3.getD i5.toNat 0 : Int) < (x4.getD i5.toNat 0 : Int)), ()), ())
            else
              none
          else
            none
        else
          spec_l05Before.l4 k x3 x4 (IntKind.i64.wrap (i5 + (1 : Int)))
      else
        none
    else
      none
  else
    some ((false, ()), ()) := by kernel_rfl
noncomputable def spec_l05Before.T (k : Nat) (a_1 : List Int) (b_2 : List Int) : Option ((Bool × Unit) × (Unit)) :=
  if ((a_1.length : Int) != (b_2.length : Int)) = true then
    some ((decide ((a_1.length : Int) < (b_2.length : Int)), ()), ())
  else
    spec_l05Before.l4 k a_1 b_2 (0 : Int)
theorem spec_l05Before.run (k : Nat) (a_1 : List Int) (b_2 : List Int) : runFn spec_l05Before.cfg spec_l05Before.fin spec_l05Before.code (initSt spec_l05Before.sig.ps (a_1, b_2, ()) 40) k = spec_l05Before.T k a_1 b_2 := by kernel_rfl
theorem spec_l05Before.of (a_1 : List Int) (b_2 : List Int) {r : (Bool × Unit) × (Unit)} (h : Ev (fun k => spec_l05Before.T k a_1 b_2) r) : spec_l05Before.F (a_1, b_2, ()) = some r := Ev.run (fun k => spec_l05Before.run k a_1 b_2) h
theorem spec_l05Before.ok : CtxOK Go.Proofs.Try.prog spec_l05Before.ctx := ⟨List.forall_mem_nil _, mixed_ok, tab_ok tab_good, List.forall_mem_nil _, List.forall_mem_nil _, List.forall_mem_nil _⟩
theorem spec_l05Before.S : Sound Go.Proofs.Try.prog ⟨113, spec_l05Before.sig, spec_l05Before.F⟩ := sound_any (fn := Go.Proofs.Try.f113) (code := spec_l05Before.code) (g := spec_l05Before.cfg) (res := [.tmp 4]) Go.Proofs.Try.func113 (by kernel_rfl) (by kernel_rfl) spec_l05Before.ok (by kernel_rfl) (by kernel_rfl) (Nat.le_of_ble_eq_true (by kernel_rfl)) (by kernel_rfl)
/-! ### spec_l00Same -/
noncomputable def spec_l00Same.sig : Sig := ⟨[.val false (.sl (.int .i64)), .val false (.sl (.int .i64))], [(.val false, .bool, .deep)]⟩
noncomputable def spec_l00Same.ctx : Ctx := ⟨tabOf tabl, [], [], [], []⟩
noncomputable def spec_l00Same.cfg : Cfg := ⟨spec_l00Same.ctx, [], [], fun id => match id with | 4 => ([0, 1, 5], []) | _ => ([], []), fun _ => []⟩
noncomputable def spec_l00Same.code : Code := (Go.Proofs.Try.f102).body.getD .skip
noncomputable def spec_l00Same.fin := finK spec_l00Same.ctx spec_l00Same.sig [.tmp 4]
noncomputable def spec_l00Same.F (d : List Int × List Int × Unit) : Option ((Bool × Unit) × (Unit)) := anyK (runFn spec_l00Same.cfg spec_l00Same.fin spec_l00Same.code (initSt spec_l00Same.sig.ps d 26))
noncomputable def spec_l00Same.l4 (k : Nat) (x3 : List Int) (x4 : List Int) (i5 : Int) : Option ((Bool × Unit) × (Unit)) :=
  Go.Vm.runT spec_l00Same.cfg spec_l00Same.fin k [.inLoop (sub [1, 1, 0, 1, 0, 0] spec_l00Same.code), .inBlock 0, .code (sub [1, 1, 1] spec_l00Same.code)]
    ⟨[.val false [⟨(.sl (.int .i64)), .sh, x3⟩], .val false [⟨(.sl (.int .i64)), .sh, x4⟩], .dead, .dead, .dead, .val false [⟨(.int .i64), .sh, i5⟩]] ++ deads 20, []⟩
theorem spec_l00Same.l4_eq (k : Nat) (x3 : List Int) (x4 : List Int) (i5 : Int) : spec_l00Same.l4 (k + 1) x3 x4 i5 =
  if (decide (i5 < (x3.length : Int))) = true then
    if 0 ≤ i5 ∧ i5 < (x3.length : Int) then
      if 0 ≤ i5 ∧ i5 < (x4.length : Int) then
        if ((x3.getD i5.toNat 0 : Int) != (x4.getD i5.toNat 0 : Int)) = true then
          some ((false, ()), ())
        else
          spec_l00Same.l4 k x3 x4 (IntKind.i64.wrap (i5 + (1 : Int)))
      else
        none
    else
      none
  else
    some ((true, ()), ()) := by kernel_rfl
noncomputable def spec_l00Same.T (k : Nat) (a_1 : List Int) (b_2 : List Int) : Option ((Bool × Unit) × (Unit)) :=
  if ((a_1.length : Int) != (b_2.length : Int)) = true then
    some ((false, ()), ())
  else
    spec_l00Same.l4 k a_1 b_2 (0 : Int)
theorem spec_l00Same.run (k : Nat) (a_1 : List Int) (b_2 : List Int) : runFn spec_l00Same.cfg spec_l00Same.fin spec_l00Same.code (initSt spec_l00Same.sig.ps (a_1, b_2, ()) 26) k = spec_l00Same.T k a_1 b_2 := by kernel_rfl
theorem spec_l00Same.of (a_1 : List Int) (b_2 : List Int) {r : (Bool × Unit) × (Unit)} (h : Ev (fun k => spec_l00Same.T k a_1 b_2) r) : spec_l00Same.F (a_1, b_2, ()) = some r := Ev.run (fun k => spec_l00Same.run k a_1 b_2) h
theorem spec_l00Same.ok : CtxOK Go.Proofs.Try.prog spec_l00Same.ctx := ⟨List.forall_mem_nil _, mixed_ok, tab_ok tab_good, List.forall_mem_nil _, List.forall_mem_nil _, List.forall_mem_nil _⟩
theorem spec_l00Same.S : Sound Go.Proofs.Try.prog ⟨102, spec_l00Same.sig, spec_l00Same.F⟩ := sound_any (fn := Go.Proofs.Try.f102) (code := spec_l00Same.code) (g := spec_l00Same.cfg) (res := [.tmp 4]) Go.Proofs.Try.func102 (by kernel_rfl) (by kernel_rfl) spec_l00Same.ok (by kernel_rfl) (by kernel_rfl) (Nat.le_of_ble_eq_true (by kernel_rfl)) (by kernel_rfl)
/-! ### spec_l05Find -/
noncomputable def spec_l05Find.sig : Sig := ⟨[.rptr (.sl (.sl (.int .i64))), .val false (.sl (.int .i64))], [(.val false, (.int .i64), .deep)]⟩
noncomputable def spec_l05Find.ctx : Ctx := ⟨tabOf tabl, [⟨102, spec_l00Same.sig, spec_l00Same.F⟩], [], [], []⟩
noncomputable def spec_l05Find.cfg : Cfg := ⟨spec_l05Find.ctx, [], [], fun id => match id with | 2 => ([0, 1, 5], []) | _ => ([], []), fun _ => []⟩
noncomputable def spec_l05Find.code : Code := (Go.Proofs.Try.f114).body.getD .skip
noncomputable def spec_l05Find.fin := finK spec_l05Find.ctx spec_l05Find.sig [.tmp 4]
noncomputable def spec_l05Find.F (d : List (List Int) × List Int × Unit) : Option ((Int × Unit) × (Unit)) := anyK (runFn spec_l05Find.cfg spec_l05Find.fin spec_l05Find.code (initSt spec_l05Find.sig.ps d 25))
noncomputable def spec_l05Find.l2 (k : Nat) (x3 : List (List Int)) (x4 : List Int) (i5 : Int) : Option ((Int × Unit) × (Unit)) :=
  Go.Vm.runT spec_l05Find.cfg spec_l05Find.fin k [.inLoop (sub [1, 0, 1, 0, 0] spec_l05Find.code), .inBlock 0, .code (sub [1, 1] spec_l05Find.code)]
    ⟨[.rptr [⟨(.sl (.sl (.int .i64))), .sh, x3⟩], .val false [⟨(.sl (.int .i64)), .sh, x4⟩], .dead, .dead, .dead, .val false [⟨(.int .i64), .sh, i5⟩]] ++ deads 19, []⟩
theorem spec_l05Find.l2_eq (k : Nat) (x3 : List (List Int)) (x4 : List Int) (i5 : Int) : spec_l05Find.l2 (k + 1) x3 x4 i5 =
  if (decide (i5 < (x3.length : Int))) = true then
    if 0 ≤ i5 ∧ i5 < (x3.length : Int) then
      (spec_l00Same.F (x3.getD i5.toNat ([] : List Int), x4, ())).bind fun r6 =>
        if (r6.1.1 : Bool) = true then
          some ((i5, ()), ())
        else
          spec_l05Find.l2 k x3 x4 (IntKind.i64.wrap (i5 + (1 : Int)))
    else
      none
  else
    some (((-1 : Int), ()), ()) := by kernel_rfl
noncomputable def spec_l05Find.T (k : Nat) (c_1 : List (List Int)) (s_2 : List Int) : Option ((Int × Unit) × (Unit)) :=
  spec_l05Find.l2 k c_1 s_2 (0 : Int)
theorem spec_l05Find.run (k : Nat) (c_1 : List (List Int)) (s_2 : List Int) : runFn spec_l05Find.cfg spec_l05Find.fin spec_l05Find.code (initSt spec_l05Find.sig.ps (c_1, s_2, ()) 25) k = spec_l05Find.T k c_1 s_2 := by kernel_rfl
theorem spec_l05Find.of (c_1 : List (List Int)) (s_2 : List Int) {r : (Int × Unit) × (Unit)} (h : Ev (fun k => spec_l05Find.T k c_1 s_2) r) : spec_l05Find.F (c_1, s_2, ()) = some r := Ev.run (fun k => spec_l05Find.run k c_1 s_2) h
theorem spec_l05Find.ok : CtxOK Go.Proofs.Try.prog spec_l05Find.ctx := ⟨List.forall_mem_nil _, mixed_ok, tab_ok tab_good, List.forall_mem_cons.2 ⟨spec_l00Same.S, List.forall_mem_nil _⟩, List.forall_mem_nil _, List.forall_mem_nil _⟩
theorem spec_l05Find.S : Sound Go.Proofs.Try.prog ⟨114, spec_l05Find.sig, spec_l05Find.F⟩ := sound_any (fn := Go.Proofs.Try.f114) (code := spec_l05Find.code) (g := spec_l05Find.cfg) (res := [.tmp 4]) Go.Proofs.Try.func114 (by kernel_rfl) (by kernel_rfl) spec_l05Find.ok (by kernel_rfl) (by kernel_rfl) (Nat.le_of_ble_eq_true (by kernel_rfl)) (by kernel_rfl)
/-! ### spec_l00Own -/
noncomputable def spec_l00Own.sig : Sig := ⟨[.val false (.sl (.int .i64))], [(.val false, (.sl (.int .i64)), .deep)]⟩
noncomputable def spec_l00Own.ctx : Ctx := ⟨tabOf tabl, [], [], [], []⟩
noncomputable def spec_l00Own.cfg : Cfg := ⟨spec_l00Own.ctx, [], [], fun _ => ([], []), fun _ => []⟩
noncomputable def spec_l00Own.code : Code := (Go.Proofs.Try.f88).body.getD .skip
noncomputable def spec_l00Own.fin := finK spec_l00Own.ctx spec_l00Own.sig [.tmp 2]
noncomputable def spec_l00Own.F (d : List Int × Unit) : Option ((List Int × Unit) × (Unit)) := anyK (runFn spec_l00Own.cfg spec_l00Own.fin spec_l00Own.code (initSt spec_l00Own.sig.ps d 6))
noncomputable def spec_l00Own.T (list_1 : List Int) : Option ((List Int × Unit) × (Unit)) :=
  if ([] : List Int).length + list_1.length ≤ bigA then
    some ((([] : List Int) ++ list_1, ()), ())
  else
    none
theorem spec_l00Own.run (k : Nat) (list_1 : List Int) : runFn spec_l00Own.cfg spec_l00Own.fin spec_l00Own.code (initSt spec_l00Own.sig.ps (list_1, ()) 6) k = spec_l00Own.T list_1 := by kernel_rfl
theorem spec_l00Own.eq (list_1 : List Int) : spec_l00Own.F (list_1, ()) = spec_l00Own.T list_1 := (congrArg anyK (funext fun k => spec_l00Own.run k list_1)).trans (anyK_const _)
theorem spec_l00Own.ok : CtxOK Go.Proofs.Try.prog spec_l00Own.ctx := ⟨List.forall_mem_nil _, mixed_ok, tab_ok tab_good, List.forall_mem_nil _, List.forall_mem_nil _, List.forall_mem_nil _⟩
theorem spec_l00Own.S : Sound Go.Proofs.Try.prog ⟨88, spec_l00Own.sig, spec_l00Own.F⟩ := sound_any (fn := Go.Proofs.Try.f88) (code := spec_l00Own.code) (g := spec_l00Own.cfg) (res := [.tmp 2]) Go.Proofs.Try.func88 (by kernel_rfl) (by kernel_rfl) spec_l00Own.ok (by kernel_rfl) (by kernel_rfl) (Nat.le_of_ble_eq_true (by kernel_rfl)) (by kernel_rfl)
/-! ### spec_l05Drop -/
noncomputable def spec_l05Drop.sig : Sig := ⟨[.val false (.sl (.int .i64)), .val false (.int .i64)], [(.val false, (.sl (.int .i64)), .deep)]⟩
noncomputable def spec_l05Drop.ctx : Ctx := ⟨tabOf tabl, [⟨88, spec_l00Own.sig, spec_l00Own.F⟩], [], [], []⟩
noncomputable def spec_l05Drop.cfg : Cfg := ⟨spec_l05Drop.ctx, [], [], fun _ => ([], []), fun _ => []⟩
noncomputable def spec_l05Drop.code : Code := (Go.Proofs.Try.f115).body.getD .skip
noncomputable def spec_l05Drop.fin := finK spec_l05Drop.ctx spec_l05Drop.sig [.tmp 4]
noncomputable def spec_l05Drop.F (d : List Int × Int × Unit) : Option ((List Int × Unit) × (Unit)) := anyK (runFn spec_l05Drop.cfg spec_l05Drop.fin spec_l05Drop.code (initSt spec_l05Drop.sig.ps d 16))
noncomputable def spec_l05Drop.T (s_1 : List Int) (k_2 : Int) : Option ((List Int × Unit) × (Unit)) :=
  if 0 ≤ (0 : Int) ∧ (0 : Int) ≤ k_2 ∧ k_2 ≤ (s_1.length : Int) then
    (spec_l00Own.F (cutL s_1 (0 : Int) k_2, ())).bind fun r3 =>
      if 0 ≤ (IntKind.i64.wrap (k_2 + (1 : Int))) ∧ (IntKind.i64.wrap (k_2 + (1 : Int))) ≤ (s_1.length : Int) ∧ (s_1.length : Int) ≤ (s_1.length : Int) then
        if r3.1.1.length + (cutL s_1 (IntKind.i64.wrap (k_2 + (1 : Int))) (s_1.length : Int)).length ≤ bigA then
          some ((r3.1.1 ++ (cutL s_1 (IntKind.i64.wrap (k_2 + (1 : Int))) (s_1.length : Int)), ()), ())
        else
          none
      else
        none
  else
    none
theorem spec_l05Drop.run (k : Nat) (s_1 : List Int) (k_2 : Int) : runFn spec_l05Drop.cfg spec_l05Drop.fin spec_l05Drop.code (initSt spec_l05Drop.sig.ps (s_1, k_2, ()) 16) k = spec_l05Drop.T s_1 k_2 := by kernel_rfl
theorem spec_l05Drop.eq (s_1 : List Int) (k_2 : Int) : spec_l05Drop.F (s_1, k_2, ()) = spec_l05Drop.T s_1 k_2 := (congrArg anyK (funext fun k => spec_l05Drop.run k s_1 k_2)).trans (anyK_const _)
theorem spec_l05Drop.ok : CtxOK Go.Proofs.Try.prog spec_l05Drop.ctx := ⟨List.forall_mem_nil _, mixed_ok, tab_ok tab_good, List.forall_mem_cons.2 ⟨spec_l00Own.S, List.forall_mem_nil _⟩, List.forall_mem_nil _, List.forall_mem_nil _⟩
theorem spec_l05Drop.S : Sound Go.Proofs.Try.prog ⟨115, spec_l05Drop.sig, spec_l05Drop.F⟩ := sound_any (fn := Go.Proofs.Try.f115) (code := spec_l05Drop.code) (g := spec_l05Drop.cfg) (res := [.tmp 4]) Go.Proofs.Try.func115 (by kernel_rfl) (by kernel_rfl) spec_l05Drop.ok (by kernel_rfl) (by kernel_rfl) (Nat.le_of_ble_eq_true (by kernel_rfl)) (by kernel_rfl)
/-! ### spec_l05Ok -/
noncomputable def spec_l05Ok.sig : Sig := ⟨[.rptr (.sl (.sl (.int .i64)))], [(.val false, .bool, .deep)]⟩
noncomputable def spec_l05Ok.ctx : Ctx := ⟨tabOf tabl, [⟨112, spec_l05Simplex.sig, spec_l05Simplex.F⟩, ⟨113, spec_l05Before.sig, spec_l05Before.F⟩, ⟨114, spec_l05Find.sig, spec_l05Find.F⟩, ⟨115, spec_l05Drop.sig, spec_l05Drop.F⟩], [], [], []⟩
noncomputable def spec_l05Ok.cfg : Cfg := ⟨spec_l05Ok.ctx, [], [], fun id => match id with | 4 => ([0, 3], []) | 10 => ([0, 3, 4, 5], []) | _ => ([], []), fun _ => []⟩
noncomputable def spec_l05Ok.code : Code := (Go.Proofs.Try.f67).body.getD .skip
noncomputable def spec_l05Ok.fin := finK spec_l05Ok.ctx spec_l05Ok.sig [.tmp 2]
noncomputable def spec_l05Ok.F (d : List (List Int) × Unit) : Option ((Bool × Unit) × (Unit)) := anyK (runFn spec_l05Ok.cfg spec_l05Ok.fin spec_l05Ok.code (initSt spec_l05Ok.sig.ps d 65))
noncomputable def spec_l05Ok.l4 (k : Nat) (x2 : List (List Int)) (i3 : Int) : Option ((Bool × Unit) × (Unit)) :=
  Go.Vm.runT spec_l05Ok.cfg spec_l05Ok.fin k [.inLoop (sub [1, 1, 0, 1, 0, 0] spec_l05Ok.code), .inBlock 0, .code (sub [1, 1, 1] spec_l05Ok.code)]
    ⟨[.rptr [⟨(.sl (.sl (.int .i64))), .sh, x2⟩], .dead, .dead, .val false [⟨(.int .i64), .sh, i3⟩]] ++ deads 61, []⟩
noncomputable def spec_l05Ok.l10 (k : Nat) (x6 : List (List Int)) (i7 : Int) (x8 : List Int) (i9 : Int) : Option ((Bool × Unit) × (Unit)) :=
  Go.Vm.runT spec_l05Ok.cfg spec_l05Ok.fin k [.inLoop (sub [1, 1, 0, 1, 0, 0, 1, 0, 0, 1, 1, 1, 0, 0] spec_l05Ok.code), .inBlock 2, .inBlock 1, .code (sub [1, 1, 0, 1, 0, 0, 1, 1] spec_l05Ok.code), .inLoop (sub [1, 1, 0, 1, 0, 0] spec_l05Ok.code), .inBlock 0, .code (sub [1, 1, 1] spec_l05Ok.code)]
    ⟨[.rptr [⟨(.sl (.sl (.int .i64))), .sh, x6⟩], .dead, .dead, .val false [⟨(.int .i64), .sh, i7⟩], .val false [⟨(.sl (.int .i64)), .sh, x8⟩], .val false [⟨(.int .i64), .sh, i9⟩]] ++ deads 59, []⟩
theorem spec_l05Ok.l4_eq (k : Nat) (x2 : List (List Int)) (i3 : Int) : spec_l05Ok.l4 (k + 1) x2 i3 =
  if (decide (i3 < (x2.length : Int))) = true then
    if 0 ≤ i3 ∧ i3 < (x2.length : Int) then
      (spec_l05Simplex.F (x2.getD i3.toNat ([] : List Int), ())).bind fun r4 =>
        if (!(r4.1.1 : Bool)) = true then
          some ((false, ()), ())
        else
          if (decide (i3 > (0 : Int))) = true then
            if 0 ≤ (IntKind.i64.wrap (i3 - (1 : Int))) ∧ (IntKind.i64.wrap (i3 - (1 : Int))) < (x2.length : Int) then
              (spec_l05Before.F (x2.getD (IntKind.i64.wrap (i3 - (1 : Int))).toNat ([] : List Int), x2.getD i3.toNat ([] : List Int), ())).bind fun r5 =>
                if (!(r5.1.1 : Bool)) = true then
                  some ((false, ()), ())
                else
                  spec_l05Ok.l10 k x2 i3 (x2.getD i3.toNat ([] : List Int)) (0 : Int)
            else
              none
          else
            spec_l05Ok.l10 k x2 i3 (x2.getD i3.toNat ([] : List Int)) (0 : Int)
    else
      none
  else
    some ((true, ()), ()) := by kernel_rfl
theorem spec_l05Ok.l10_eq (k : Nat) (x6 : List (List Int)) (i7 : Int) (x8 : List Int) (i9 : Int) : spec_l05Ok.l10 (k + 1) x6 i7 x8 i9 =
  if (decide (i9 < (x8.length : Int))) = true then
    if (decide ((x8.length : Int) > (1 : Int))) = true then
      (spec_l05Drop.F (x8, i9, ())).bind fun r10 =>
        (spec_l05Find.F (x6, r10.1.1, ())).bind fun r11 =>
          if (decide ((r11.1.1 : Int) < (0 : Int))) = true then
            some ((false, ()), ())
          else
            spec_l05Ok.l10 k x6 i7 x8 (IntKind.i64.wrap (i9 + (1 : Int)))
    else
      spec_l05Ok.l4 k x6 (IntKind.i64.wrap (i7 + (1 : Int)))
  else
    spec_l05Ok.l4 k x6 (IntKind.i64.wrap (i7 + (1 : Int))) := by kernel_rfl
noncomputable def spec_l05Ok.T (k : Nat) (toArray_1 : List (List Int)) : Option ((Bool × Unit) × (Unit)) :=
  if (decide ((toArray_1.length : Int) > (48 : Int))) = true then
    some ((false, ()), ())
  else
    spec_l05Ok.l4 k toArray_1 (0 : Int)
theorem spec_l05Ok.run (k : Nat) (toArray_1 : List (List Int)) : runFn spec_l05Ok.cfg spec_l05Ok.fin spec_l05Ok.code (initSt spec_l05Ok.sig.ps (toArray_1, ()) 65) k = spec_l05Ok.T k toArray_1 := by kernel_rfl
theorem spec_l05Ok.of (toArray_1 : List (List Int)) {r : (Bool × Unit) × (Unit)} (h : Ev (fun k => spec_l05Ok.T k toArray_1) r) : spec_l05Ok.F (toArray_1, ()) = some r := Ev.run (fun k => spec_l05Ok.run k toArray_1) h
theorem spec_l05Ok.ok : CtxOK Go.Proofs.Try.prog spec_l05Ok.ctx := ⟨List.forall_mem_nil _, mixed_ok, tab_ok tab_good, List.forall_mem_cons.2 ⟨spec_l05Simplex.S, List.forall_mem_cons.2 ⟨spec_l05Before.S, List.forall_mem_cons.2 ⟨spec_l05Find.S, List.forall_mem_cons.2 ⟨spec_l05Drop.S, List.forall_mem_nil _⟩⟩⟩⟩, List.forall_mem_nil _, List.forall_mem_nil _⟩
theorem spec_l05Ok.S : Sound Go.Proofs.Try.prog ⟨67, spec_l05Ok.sig, spec_l05Ok.F⟩ := sound_any (fn := Go.Proofs.Try.f67) (code := spec_l05Ok.code) (g := spec_l05Ok.cfg) (res := [.tmp 2]) Go.Proofs.Try.func67 (by kernel_rfl) (by kernel_rfl) spec_l05Ok.ok (by kernel_rfl) (by kernel_rfl) (Nat.le_of_ble_eq_true (by kernel_rfl)) (by kernel_rfl)
/-! ### spec_l13Part -/
noncomputable def spec_l13Part.sig : Sig := ⟨[.rptr (.sl (.sl (.int .i64))), .rptr (.sl (.sl (.int .i64)))], [(.val false, .bool, .deep)]⟩
noncomputable def spec_l13Part.ctx : Ctx := ⟨tabOf tabl, [⟨114, spec_l05Find.sig, spec_l05Find.F⟩], [], [], []⟩
noncomputable def spec_l13Part.cfg : Cfg := ⟨spec_l13Part.ctx, [], [], fun id => match id with | 2 => ([0, 1, 5], []) | _ => ([], []), fun _ => []⟩
noncomputable def spec_l13Part.code : Code := (Go.Proofs.Try.f68).body.getD .skip
noncomputable def spec_l13Part.fin := finK spec_l13Part.ctx spec_l13Part.sig [.tmp 4]
noncomputable def spec_l13Part.F (d : List (List Int) × List (List Int) × Unit) : Option ((Bool × Unit) × (Unit)) := anyK (runFn spec_l13Part.cfg spec_l13Part.fin spec_l13Part.code (initSt spec_l13Part.sig.ps d 25))
noncomputable def spec_l13Part.l2 (k : Nat) (x3 : List (List Int)) (x4 : List (List Int)) (i5 : Int) : Option ((Bool × Unit) × (Unit)) :=
  Go.Vm.runT spec_l13Part.cfg spec_l13Part.fin k [.inLoop (sub [1, 0, 1, 0, 0] spec_l13Part.code), .inBlock 0, .code (sub [1, 1] spec_l13Part.code)]
    ⟨[.rptr [⟨(.sl (.sl (.int .i64))), .sh, x3⟩], .rptr [⟨(.sl (.sl (.int .i64))), .sh, x4⟩], .dead, .dead, .dead, .val false [⟨(.int .i64), .sh, i5⟩]] ++ deads 19, []⟩
theorem spec_l13Part.l2_eq (k : Nat) (x3 : List (List Int)) (x4 : List (List Int)) (i5 : Int) : spec_l13Part.l2 (k + 1) x3 x4 i5 =
  if (decide (i5 < (x3.length : Int))) = true then
    if 0 ≤ i5 ∧ i5 < (x3.length : Int) then
      (spec_l05Find.F (x4, x3.getD i5.toNat ([] : List Int), ())).bind fun r6 =>
        if (decide ((r6.1.1 : Int) < (0 : Int))) = true then
          some ((false, ()), ())
        else
          spec_l13Part.l2 k x3 x4 (IntKind.i64.wrap (i5 + (1 : Int)))
    else
      none
  else
    some ((true, ()), ()) := by kernel_rfl
noncomputable def spec_l13Part.T (k : Nat) (part_1 : List (List Int)) (c_2 : List (List Int)) : Option ((Bool × Unit) × (Unit)) :=
  spec_l13Part.l2 k part_1 c_2 (0 : Int)
theorem spec_l13Part.run (k : Nat) (part_1 : List (List Int)) (c_2 : List (List Int)) : runFn spec_l13Part.cfg spec_l13Part.fin spec_l13Part.code (initSt spec_l13Part.sig.ps (part_1, c_2, ()) 25) k = spec_l13Part.T k part_1 c_2 := by kernel_rfl
theorem spec_l13Part.of (part_1 : List (List Int)) (c_2 : List (List Int)) {r : (Bool × Unit) × (Unit)} (h : Ev (fun k => spec_l13Part.T k part_1 c_2) r) : spec_l13Part.F (part_1, c_2, ()) = some r := Ev.run (fun k => spec_l13Part.run k part_1 c_2) h
theorem spec_l13Part.ok : CtxOK Go.Proofs.Try.prog spec_l13Part.ctx := ⟨List.forall_mem_nil _, mixed_ok, tab_ok tab_good, List.forall_mem_cons.2 ⟨spec_l05Find.S, List.forall_mem_nil _⟩, List.forall_mem_nil _, List.forall_mem_nil _⟩
theorem spec_l13Part.S : Sound Go.Proofs.Try.prog ⟨68, spec_l13Part.sig, spec_l13Part.F⟩ := sound_any (fn := Go.Proofs.Try.f68) (code := spec_l13Part.code) (g := spec_l13Part.cfg) (res := [.tmp 4]) Go.Proofs.Try.func68 (by kernel_rfl) (by kernel_rfl) spec_l13Part.ok (by kernel_rfl) (by kernel_rfl) (Nat.le_of_ble_eq_true (by kernel_rfl)) (by kernel_rfl)
/-! ### spec_IsPart -/
noncomputable def spec_IsPart.sig : Sig := ⟨[.val true (.sl (.sl (.int .i64))), .val true (.sl (.sl (.int .i64)))], [(.val false, .bool, .deep)]⟩
noncomputable def spec_IsPart.ctx : Ctx := ⟨tabOf tabl, [⟨67, spec_l05Ok.sig, spec_l05Ok.F⟩, ⟨68, spec_l13Part.sig, spec_l13Part.F⟩], [], [], []⟩
noncomputable def spec_IsPart.cfg : Cfg := ⟨spec_IsPart.ctx, [], [], fun _ => ([], []), fun _ => []⟩
noncomputable def spec_IsPart.code : Code := (Go.Proofs.Try.f30).body.getD .skip
noncomputable def spec_IsPart.fin := finK spec_IsPart.ctx spec_IsPart.sig [.tmp 4]
noncomputable def spec_IsPart.F (d : List (List Int) × List (List Int) × Unit) : Option ((Bool × Unit) × (Unit)) := anyK (runFn spec_IsPart.cfg spec_IsPart.fin spec_IsPart.code (initSt spec_IsPart.sig.ps d 12))
noncomputable def spec_IsPart.T (part_1 : List (List Int)) (c_2 : List (List Int)) : Option ((Bool × Unit) × (Unit)) :=
  (spec_l05Ok.F (part_1, ())).bind fun r3 =>
    if (r3.1.1 : Bool) = true then
      (spec_l05Ok.F (c_2, ())).bind fun r4 =>
        if (r4.1.1 : Bool) = true then
          (spec_l13Part.F (part_1, c_2, ())).bind fun r5 =>
            some (((r5.1.1 : Bool), ()), ())
        else
          some ((false, ()), ())
    else
      some ((false, ()), ())
theorem spec_IsPart.run (k : Nat) (part_1 : List (List Int)) (c_2 : List (List Int)) : runFn spec_IsPart.cfg spec_IsPart.fin spec_IsPart.code (initSt spec_IsPart.sig.ps (part_1, c_2, ()) 12) k = spec_IsPart.T part_1 c_2 := by kernel_rfl
theorem spec_IsPart.eq (part_1 : List (List Int)) (c_2 : List (List Int)) : spec_IsPart.F (part_1, c_2, ()) = spec_IsPart.T part_1 c_2 := (congrArg anyK (funext fun k => spec_IsPart.run k part_1 c_2)).trans (anyK_const _)
theorem spec_IsPart.ok : CtxOK Go.Proofs.Try.prog spec_IsPart.ctx := ⟨List.forall_mem_nil _, mixed_ok, tab_ok tab_good, List.forall_mem_cons.2 ⟨spec_l05Ok.S, List.forall_mem_cons.2 ⟨spec_l13Part.S, List.forall_mem_nil _⟩⟩, List.forall_mem_nil _, List.forall_mem_nil _⟩
theorem spec_IsPart.S : Sound Go.Proofs.Try.prog ⟨30, spec_IsPart.sig, spec_IsPart.F⟩ := sound_any (fn := Go.Proofs.Try.f30) (code := spec_IsPart.code) (g := spec_IsPart.cfg) (res := [.tmp 4]) Go.Proofs.Try.func30 (by kernel_rfl) (by kernel_rfl) spec_IsPart.ok (by kernel_rfl) (by kernel_rfl) (Nat.le_of_ble_eq_true (by kernel_rfl)) (by kernel_rfl)
/-! ### laws_toInt64S -/
noncomputable def laws_toInt64S.sig : Sig := ⟨[.val false (.sl (.int .i64))], [(.val false, (.sl (.int .i64)), .deep)]⟩
noncomputable def laws_toInt64S.ctx : Ctx := ⟨tabOf tabl, [], [], [], []⟩
noncomputable def laws_toInt64S.cfg : Cfg := ⟨laws_toInt64S.ctx, [], [], fun id => match id with | 3 => ([0, 3, 4], [12]) | _ => ([], []), fun _ => []⟩
noncomputable def laws_toInt64S.code : Code := (Go.Proofs.Try.f15).body.getD .skip
noncomputable def laws_toInt64S.fin := finK laws_toInt64S.ctx laws_toInt64S.sig [.tmp 2]
noncomputable def laws_toInt64S.F (d : List Int × Unit) : Option ((List Int × Unit) × (Unit)) := anyK (runFn laws_toInt64S.cfg laws_toInt64S.fin laws_toInt64S.code (initSt laws_toInt64S.sig.ps d 22))
noncomputable def laws_toInt64S.l3 (k : Nat) (x2 : List Int) (i3 : Int) (x4 : List Int) : Option ((List Int × Unit) × (Unit)) :=
  Go.Vm.runT laws_toInt64S.cfg laws_toInt64S.fin k [.inLoop (sub [1, 1, 0, 1, 0, 0] laws_toInt64S.code), .inBlock 0, .code (sub [1, 1, 1] laws_toInt64S.code)]
    ⟨[.val false [⟨(.sl (.int .i64)), .sh, x2⟩], .dead, .dead, .view 12 (.root 0) 1 false, .val false [⟨(.int .i64), .sh, i3⟩]] ++ deads 17, [(12, ⟨false, [⟨(.sl (.int .i64)), .deep, x4⟩]⟩)]⟩
theorem laws_toInt64S.l3_eq (k : Nat) (x2 : List Int) (i3 : Int) (x4 : List Int) : laws_toInt64S.l3 (k + 1) x2 i3 x4 =
  if (decide (i3 < (x2.length : Int))) = true then
    if 0 ≤ i3 ∧ i3 < (x2.length : Int) then
      if 0 ≤ i3 ∧ i3 < (x4.length : Int) then
        laws_toInt64S.l3 k x2 (IntKind.i64.wrap (i3 + (1 : Int))) (x4.set i3.toNat (x2.getD i3.toNat 0 : Int))
      else
        none
    else
      none
  else
    some ((x4, ()), ()) := by kernel_rfl
noncomputable def laws_toInt64S.T (k : Nat) (a_1 : List Int) : Option ((List Int × Unit) × (Unit)) :=
  if 0 ≤ (a_1.length : Int) ∧ (a_1.length : Int) ≤ (bigN : Int) then
    laws_toInt64S.l3 k a_1 (0 : Int) (List.replicate (a_1.length : Int).toNat 0)
  else
    none
theorem laws_toInt64S.run (k : Nat) (a_1 : List Int) : runFn laws_toInt64S.cfg laws_toInt64S.fin laws_toInt64S.code (initSt laws_toInt64S.sig.ps (a_1, ()) 22) k = laws_toInt64S.T k a_1 := by kernel_rfl
theorem laws_toInt64S.of (a_1 : List Int) {r : (List Int × Unit) × (Unit)} (h : Ev (fun k => laws_toInt64S.T k a_1) r) : laws_toInt64S.F (a_1, ()) = some r := Ev.run (fun k => laws_toInt64S.run k a_1) h
theorem laws_toInt64S.ok : CtxOK Go.Proofs.Try.prog laws_toInt64S.ctx := ⟨List.forall_mem_nil _, mixed_ok, tab_ok tab_good, List.forall_mem_nil _, List.forall_mem_nil _, List.forall_mem_nil _⟩
theorem laws_toInt64S.S : Sound Go.Proofs.Try.prog ⟨15, laws_toInt64S.sig, laws_toInt64S.F⟩ := sound_any (fn := Go.Proofs.Try.f15) (code := laws_toInt64S.code) (g := laws_toInt64S.cfg) (res := [.tmp 2]) Go.Proofs.Try.func15 (by kernel_rfl) (by kernel_rfl) laws_toInt64S.ok (by kernel_rfl) (by kernel_rfl) (Nat.le_of_ble_eq_true (by kernel_rfl)) (by kernel_rfl)
/-! ### laws_toInt64SS -/
noncomputable def laws_toInt64SS.sig : Sig := ⟨[.val false (.sl (.sl (.int .i64)))], [(.val false, (.sl (.sl (.int .i64))), .deep)]⟩
noncomputable def laws_toInt64SS.ctx : Ctx := ⟨tabOf tabl, [⟨15, laws_toInt64S.sig, laws_toInt64S.F⟩], [], [], []⟩
noncomputable def laws_toInt64SS.cfg : Cfg := ⟨laws_toInt64SS.ctx, [], [], fun id => match id with | 3 => ([0, 3, 4], [12]) | _ => ([], []), fun _ => []⟩
noncomputable def laws_toInt64SS.code : Code := (Go.Proofs.Try.f69).body.getD .skip
noncomputable def laws_toInt64SS.fin := finK laws_toInt64SS.ctx laws_toInt64SS.sig [.tmp 2]
noncomputable def laws_toInt64SS.F (d : List (List Int) × Unit) : Option ((List (List Int) × Unit) × (Unit)) := anyK (runFn laws_toInt64SS.cfg laws_toInt64SS.fin laws_toInt64SS.code (initSt laws_toInt64SS.sig.ps d 23))
noncomputable def laws_toInt64SS.l3 (k : Nat) (x2 : List (List Int)) (i3 : Int) (x4 : List (List Int)) : Option ((List (List Int) × Unit) × (Unit)) :=
  Go.Vm.runT laws_toInt64SS.cfg laws_toInt64SS.fin k [.inLoop (sub [1, 1, 0, 1, 0, 0] laws_toInt64SS.code), .inBlock 0, .code (sub [1, 1, 1] laws_toInt64SS.code)]
    ⟨[.val false [⟨(.sl (.sl (.int .i64))), .sh, x2⟩], .dead, .dead, .view 12 (.root 0) 1 false, .val false [⟨(.int .i64), .sh, i3⟩]] ++ deads 18, [(12, ⟨false, [⟨(.sl (.sl (.int .i64))), .deep, x4⟩]⟩)]⟩
theorem laws_toInt64SS.l3_eq (k : Nat) (x2 : List (List Int)) (i3 : Int) (x4 : List (List Int)) : laws_toInt64SS.l3 (k + 1) x2 i3 x4 =
  if (decide (i3 < (x2.length : Int))) = true then
    if 0 ≤ i3 ∧ i3 < (x2.length : Int) then
      (laws_toInt64S.F (x2.getD i3.toNat ([] : List Int), ())).bind fun r5 =>
        if 0 ≤ i3 ∧ i3 < (x4.length : Int) then
          laws_toInt64SS.l3 k x2 (IntKind.i64.wrap (i3 + (1 : Int))) (x4.set i3.toNat r5.1.1)
        else
          none
    else
      none
  else
    some ((x4, ()), ()) := by kernel_rfl
noncomputable def laws_toInt64SS.T (k : Nat) (a_1 : List (List Int)) : Option ((List (List Int) × Unit) × (Unit)) :=
  if 0 ≤ (a_1.length : Int) ∧ (a_1.length : Int) ≤ (bigN : Int) then
    laws_toInt64SS.l3 k a_1 (0 : Int) (List.replicate (a_1.length : Int).toNat ([] : List Int))
  else
    none
theorem laws_toInt64SS.run (k : Nat) (a_1 : List (List Int)) : runFn laws_toInt64SS.cfg laws_toInt64SS.fin laws_toInt64SS.code (initSt laws_toInt64SS.sig.ps (a_1, ()) 23) k = laws_toInt64SS.T k a_1 := by kernel_rfl
theorem laws_toInt64SS.of (a_1 : List (List Int)) {r : (List (List Int) × Unit) × (Unit)} (h : Ev (fun k => laws_toInt64SS.T k a_1) r) : laws_toInt64SS.F (a_1, ()) = some r := Ev.run (fun k => laws_toInt64SS.run k a_1) h
theorem laws_toInt64SS.ok : CtxOK Go.Proofs.Try.prog laws_toInt64SS.ctx := ⟨List.forall_mem_nil _, mixed_ok, tab_ok tab_good, List.forall_mem_cons.2 ⟨laws_toInt64S.S, List.forall_mem_nil _⟩, List.forall_mem_nil _, List.forall_mem_nil _⟩
theorem laws_toInt64SS.S : Sound Go.Proofs.Try.prog ⟨69, laws_toInt64SS.sig, laws_toInt64SS.F⟩ := sound_any (fn := Go.Proofs.Try.f69) (code := laws_toInt64SS.code) (g := laws_toInt64SS.cfg) (res := [.tmp 2]) Go.Proofs.Try.func69 (by kernel_rfl) (by kernel_rfl) laws_toInt64SS.ok (by kernel_rfl) (by kernel_rfl) (Nat.le_of_ble_eq_true (by kernel_rfl)) (by kernel_rfl)
/-! ### laws_toComplex -/
noncomputable def laws_toComplex.sig : Sig := ⟨[.val true (.sl (.sl (.int .i64)))], [(.val true, (.sl (.sl (.int .i64))), .deep)]⟩
noncomputable def laws_toComplex.ctx : Ctx := ⟨tabOf tabl, [⟨69, laws_toInt64SS.sig, laws_toInt64SS.F⟩], [], [], []⟩
noncomputable def laws_toComplex.cfg : Cfg := ⟨laws_toComplex.ctx, [], [], fun _ => ([], []), fun _ => []⟩
noncomputable def laws_toComplex.code : Code := (Go.Proofs.Try.f31).body.getD .skip
noncomputable def laws_toComplex.fin := finK laws_toComplex.ctx laws_toComplex.sig [.cell 2 45]
noncomputable def laws_toComplex.F (d : List (List Int) × Unit) : Option ((List (List Int) × Unit) × (Unit)) := anyK (runFn laws_toComplex.cfg laws_toComplex.fin laws_toComplex.code (initSt laws_toComplex.sig.ps d 9))
noncomputable def laws_toComplex.T (a_1 : List (List Int)) : Option ((List (List Int) × Unit) × (Unit)) :=
  (laws_toInt64SS.F (a_1, ())).bind fun r2 =>
    some ((r2.1.1, ()), ())
theorem laws_toComplex.run (k : Nat) (a_1 : List (List Int)) : runFn laws_toComplex.cfg laws_toComplex.fin laws_toComplex.code (initSt laws_toComplex.sig.ps (a_1, ()) 9) k = laws_toComplex.T a_1 := by kernel_rfl
theorem laws_toComplex.eq (a_1 : List (List Int)) : laws_toComplex.F (a_1, ()) = laws_toComplex.T a_1 := (congrArg anyK (funext fun k => laws_toComplex.run k a_1)).trans (anyK_const _)
theorem laws_toComplex.ok : CtxOK Go.Proofs.Try.prog laws_toComplex.ctx := ⟨List.forall_mem_nil _, mixed_ok, tab_ok tab_good, List.forall_mem_cons.2 ⟨laws_toInt64SS.S, List.forall_mem_nil _⟩, List.forall_mem_nil _, List.forall_mem_nil _⟩
theorem laws_toComplex.S : Sound Go.Proofs.Try.prog ⟨31, laws_toComplex.sig, laws_toComplex.F⟩ := sound_any (fn := Go.Proofs.Try.f31) (code := laws_toComplex.code) (g := laws_toComplex.cfg) (res := [.cell 2 45]) Go.Proofs.Try.func31 (by kernel_rfl) (by kernel_rfl) laws_toComplex.ok (by kernel_rfl) (by kernel_rfl) (Nat.le_of_ble_eq_true (by kernel_rfl)) (by kernel_rfl)
/-! ### impl_isRising -/
noncomputable def impl_isRising.sig : Sig := ⟨[.val false (.sl (.int .i64))], [(.val false, .bool, .deep)]⟩
noncomputable def impl_isRising.ctx : Ctx := ⟨tabOf tabl, [], [], [], []⟩
noncomputable def impl_isRising.cfg : Cfg := ⟨impl_isRising.ctx, [], [], fun id => match id with | 2 => ([0, 3], []) | _ => ([], []), fun _ => []⟩
noncomputable def impl_isRising.code : Code := (Go.Proofs.Try.f96).body.getD .skip
noncomputable def impl_isRising.fin := finK impl_isRising.ctx impl_isRising.sig [.tmp 2]
noncomputable def impl_isRising.F (d : List Int × Unit) : Option ((Bool × Unit) × (Unit)) := anyK (runFn impl_isRising.cfg impl_isRising.fin impl_isRising.code (initSt impl_isRising.sig.ps d 20))
noncomputable def impl_isRising.l2 (k : Nat) (x2 : List Int) (i3 : Int) : Option ((Bool × Unit) × (Unit)) :=
  Go.Vm.runT impl_isRising.cfg impl_isRising.fin k [.inLoop (sub [1, 0, 1, 0, 0] impl_isRising.code), .inBlock 0, .code (sub [1, 1] impl_isRising.code)]
    ⟨[.val false [⟨(.sl (.int .i64)), .sh, x2⟩], .dead, .dead, .val false [⟨(.int .i64), .sh, i3⟩]] ++ deads 16, []⟩
theorem impl_isRising.l2_eq (k : Nat) (x2 : List Int) (i3 : Int) : impl_isRising.l2 (k + 1) x2 i3 =
  if (decide (i3 < (x2.length : Int))) = true then
    if 0 ≤ (IntKind.i64.wrap (i3 - (1 : Int))) ∧ (IntKind.i64.wrap (i3 - (1 : Int))) < (x2.length : Int) then
      if 0 ≤ i3 ∧ i3 < (x2.length : Int) then
        if (decide ((x2.getD (IntKind.i64.wrap (i3 - (1 : Int))).toNat 0) ≥ (x2.getD i3.toNat 0 : Int))) = true then
          some ((false, ()), ())
        else
          impl_isRising.l2 k x2 (IntKind.i64.wrap (i3 + (1 : Int)))
      else
        none
    else
      none
  else
    some ((true, ()), ()) := by kernel_rfl
noncomputable def impl_isRising.T (k : Nat) (list_1 : List Int) : Option ((Bool × Unit) × (Unit)) :=
  impl_isRising.l2 k list_1 (1 : Int)
theorem impl_isRising.run (k : Nat) (list_1 : List Int) : runFn impl_isRising.cfg impl_isRising.fin impl_isRising.code (initSt impl_isRising.sig.ps (list_1, ()) 20) k = impl_isRising.T k list_1 := by kernel_rfl
theorem impl_isRising.of (list_1 : List Int) {r : (Bool × Unit) × (Unit)} (h : Ev (fun k => impl_isRising.T k list_1) r) : impl_isRising.F (list_1, ()) = some r := Ev.run (fun k => impl_isRising.run k list_1) h
theorem impl_isRising.ok : CtxOK Go.Proofs.Try.prog impl_isRising.ctx := ⟨List.forall_mem_nil _, mixed_ok, tab_ok tab_good, List.forall_mem_nil _, List.forall_mem_nil _, List.forall_mem_nil _⟩
theorem impl_isRising.S : Sound Go.Proofs.Try.prog ⟨96, impl_isRising.sig, impl_isRising.F⟩ := sound_any (fn := Go.Proofs.Try.f96) (code := impl_isRising.code) (g := impl_isRising.cfg) (res := [.tmp 2]) Go.Proofs.Try.func96 (by kernel_rfl) (by kernel_rfl) impl_isRising.ok (by kernel_rfl) (by kernel_rfl) (Nat.le_of_ble_eq_true (by kernel_rfl)) (by kernel_rfl)
/-! ### slices_IndexFunc_Lint64_int64 -/
noncomputable def slices_IndexFunc_Lint64_int64.sig : Sig := ⟨[.val false (.sl (.int .i64)), .fnx ⟨[(false, (.int .i64))], [(.val false, .bool, .deep)]⟩], [(.val false, (.int .i64), .deep)]⟩
noncomputable def slices_IndexFunc_Lint64_int64.ctx : Ctx := ⟨tabOf tabl, [], [], [], []⟩
noncomputable def slices_IndexFunc_Lint64_int64.cfg : Cfg := ⟨slices_IndexFunc_Lint64_int64.ctx, [], [], fun id => match id with | 2 => ([0, 1, 7, 8], []) | _ => ([], []), fun _ => []⟩
noncomputable def slices_IndexFunc_Lint64_int64.code : Code := (Go.Proofs.Try.f181).body.getD .skip
noncomputable def slices_IndexFunc_Lint64_int64.fin := finK slices_IndexFunc_Lint64_int64.ctx slices_IndexFunc_Lint64_int64.sig [.tmp 4]
noncomputable def slices_IndexFunc_Lint64_int64.F (d : List Int × ((Int × Unit) → Option (Bool × Unit)) × Unit) : Option ((Int × Unit) × (Unit)) := anyK (runFn slices_IndexFunc_Lint64_int64.cfg slices_IndexFunc_Lint64_int64.fin slices_IndexFunc_Lint64_int64.code (initSt slices_IndexFunc_Lint64_int64.sig.ps d 19))
noncomputable def slices_IndexFunc_Lint64_int64.l2 (k : Nat) (x3 : List Int) (f4 : (Int × Unit) → Option (Bool × Unit)) (i5 : Int) (i6 : Int) : Option ((Int × Unit) × (Unit)) :=
  Go.Vm.runT slices_IndexFunc_Lint64_int64.cfg slices_IndexFunc_Lint64_int64.fin k [.inLoop (sub [1, 0, 1, 0, 0] slices_IndexFunc_Lint64_int64.code), .inBlock 0, .code (sub [1, 1] slices_IndexFunc_Lint64_int64.code)]
    ⟨[.val false [⟨(.sl (.int .i64)), .sh, x3⟩], .fnx ⟨[(false, (.int .i64))], [(.val false, .bool, .deep)]⟩ f4, .dead, .dead, .dead, .dead, .dead, .val false [⟨(.int .i64), .sh, i5⟩], .val false [⟨(.int .i64), .sh, i6⟩]] ++ deads 10, []⟩
theorem slices_IndexFunc_Lint64_int64.l2_eq (k : Nat) (x3 : List Int) (f4 : (Int × Unit) → Option (Bool × Unit)) (i5 : Int) (i6 : Int) : slices_IndexFunc_Lint64_int64.l2 (k + 1) x3 f4 i5 i6 =
  if (decide (i6 < i5)) = true then
    if 0 ≤ i6 ∧ i6 < (x3.length : Int) then
      (f4 ((x3.getD i6.toNat 0 : Int), ())).bind fun r7 =>
        if (r7.1 : Bool) = true then
          some ((i6, ()), ())
        else
          slices_IndexFunc_Lint64_int64.l2 k x3 f4 i5 (IntKind.i64.wrap (i6 + (1 : Int)))
    else
      none
  else
    some (((-1 : Int), ()), ()) := by kernel_rfl
noncomputable def slices_IndexFunc_Lint64_int64.T (k : Nat) (s_1 : List Int) (f_2 : (Int × Unit) → Option (Bool × Unit)) : Option ((Int × Unit) × (Unit)) :=
  slices_IndexFunc_Lint64_int64.l2 k s_1 f_2 (s_1.length : Int) (0 : Int)
theorem slices_IndexFunc_Lint64_int64.run (k : Nat) (s_1 : List Int) (f_2 : (Int × Unit) → Option (Bool × Unit)) : runFn slices_IndexFunc_Lint64_int64.cfg slices_IndexFunc_Lint64_int64.fin slices_IndexFunc_Lint64_int64.code (initSt slices_IndexFunc_Lint64_int64.sig.ps (s_1, f_2, ()) 19) k = slices_IndexFunc_Lint64_int64.T k s_1 f_2 := by kernel_rfl
theorem slices_IndexFunc_Lint64_int64.of (s_1 : List Int) (f_2 : (Int × Unit) → Option (Bool × Unit)) {r : (Int × Unit) × (Unit)} (h : Ev (fun k => slices_IndexFunc_Lint64_int64.T k s_1 f_2) r) : slices_IndexFunc_Lint64_int64.F (s_1, f_2, ()) = some r := Ev.run (fun k => slices_IndexFunc_Lint64_int64.run k s_1 f_2) h
theorem slices_IndexFunc_Lint64_int64.ok : CtxOK Go.Proofs.Try.prog slices_IndexFunc_Lint64_int64.ctx := ⟨List.forall_mem_nil _, mixed_ok, tab_ok tab_good, List.forall_mem_nil _, List.forall_mem_nil _, List.forall_mem_nil _⟩
theorem slices_IndexFunc_Lint64_int64.S : Sound Go.Proofs.Try.prog ⟨181, slices_IndexFunc_Lint64_int64.sig, slices_IndexFunc_Lint64_int64.F⟩ := sound_any (fn := Go.Proofs.Try.f181) (code := slices_IndexFunc_Lint64_int64.code) (g := slices_IndexFunc_Lint64_int64.cfg) (res := [.tmp 4]) Go.Proofs.Try.func181 (by kernel_rfl) (by kernel_rfl) slices_IndexFunc_Lint64_int64.ok (by kernel_rfl) (by kernel_rfl) (Nat.le_of_ble_eq_true (by kernel_rfl)) (by kernel_rfl)
/-! ### slices_ContainsFunc_Lint64_int64 -/
noncomputable def slices_ContainsFunc_Lint64_int64.sig : Sig := ⟨[.val false (.sl (.int .i64)), .fnx ⟨[(false, (.int .i64))], [(.val false, .bool, .deep)]⟩], [(.val false, .bool, .deep)]⟩
noncomputable def slices_ContainsFunc_Lint64_int64.ctx : Ctx := ⟨tabOf tabl, [⟨181, slices_IndexFunc_Lint64_int64.sig, slices_IndexFunc_Lint64_int64.F⟩], [], [], []⟩
noncomputable def slices_ContainsFunc_Lint64_int64.cfg : Cfg := ⟨slices_ContainsFunc_Lint64_int64.ctx, [], [], fun _ => ([], []), fun _ => []⟩
noncomputable def slices_ContainsFunc_Lint64_int64.code : Code := (Go.Proofs.Try.f147).body.getD .skip
noncomputable def slices_ContainsFunc_Lint64_int64.fin := finK slices_ContainsFunc_Lint64_int64.ctx slices_ContainsFunc_Lint64_int64.sig [.tmp 4]
noncomputable def slices_ContainsFunc_Lint64_int64.F (d : List Int × ((Int × Unit) → Option (Bool × Unit)) × Unit) : Option ((Bool × Unit) × (Unit)) := anyK (runFn slices_ContainsFunc_Lint64_int64.cfg slices_ContainsFunc_Lint64_int64.fin slices_ContainsFunc_Lint64_int64.code (initSt slices_ContainsFunc_Lint64_int64.sig.ps d 9))
noncomputable def slices_ContainsFunc_Lint64_int64.T (s_1 : List Int) (f_2 : (Int × Unit) → Option (Bool × Unit)) : Option ((Bool × Unit) × (Unit)) :=
  (slices_IndexFunc_Lint64_int64.F (s_1, f_2, ())).bind fun r3 =>
    some ((decide ((r3.1.1 : Int) ≥ (0 : Int)), ()), ())
theorem slices_ContainsFunc_Lint64_int64.run (k : Nat) (s_1 : List Int) (f_2 : (Int × Unit) → Option (Bool × Unit)) : runFn slices_ContainsFunc_Lint64_int64.cfg slices_ContainsFunc_Lint64_int64.fin slices_ContainsFunc_Lint64_int64.code (initSt slices_ContainsFunc_Lint64_int64.sig.ps (s_1, f_2, ()) 9) k = slices_ContainsFunc_Lint64_int64.T s_1 f_2 := by kernel_rfl
theorem slices_ContainsFunc_Lint64_int64.eq (s_1 : List Int) (f_2 : (Int × Unit) → Option (Bool × Unit)) : slices_ContainsFunc_Lint64_int64.F (s_1, f_2, ()) = slices_ContainsFunc_Lint64_int64.T s_1 f_2 := (congrArg anyK (funext fun k => slices_ContainsFunc_Lint64_int64.run k s_1 f_2)).trans (anyK_const _)
theorem slices_ContainsFunc_Lint64_int64.ok : CtxOK Go.Proofs.Try.prog slices_ContainsFunc_Lint64_int64.ctx := ⟨List.forall_mem_nil _, mixed_ok, tab_ok tab_good, List.forall_mem_cons.2 ⟨slices_IndexFunc_Lint64_int64.S, List.forall_mem_nil _⟩, List.forall_mem_nil _, List.forall_mem_nil _⟩
theorem slices_ContainsFunc_Lint64_int64.S : Sound Go.Proofs.Try.prog ⟨147, slices_ContainsFunc_Lint64_int64.sig, slices_ContainsFunc_Lint64_int64.F⟩ := sound_any (fn := Go.Proofs.Try.f147) (code := slices_ContainsFunc_Lint64_int64.code) (g := slices_ContainsFunc_Lint64_int64.cfg) (res := [.tmp 4]) Go.Proofs.Try.func147 (by kernel_rfl) (by kernel_rfl) slices_ContainsFunc_Lint64_int64.ok (by kernel_rfl) (by kernel_rfl) (Nat.le_of_ble_eq_true (by kernel_rfl)) (by kernel_rfl)
/-! ### impl_within -/
noncomputable def impl_within.sig : Sig := ⟨[.val false (.int .i64), .val false (.int .i64), .val false (.int .i64)], [(.val false, .bool, .deep)]⟩
noncomputable def impl_within.ctx : Ctx := ⟨tabOf tabl, [], [], [], []⟩
noncomputable def impl_within.cfg : Cfg := ⟨impl_within.ctx, [], [], fun _ => ([], []), fun _ => []⟩
noncomputable def impl_within.code : Code := (Go.Proofs.Try.f94).body.getD .skip
noncomputable def impl_within.fin := finK impl_within.ctx impl_within.sig [.tmp 6]
noncomputable def impl_within.F (d : Int × Int × Int × Unit) : Option ((Bool × Unit) × (Unit)) := anyK (runFn impl_within.cfg impl_within.fin impl_within.code (initSt impl_within.sig.ps d 15))
noncomputable def impl_within.T (n_1 : Int) (low_2 : Int) (high_3 : Int) : Option ((Bool × Unit) × (Unit)) :=
  if (decide (n_1 ≥ low_2)) = true then
    some ((decide (n_1 ≤ high_3), ()), ())
  else
    some ((false, ()), ())
theorem impl_within.run (k : Nat) (n_1 : Int) (low_2 : Int) (high_3 : Int) : runFn impl_within.cfg impl_within.fin impl_within.code (initSt impl_within.sig.ps (n_1, low_2, high_3, ()) 15) k = impl_within.T n_1 low_2 high_3 := by kernel_rfl
theorem impl_within.eq (n_1 : Int) (low_2 : Int) (high_3 : Int) : impl_within.F (n_1, low_2, high_3, ()) = impl_within.T n_1 low_2 high_3 := (congrArg anyK (funext fun k => impl_within.run k n_1 low_2 high_3)).trans (anyK_const _)
theorem impl_within.ok : CtxOK Go.Proofs.Try.prog impl_within.ctx := ⟨List.forall_mem_nil _, mixed_ok, tab_ok tab_good, List.forall_mem_nil _, List.forall_mem_nil _, List.forall_mem_nil _⟩
theorem impl_within.S : Sound Go.Proofs.Try.prog ⟨94, impl_within.sig, impl_within.F⟩ := sound_any (fn := Go.Proofs.Try.f94) (code := impl_within.code) (g := impl_within.cfg) (res := [.tmp 6]) Go.Proofs.Try.func94 (by kernel_rfl) (by kernel_rfl) impl_within.ok (by kernel_rfl) (by kernel_rfl) (Nat.le_of_ble_eq_true (by kernel_rfl)) (by kernel_rfl)
/-! ### impl_isVertex -/
noncomputable def impl_isVertex.sig : Sig := ⟨[.val false (.int .i64)], [(.val false, .bool, .deep)]⟩
noncomputable def impl_isVertex.ctx : Ctx := ⟨tabOf tabl, [⟨94, impl_within.sig, impl_within.F⟩], [], [], []⟩
noncomputable def impl_isVertex.cfg : Cfg := ⟨impl_isVertex.ctx, [], [], fun _ => ([], []), fun _ => []⟩
noncomputable def impl_isVertex.code : Code := (Go.Proofs.Try.f153).body.getD .skip
noncomputable def impl_isVertex.fin := finK impl_isVertex.ctx impl_isVertex.sig [.tmp 2]
noncomputable def impl_isVertex.F (d : Int × Unit) : Option ((Bool × Unit) × (Unit)) := anyK (runFn impl_isVertex.cfg impl_isVertex.fin impl_isVertex.code (initSt impl_isVertex.sig.ps d 5))
noncomputable def impl_isVertex.T (v_1 : Int) : Option ((Bool × Unit) × (Unit)) :=
  (impl_within.F (v_1, (0 : Int), (9 : Int), ())).bind fun r2 =>
    some (((r2.1.1 : Bool), ()), ())
theorem impl_isVertex.run (k : Nat) (v_1 : Int) : runFn impl_isVertex.cfg impl_isVertex.fin impl_isVertex.code (initSt impl_isVertex.sig.ps (v_1, ()) 5) k = impl_isVertex.T v_1 := by kernel_rfl
theorem impl_isVertex.eq (v_1 : Int) : impl_isVertex.F (v_1, ()) = impl_isVertex.T v_1 := (congrArg anyK (funext fun k => impl_isVertex.run k v_1)).trans (anyK_const _)
theorem impl_isVertex.ok : CtxOK Go.Proofs.Try.prog impl_isVertex.ctx := ⟨List.forall_mem_nil _, mixed_ok, tab_ok tab_good, List.forall_mem_cons.2 ⟨impl_within.S, List.forall_mem_nil _⟩, List.forall_mem_nil _, List.forall_mem_nil _⟩
theorem impl_isVertex.S : Sound Go.Proofs.Try.prog ⟨153, impl_isVertex.sig, impl_isVertex.F⟩ := sound_any (fn := Go.Proofs.Try.f153) (code := impl_isVertex.code) (g := impl_isVertex.cfg) (res := [.tmp 2]) Go.Proofs.Try.func153 (by kernel_rfl) (by kernel_rfl) impl_isVertex.ok (by kernel_rfl) (by kernel_rfl) (Nat.le_of_ble_eq_true (by kernel_rfl)) (by kernel_rfl)
/-! ### impl_ValidSimplex_1 -/
noncomputable def impl_ValidSimplex_1.sig : Sig := ⟨[.val false (.int .i64)], [(.val false, .bool, .deep)]⟩
noncomputable def impl_ValidSimplex_1.ctx : Ctx := ⟨tabOf tabl, [⟨153, impl_isVertex.sig, impl_isVertex.F⟩], [], [], []⟩
noncomputable def impl_ValidSimplex_1.cfg : Cfg := ⟨impl_ValidSimplex_1.ctx, [], [], fun _ => ([], []), fun _ => []⟩
noncomputable def impl_ValidSimplex_1.code : Code := (Go.Proofs.Try.f152).body.getD .skip
noncomputable def impl_ValidSimplex_1.fin := finK impl_ValidSimplex_1.ctx impl_ValidSimplex_1.sig [.tmp 2]
noncomputable def impl_ValidSimplex_1.F (d : Int × Unit) : Option ((Bool × Unit) × (Unit)) := anyK (runFn impl_ValidSimplex_1.cfg impl_ValidSimplex_1.fin impl_ValidSimplex_1.code (initSt impl_ValidSimplex_1.sig.ps d 6))
noncomputable def impl_ValidSimplex_1.T (v_1 : Int) : Option ((Bool × Unit) × (Unit)) :=
  (impl_isVertex.F (v_1, ())).bind fun r2 =>
    some ((!(r2.1.1 : Bool), ()), ())
theorem impl_ValidSimplex_1.run (k : Nat) (v_1 : Int) : runFn impl_ValidSimplex_1.cfg impl_ValidSimplex_1.fin impl_ValidSimplex_1.code (initSt impl_ValidSimplex_1.sig.ps (v_1, ()) 6) k = impl_ValidSimplex_1.T v_1 := by kernel_rfl
theorem impl_ValidSimplex_1.eq (v_1 : Int) : impl_ValidSimplex_1.F (v_1, ()) = impl_ValidSimplex_1.T v_1 := (congrArg anyK (funext fun k => impl_ValidSimplex_1.run k v_1)).trans (anyK_const _)
theorem impl_ValidSimplex_1.ok : CtxOK Go.Proofs.Try.prog impl_ValidSimplex_1.ctx := ⟨List.forall_mem_nil _, mixed_ok, tab_ok tab_good, List.forall_mem_cons.2 ⟨impl_isVertex.S, List.forall_mem_nil _⟩, List.forall_mem_nil _, List.forall_mem_nil _⟩
theorem impl_ValidSimplex_1.S : Sound Go.Proofs.Try.prog ⟨152, impl_ValidSimplex_1.sig, impl_ValidSimplex_1.F⟩ := sound_any (fn := Go.Proofs.Try.f152) (code := impl_ValidSimplex_1.code) (g := impl_ValidSimplex_1.cfg) (res := [.tmp 2]) Go.Proofs.Try.func152 (by kernel_rfl) (by kernel_rfl) impl_ValidSimplex_1.ok (by kernel_rfl) (by kernel_rfl) (Nat.le_of_ble_eq_true (by kernel_rfl)) (by kernel_rfl)
noncomputable def impl_ValidSimplex_1.cloG (y : Unit) (d : Int × Unit) : Option (Bool × Unit) := (impl_ValidSimplex_1.F (joinIns [] [(false, (.int .i64))] d y)).map (·.1)
noncomputable def impl_ValidSimplex_1.clo : Clo := ⟨152, ⟨[(false, (.int .i64))], [(.val false, .bool, .deep)]⟩, [], impl_ValidSimplex_1.cloG⟩
theorem impl_ValidSimplex_1.cloS : SoundClo Go.Proofs.Try.prog impl_ValidSimplex_1.clo := sound_clo (s := ⟨[(false, (.int .i64))], [(.val false, .bool, .deep)]⟩) (caps := []) rfl impl_ValidSimplex_1.S
/-! ### impl_ValidSimplex -/
noncomputable def impl_ValidSimplex.sig : Sig := ⟨[.val false (.sl (.int .i64))], [(.val false, .bool, .deep)]⟩
noncomputable def impl_ValidSimplex.ctx : Ctx := ⟨tabOf tabl, [⟨96, impl_isRising.sig, impl_isRising.F⟩, ⟨147, slices_ContainsFunc_Lint64_int64.sig, slices_ContainsFunc_Lint64_int64.F⟩], [impl_ValidSimplex_1.clo], [], []⟩
noncomputable def impl_ValidSimplex.cfg : Cfg := ⟨impl_ValidSimplex.ctx, [], [], fun _ => ([], []), fun _ => []⟩
noncomputable def impl_ValidSimplex.code : Code := (Go.Proofs.Try.f116).body.getD .skip
noncomputable def impl_ValidSimplex.fin := finK impl_ValidSimplex.ctx impl_ValidSimplex.sig [.tmp 2]
noncomputable def impl_ValidSimplex.F (d : List Int × Unit) : Option ((Bool × Unit) × (Unit)) := anyK (runFn impl_ValidSimplex.cfg impl_ValidSimplex.fin impl_ValidSimplex.code (initSt impl_ValidSimplex.sig.ps d 20))
noncomputable def impl_ValidSimplex.T (s_1 : List Int) : Option ((Bool × Unit) × (Unit)) :=
  if (decide ((s_1.length : Int) ≥ (1 : Int))) = true then
    if (decide ((s_1.length : Int) ≤ (4 : Int))) = true then
      (impl_isRising.F (s_1, ())).bind fun r2 =>
        if (r2.1.1 : Bool) = true then
          (slices_ContainsFunc_Lint64_int64.F (s_1, impl_ValidSimplex_1.cloG (()), ())).bind fun r3 =>
            some ((!(r3.1.1 : Bool), ()), ())
        else
          some ((false, ()), ())
    else
      some ((false, ()), ())
  else
    some ((false, ()), ())
theorem impl_ValidSimplex.run (k : Nat) (s_1 : List Int) : runFn impl_ValidSimplex.cfg impl_ValidSimplex.fin impl_ValidSimplex.code (initSt impl_ValidSimplex.sig.ps (s_1, ()) 20) k = impl_ValidSimplex.T s_1 := by kernel_rfl
theorem impl_ValidSimplex.eq (s_1 : List Int) : impl_ValidSimplex.F (s_1, ()) = impl_ValidSimplex.T s_1 := (congrArg anyK (funext fun k => impl_ValidSimplex.run k s_1)).trans (anyK_const _)
theorem impl_ValidSimplex.ok : CtxOK Go.Proofs.Try.prog impl_ValidSimplex.ctx := ⟨List.forall_mem_nil _, mixed_ok, tab_ok tab_good, List.forall_mem_cons.2 ⟨impl_isRising.S, List.forall_mem_cons.2 ⟨slices_ContainsFunc_Lint64_int64.S, List.forall_mem_nil _⟩⟩, List.forall_mem_cons.2 ⟨impl_ValidSimplex_1.cloS, List.forall_mem_nil _⟩, List.forall_mem_nil _⟩
theorem impl_ValidSimplex.S : Sound Go.Proofs.Try.prog ⟨116, impl_ValidSimplex.sig, impl_ValidSimplex.F⟩ := sound_any (fn := Go.Proofs.Try.f116) (code := impl_ValidSimplex.code) (g := impl_ValidSimplex.cfg) (res := [.tmp 2]) Go.Proofs.Try.func116 (by kernel_rfl) (by kernel_rfl) impl_ValidSimplex.ok (by kernel_rfl) (by kernel_rfl) (Nat.le_of_ble_eq_true (by kernel_rfl)) (by kernel_rfl)
/-! ### cmp_Or_int -/
noncomputable def cmp_Or_int.sig : Sig := ⟨[.val false (.sl (.int .i64))], [(.val false, (.int .i64), .deep)]⟩
noncomputable def cmp_Or_int.ctx : Ctx := ⟨tabOf tabl, [], [], [], []⟩
noncomputable def cmp_Or_int.cfg : Cfg := ⟨cmp_Or_int.ctx, [], [], fun id => match id with | 3 => ([3, 6, 7, 8], []) | _ => ([], []), fun _ => []⟩
noncomputable def cmp_Or_int.code : Code := (Go.Proofs.Try.f145).body.getD .skip
noncomputable def cmp_Or_int.fin := finK cmp_Or_int.ctx cmp_Or_int.sig [.tmp 2]
noncomputable def cmp_Or_int.F (d : List Int × Unit) : Option ((Int × Unit) × (Unit)) := anyK (runFn cmp_Or_int.cfg cmp_Or_int.fin cmp_Or_int.code (initSt cmp_Or_int.sig.ps d 18))
noncomputable def cmp_Or_int.l3 (k : Nat) (i2 : Int) (x3 : List Int) (i4 : Int) (i5 : Int) : Option ((Int × Unit) × (Unit)) :=
  Go.Vm.runT cmp_Or_int.cfg cmp_Or_int.fin k [.inLoop (sub [1, 1, 0, 1, 0, 0] cmp_Or_int.code), .inBlock 0, .code (sub [1, 1, 1] cmp_Or_int.code)]
    ⟨[.dead, .dead, .dead, .val false [⟨(.int .i64), .sh, i2⟩], .dead, .dead, .val false [⟨(.sl (.int .i64)), .sh, x3⟩], .val false [⟨(.int .i64), .sh, i4⟩], .val false [⟨(.int .i64), .sh, i5⟩]] ++ deads 9, []⟩
theorem cmp_Or_int.l3_eq (k : Nat) (i2 : Int) (x3 : List Int) (i4 : Int) (i5 : Int) : cmp_Or_int.l3 (k + 1) i2 x3 i4 i5 =
  if (decide (i5 < i4)) = true then
    if 0 ≤ i5 ∧ i5 < (x3.length : Int) then
      if ((x3.getD i5.toNat 0 : Int) != i2) = true then
        some (((x3.getD i5.toNat 0 : Int), ()), ())
      else
        cmp_Or_int.l3 k i2 x3 i4 (IntKind.i64.wrap (i5 + (1 : Int)))
    else
      none
  else
    some ((i2, ()), ()) := by kernel_rfl
noncomputable def cmp_Or_int.T (k : Nat) (vals_1 : List Int) : Option ((Int × Unit) × (Unit)) :=
  cmp_Or_int.l3 k (0 : Int) vals_1 (vals_1.length : Int) (0 : Int)
theorem cmp_Or_int.run (k : Nat) (vals_1 : List Int) : runFn cmp_Or_int.cfg cmp_Or_int.fin cmp_Or_int.code (initSt cmp_Or_int.sig.ps (vals_1, ()) 18) k = cmp_Or_int.T k vals_1 := by kernel_rfl
theorem cmp_Or_int.of (vals_1 : List Int) {r : (Int × Unit) × (Unit)} (h : Ev (fun k => cmp_Or_int.T k vals_1) r) : cmp_Or_int.F (vals_1, ()) = some r := Ev.run (fun k => cmp_Or_int.run k vals_1) h
theorem cmp_Or_int.ok : CtxOK Go.Proofs.Try.prog cmp_Or_int.ctx := ⟨List.forall_mem_nil _, mixed_ok, tab_ok tab_good, List.forall_mem_nil _, List.forall_mem_nil _, List.forall_mem_nil _⟩
theorem cmp_Or_int.S : Sound Go.Proofs.Try.prog ⟨145, cmp_Or_int.sig, cmp_Or_int.F⟩ := sound_any (fn := Go.Proofs.Try.f145) (code := cmp_Or_int.code) (g := cmp_Or_int.cfg) (res := [.tmp 2]) Go.Proofs.Try.func145 (by kernel_rfl) (by kernel_rfl) cmp_Or_int.ok (by kernel_rfl) (by kernel_rfl) (Nat.le_of_ble_eq_true (by kernel_rfl)) (by kernel_rfl)
/-! ### cmp_isNaN_int -/
noncomputable def cmp_isNaN_int.sig : Sig := ⟨[.val false (.int .i64)], [(.val false, .bool, .deep)]⟩
noncomputable def cmp_isNaN_int.ctx : Ctx := ⟨tabOf tabl, [], [], [], []⟩
noncomputable def cmp_isNaN_int.cfg : Cfg := ⟨cmp_isNaN_int.ctx, [], [], fun _ => ([], []), fun _ => []⟩
noncomputable def cmp_isNaN_int.code : Code := (Go.Proofs.Try.f182).body.getD .skip
noncomputable def cmp_isNaN_int.fin := finK cmp_isNaN_int.ctx cmp_isNaN_int.sig [.tmp 2]
noncomputable def cmp_isNaN_int.F (d : Int × Unit) : Option ((Bool × Unit) × (Unit)) := anyK (runFn cmp_isNaN_int.cfg cmp_isNaN_int.fin cmp_isNaN_int.code (initSt cmp_isNaN_int.sig.ps d 6))
noncomputable def cmp_isNaN_int.T (x_1 : Int) : Option ((Bool × Unit) × (Unit)) :=
  some ((x_1 != x_1, ()), ())
theorem cmp_isNaN_int.run (k : Nat) (x_1 : Int) : runFn cmp_isNaN_int.cfg cmp_isNaN_int.fin cmp_isNaN_int.code (initSt cmp_isNaN_int.sig.ps (x_1, ()) 6) k = cmp_isNaN_int.T x_1 := by kernel_rfl
theorem cmp_isNaN_int.eq (x_1 : Int) : cmp_isNaN_int.F (x_1, ()) = cmp_isNaN_int.T x_1 := (congrArg anyK (funext fun k => cmp_isNaN_int.run k x_1)).trans (anyK_const _)
theorem cmp_isNaN_int.ok : CtxOK Go.Proofs.Try.prog cmp_isNaN_int.ctx := ⟨List.forall_mem_nil _, mixed_ok, tab_ok tab_good, List.forall_mem_nil _, List.forall_mem_nil _, List.forall_mem_nil _⟩
theorem cmp_isNaN_int.S : Sound Go.Proofs.Try.prog ⟨182, cmp_isNaN_int.sig, cmp_isNaN_int.F⟩ := sound_any (fn := Go.Proofs.Try.f182) (code := cmp_isNaN_int.code) (g := cmp_isNaN_int.cfg) (res := [.tmp 2]) Go.Proofs.Try.func182 (by kernel_rfl) (by kernel_rfl) cmp_isNaN_int.ok (by kernel_rfl) (by kernel_rfl) (Nat.le_of_ble_eq_true (by kernel_rfl)) (by kernel_rfl)
/-! ### cmp_Compare_int -/
noncomputable def cmp_Compare_int.sig : Sig := ⟨[.val false (.int .i64), .val false (.int .i64)], [(.val false, (.int .i64), .deep)]⟩
noncomputable def cmp_Compare_int.ctx : Ctx := ⟨tabOf tabl, [⟨182, cmp_isNaN_int.sig, cmp_isNaN_int.F⟩], [], [], []⟩
noncomputable def cmp_Compare_int.cfg : Cfg := ⟨cmp_Compare_int.ctx, [], [], fun _ => ([], []), fun _ => []⟩
noncomputable def cmp_Compare_int.code : Code := (Go.Proofs.Try.f154).body.getD .skip
noncomputable def cmp_Compare_int.fin := finK cmp_Compare_int.ctx cmp_Compare_int.sig [.tmp 4]
noncomputable def cmp_Compare_int.F (d : Int × Int × Unit) : Option ((Int × Unit) × (Unit)) := anyK (runFn cmp_Compare_int.cfg cmp_Compare_int.fin cmp_Compare_int.code (initSt cmp_Compare_int.sig.ps d 20))
noncomputable def cmp_Compare_int.T (x_1 : Int) (y_2 : Int) : Option ((Int × Unit) × (Unit)) :=
  (cmp_isNaN_int.F (x_1, ())).bind fun r3 =>
    (cmp_isNaN_int.F (y_2, ())).bind fun r4 =>
      if (r3.1.1 : Bool) = true then
        if (r4.1.1 : Bool) = true then
          some (((0 : Int), ()), ())
        else
          some (((-1 : Int), ()), ())
      else
        if (r4.1.1 : Bool) = true then
          some (((1 : Int), ()), ())
        else
          if (decide (x_1 < y_2)) = true then
            some (((-1 : Int), ()), ())
          else
            if (decide (x_1 > y_2)) = true then
              some (((1 : Int), ()), ())
            else
              some (((0 : Int), ()), ())
theorem cmp_Compare_int.run (k : Nat) (x_1 : Int) (y_2 : Int) : runFn cmp_Compare_int.cfg cmp_Compare_int.fin cmp_Compare_int.code (initSt cmp_Compare_int.sig.ps (x_1, y_2, ()) 20) k = cmp_Compare_int.T x_1 y_2 := by kernel_rfl
theorem cmp_Compare_int.eq (x_1 : Int) (y_2 : Int) : cmp_Compare_int.F (x_1, y_2, ()) = cmp_Compare_int.T x_1 y_2 := (congrArg anyK (funext fun k => cmp_Compare_int.run k x_1 y_2)).trans (anyK_const _)
theorem cmp_Compare_int.ok : CtxOK Go.Proofs.Try.prog cmp_Compare_int.ctx := ⟨List.forall_mem_nil _, mixed_ok, tab_ok tab_good, List.forall_mem_cons.2 ⟨cmp_isNaN_int.S, List.forall_mem_nil _⟩, List.forall_mem_nil _, List.forall_mem_nil _⟩
theorem cmp_Compare_int.S : Sound Go.Proofs.Try.prog ⟨154, cmp_Compare_int.sig, cmp_Compare_int.F⟩ := sound_any (fn := Go.Proofs.Try.f154) (code := cmp_Compare_int.code) (g := cmp_Compare_int.cfg) (res := [.tmp 4]) Go.Proofs.Try.func154 (by kernel_rfl) (by kernel_rfl) cmp_Compare_int.ok (by kernel_rfl) (by kernel_rfl) (Nat.le_of_ble_eq_true (by kernel_rfl)) (by kernel_rfl)
/-! ### cmp_isNaN_int64 -/
noncomputable def cmp_isNaN_int64.sig : Sig := ⟨[.val false (.int .i64)], [(.val false, .bool, .deep)]⟩
noncomputable def cmp_isNaN_int64.ctx : Ctx := ⟨tabOf tabl, [], [], [], []⟩
noncomputable def cmp_isNaN_int64.cfg : Cfg := ⟨cmp_isNaN_int64.ctx, [], [], fun _ => ([], []), fun _ => []⟩
noncomputable def cmp_isNaN_int64.code : Code := (Go.Proofs.Try.f180).body.getD .skip
noncomputable def cmp_isNaN_int64.fin := finK cmp_isNaN_int64.ctx cmp_isNaN_int64.sig [.tmp 2]
noncomputable def cmp_isNaN_int64.F (d : Int × Unit) : Option ((Bool × Unit) × (Unit)) := anyK (runFn cmp_isNaN_int64.cfg cmp_isNaN_int64.fin cmp_isNaN_int64.code (initSt cmp_isNaN_int64.sig.ps d 6))
noncomputable def cmp_isNaN_int64.T (x_1 : Int) : Option ((Bool × Unit) × (Unit)) :=
  some ((x_1 != x_1, ()), ())
theorem cmp_isNaN_int64.run (k : Nat) (x_1 : Int) : runFn cmp_isNaN_int64.cfg cmp_isNaN_int64.fin cmp_isNaN_int64.code (initSt cmp_isNaN_int64.sig.ps (x_1, ()) 6) k = cmp_isNaN_int64.T x_1 := by kernel_rfl
theorem cmp_isNaN_int64.eq (x_1 : Int) : cmp_isNaN_int64.F (x_1, ()) = cmp_isNaN_int64.T x_1 := (congrArg anyK (funext fun k => cmp_isNaN_int64.run k x_1)).trans (anyK_const _)
theorem cmp_isNaN_int64.ok : CtxOK Go.Proofs.Try.prog cmp_isNaN_int64.ctx := ⟨List.forall_mem_nil _, mixed_ok, tab_ok tab_good, List.forall_mem_nil _, List.forall_mem_nil _, List.forall_mem_nil _⟩
theorem cmp_isNaN_int64.S : Sound Go.Proofs.Try.prog ⟨180, cmp_isNaN_int64.sig, cmp_isNaN_int64.F⟩ := sound_any (fn := Go.Proofs.Try.f180) (code := cmp_isNaN_int64.code) (g := cmp_isNaN_int64.cfg) (res := [.tmp 2]) Go.Proofs.Try.func180 (by kernel_rfl) (by kernel_rfl) cmp_isNaN_int64.ok (by kernel_rfl) (by kernel_rfl) (Nat.le_of_ble_eq_true (by kernel_rfl)) (by kernel_rfl)
/-! ### cmp_Compare_int64 -/
noncomputable def cmp_Compare_int64.sig : Sig := ⟨[.val false (.int .i64), .val false (.int .i64)], [(.val false, (.int .i64), .deep)]⟩
noncomputable def cmp_Compare_int64.ctx : Ctx := ⟨tabOf tabl, [⟨180, cmp_isNaN_int64.sig, cmp_isNaN_int64.F⟩], [], [], []⟩
noncomputable def cmp_Compare_int64.cfg : Cfg := ⟨cmp_Compare_int64.ctx, [], [], fun _ => ([], []), fun _ => []⟩
noncomputable def cmp_Compare_int64.code : Code := (Go.Proofs.Try.f146).body.getD .skip
noncomputable def cmp_Compare_int64.fin := finK cmp_Compare_int64.ctx cmp_Compare_int64.sig [.tmp 4]
noncomputable def cmp_Compare_int64.F (d : Int × Int × Unit) : Option ((Int × Unit) × (Unit)) := anyK (runFn cmp_Compare_int64.cfg cmp_Compare_int64.fin cmp_Compare_int64.code (initSt cmp_Compare_int64.sig.ps d 20))
noncomputable def cmp_Compare_int64.T (x_1 : Int) (y_2 : Int) : Option ((Int × Unit) × (Unit)) :=
  (cmp_isNaN_int64.F (x_1, ())).bind fun r3 =>
    (cmp_isNaN_int64.F (y_2, ())).bind fun r4 =>
      if (r3.1.1 : Bool) = true then
        if (r4.1.1 : Bool) = true then
          some (((0 : Int), ()), ())
        else
          some (((-1 : Int), ()), ())
      else
        if (r4.1.1 : Bool) = true then
          some (((1 : Int), ()), ())
        else
          if (decide (x_1 < y_2)) = true then
            some (((-1 : Int), ()), ())
          else
            if (decide (x_1 > y_2)) = true then
              some (((1 : Int), ()), ())
            else
              some (((0 : Int), ()), ())
theorem cmp_Compare_int64.run (k : Nat) (x_1 : Int) (y_2 : Int) : runFn cmp_Compare_int64.cfg cmp_Compare_int64.fin cmp_Compare_int64.code (initSt cmp_Compare_int64.sig.ps (x_1, y_2, ()) 20) k = cmp_Compare_int64.T x_1 y_2 := by kernel_rfl
theorem cmp_Compare_int64.eq (x_1 : Int) (y_2 : Int) : cmp_Compare_int64.F (x_1, y_2, ()) = cmp_Compare_int64.T x_1 y_2 := (congrArg anyK (funext fun k => cmp_Compare_int64.run k x_1 y_2)).trans (anyK_const _)
theorem cmp_Compare_int64.ok : CtxOK Go.Proofs.Try.prog cmp_Compare_int64.ctx := ⟨List.forall_mem_nil _, mixed_ok, tab_ok tab_good, List.forall_mem_cons.2 ⟨cmp_isNaN_int64.S, List.forall_mem_nil _⟩, List.forall_mem_nil _, List.forall_mem_nil _⟩
theorem cmp_Compare_int64.S : Sound Go.Proofs.Try.prog ⟨146, cmp_Compare_int64.sig, cmp_Compare_int64.F⟩ := sound_any (fn := Go.Proofs.Try.f146) (code := cmp_Compare_int64.code) (g := cmp_Compare_int64.cfg) (res := [.tmp 4]) Go.Proofs.Try.func146 (by kernel_rfl) (by kernel_rfl) cmp_Compare_int64.ok (by kernel_rfl) (by kernel_rfl) (Nat.le_of_ble_eq_true (by kernel_rfl)) (by kernel_rfl)
/-! ### slices_Compare_Lint64_int64 -/
noncomputable def slices_Compare_Lint64_int64.sig : Sig := ⟨[.val false (.sl (.int .i64)), .val false (.sl (.int .i64))], [(.val false, (.int .i64), .deep)]⟩
noncomputable def slices_Compare_Lint64_int64.ctx : Ctx := ⟨tabOf tabl, [⟨146, cmp_Compare_int64.sig, cmp_Compare_int64.F⟩], [], [], []⟩
noncomputable def slices_Compare_Lint64_int64.cfg : Cfg := ⟨slices_Compare_Lint64_int64.ctx, [], [], fun id => match id with | 2 => ([0, 1, 9, 10, 11], []) | _ => ([], []), fun _ => []⟩
noncomputable def slices_Compare_Lint64_int64.code : Code := (Go.Proofs.Try.f155).body.getD .skip
noncomputable def slices_Compare_Lint64_int64.fin := finK slices_Compare_Lint64_int64.ctx slices_Compare_Lint64_int64.sig [.tmp 4]
noncomputable def slices_Compare_Lint64_int64.F (d : List Int × List Int × Unit) : Option ((Int × Unit) × (Unit)) := anyK (runFn slices_Compare_Lint64_int64.cfg slices_Compare_Lint64_int64.fin slices_Compare_Lint64_int64.code (initSt slices_Compare_Lint64_int64.sig.ps d 36))
noncomputable def slices_Compare_Lint64_int64.l2 (k : Nat) (x3 : List Int) (x4 : List Int) (x5 : List Int) (i6 : Int) (i7 : Int) : Option ((Int × Unit) × (Unit)) :=
  Go.Vm.runT slices_Compare_Lint64_int64.cfg slices_Compare_Lint64_int64.fin k [.inLoop (sub [1, 0, 1, 0, 0] slices_Compare_Lint64_int64.code), .inBlock 0, .code (sub [1, 1] slices_Compare_Lint64_int64.code)]
    ⟨[.val false [⟨(.sl (.int .i64)), .sh, x3⟩], .val false [⟨(.sl (.int .i64)), .sh, x4⟩], .dead, .dead, .dead, .dead, .dead, .dead, .dead, .val false [⟨(.sl (.int .i64)), .sh, x5⟩], .val false [⟨(.int .i64), .sh, i6⟩], .val false [⟨(.int .i64), .sh, i7⟩]] ++ deads 24, []⟩
theorem slices_Compare_Lint64_int64.l2_eq (k : Nat) (x3 : List Int) (x4 : List Int) (x5 : List Int) (i6 : Int) (i7 : Int) : slices_Compare_Lint64_int64.l2 (k + 1) x3 x4 x5 i6 i7 =
  if (decide (i7 < i6)) = true then
    if 0 ≤ i7 ∧ i7 < (x5.length : Int) then
      if (decide (i7 ≥ (x4.length : Int))) = true then
        some (((1 : Int), ()), ())
      else
        if 0 ≤ i7 ∧ i7 < (x4.length : Int) then
          (cmp_Compare_int64.F ((x5.getD i7.toNat 0 : Int), (x4.getD i7.toNat 0 : Int), ())).bind fun r8 =>
            if ((r8.1.1 : Int) != (0 : Int)) = true then
              some (((r8.1.1 : Int), ()), ())
            else
              slices_Compare_Lint64_int64.l2 k x3 x4 x5 i6 (IntKind.i64.wrap (i7 + (1 : Int)))
        else
          none
    else
      none
  else
    if (decide ((x3.length : Int) < (x4.length : Int))) = true then
      some (((-1 : Int), ()), ())
    else
      some (((0 : Int), ()), ()) := by kernel_rfl
noncomputable def slices_Compare_Lint64_int64.T (k : Nat) (s1_1 : List Int) (s2_2 : List Int) : Option ((Int × Unit) × (Unit)) :=
  slices_Compare_Lint64_int64.l2 k s1_1 s2_2 s1_1 (s1_1.length : Int) (0 : Int)
theorem slices_Compare_Lint64_int64.run (k : Nat) (s1_1 : List Int) (s2_2 : List Int) : runFn slices_Compare_Lint64_int64.cfg slices_Compare_Lint64_int64.fin slices_Compare_Lint64_int64.code (initSt slices_Compare_Lint64_int64.sig.ps (s1_1, s2_2, ()) 36) k = slices_Compare_Lint64_int64.T k s1_1 s2_2 := by kernel_rfl
theorem slices_Compare_Lint64_int64.of (s1_1 : List Int) (s2_2 : List Int) {r : (Int × Unit) × (Unit)} (h : Ev (fun k => slices_Compare_Lint64_int64.T k s1_1 s2_2) r) : slices_Compare_Lint64_int64.F (s1_1, s2_2, ()) = some r := Ev.run (fun k => slices_Compare_Lint64_int64.run k s1_1 s2_2) h
theorem slices_Compare_Lint64_int64.ok : CtxOK Go.Proofs.Try.prog slices_Compare_Lint64_int64.ctx := ⟨List.forall_mem_nil _, mixed_ok, tab_ok tab_good, List.forall_mem_cons.2 ⟨cmp_Compare_int64.S, List.forall_mem_nil _⟩, List.forall_mem_nil _, List.forall_mem_nil _⟩
theorem slices_Compare_Lint64_int64.S : Sound Go.Proofs.Try.prog ⟨155, slices_Compare_Lint64_int64.sig, slices_Compare_Lint64_int64.F⟩ := sound_any (fn := Go.Proofs.Try.f155) (code := slices_Compare_Lint64_int64.code) (g := slices_Compare_Lint64_int64.cfg) (res := [.tmp 4]) Go.Proofs.Try.func155 (by kernel_rfl) (by kernel_rfl) slices_Compare_Lint64_int64.ok (by kernel_rfl) (by kernel_rfl) (Nat.le_of_ble_eq_true (by kernel_rfl)) (by kernel_rfl)
/-! ### impl_compareSimplices -/
noncomputable def impl_compareSimplices.sig : Sig := ⟨[.val false (.sl (.int .i64)), .val false (.sl (.int .i64))], [(.val false, (.int .i64), .deep)]⟩
noncomputable def impl_compareSimplices.ctx : Ctx := ⟨tabOf tabl, [⟨145, cmp_Or_int.sig, cmp_Or_int.F⟩, ⟨154, cmp_Compare_int.sig, cmp_Compare_int.F⟩, ⟨155, slices_Compare_Lint64_int64.sig, slices_Compare_Lint64_int64.F⟩], [], [], []⟩
noncomputable def impl_compareSimplices.cfg : Cfg := ⟨impl_compareSimplices.ctx, [], [], fun _ => ([], []), fun _ => []⟩
noncomputable def impl_compareSimplices.code : Code := (Go.Proofs.Try.f117).body.getD .skip
noncomputable def impl_compareSimplices.fin := finK impl_compareSimplices.ctx impl_compareSimplices.sig [.tmp 4]
noncomputable def impl_compareSimplices.F (d : List Int × List Int × Unit) : Option ((Int × Unit) × (Unit)) := anyK (runFn impl_compareSimplices.cfg impl_compareSimplices.fin impl_compareSimplices.code (initSt impl_compareSimplices.sig.ps d 15))
noncomputable def impl_compareSimplices.T (a_1 : List Int) (b_2 : List Int) : Option ((Int × Unit) × (Unit)) :=
  (cmp_Compare_int.F ((a_1.length : Int), (b_2.length : Int), ())).bind fun r3 =>
    (slices_Compare_Lint64_int64.F (a_1, b_2, ())).bind fun r4 =>
      (cmp_Or_int.F ([(r3.1.1 : Int), (r4.1.1 : Int)], ())).bind fun r5 =>
        some (((r5.1.1 : Int), ()), ())
theorem impl_compareSimplices.run (k : Nat) (a_1 : List Int) (b_2 : List Int) : runFn impl_compareSimplices.cfg impl_compareSimplices.fin impl_compareSimplices.code (initSt impl_compareSimplices.sig.ps (a_1, b_2, ()) 15) k = impl_compareSimplices.T a_1 b_2 := by kernel_rfl
theorem impl_compareSimplices.eq (a_1 : List Int) (b_2 : List Int) : impl_compareSimplices.F (a_1, b_2, ()) = impl_compareSimplices.T a_1 b_2 := (congrArg anyK (funext fun k => impl_compareSimplices.run k a_1 b_2)).trans (anyK_const _)
theorem impl_compareSimplices.ok : CtxOK Go.Proofs.Try.prog impl_compareSimplices.ctx := ⟨List.forall_mem_nil _, mixed_ok, tab_ok tab_good, List.forall_mem_cons.2 ⟨cmp_Or_int.S, List.forall_mem_cons.2 ⟨cmp_Compare_int.S, List.forall_mem_cons.2 ⟨slices_Compare_Lint64_int64.S, List.forall_mem_nil _⟩⟩⟩, List.forall_mem_nil _, List.forall_mem_nil _⟩
theorem impl_compareSimplices.S : Sound Go.Proofs.Try.prog ⟨117, impl_compareSimplices.sig, impl_compareSimplices.F⟩ := sound_any (fn := Go.Proofs.Try.f117) (code := impl_compareSimplices.code) (g := impl_compareSimplices.cfg) (res := [.tmp 4]) Go.Proofs.Try.func117 (by kernel_rfl) (by kernel_rfl) impl_compareSimplices.ok (by kernel_rfl) (by kernel_rfl) (Nat.le_of_ble_eq_true (by kernel_rfl)) (by kernel_rfl)
noncomputable def impl_compareSimplices.cloG (y : Unit) (d : List Int × List Int × Unit) : Option (Int × Unit) := (impl_compareSimplices.F (joinIns [] [(false, (.sl (.int .i64))), (false, (.sl (.int .i64)))] d y)).map (·.1)
noncomputable def impl_compareSimplices.clo : Clo := ⟨117, ⟨[(false, (.sl (.int .i64))), (false, (.sl (.int .i64)))], [(.val false, (.int .i64), .deep)]⟩, [], impl_compareSimplices.cloG⟩
theorem impl_compareSimplices.cloS : SoundClo Go.Proofs.Try.prog impl_compareSimplices.clo := sound_clo (s := ⟨[(false, (.sl (.int .i64))), (false, (.sl (.int .i64)))], [(.val false, (.int .i64), .deep)]⟩) (caps := []) rfl impl_compareSimplices.S
/-! ### slices_IndexFunc_LLint64_Lint64 -/
noncomputable def slices_IndexFunc_LLint64_Lint64.sig : Sig := ⟨[.val false (.sl (.sl (.int .i64))), .fnx ⟨[(false, (.sl (.int .i64)))], [(.val false, .bool, .deep)]⟩], [(.val false, (.int .i64), .deep)]⟩
noncomputable def slices_IndexFunc_LLint64_Lint64.ctx : Ctx := ⟨tabOf tabl, [], [], [], []⟩
noncomputable def slices_IndexFunc_LLint64_Lint64.cfg : Cfg := ⟨slices_IndexFunc_LLint64_Lint64.ctx, [], [], fun id => match id with | 2 => ([0, 1, 7, 8], []) | _ => ([], []), fun _ => []⟩
noncomputable def slices_IndexFunc_LLint64_Lint64.code : Code := (Go.Proofs.Try.f156).body.getD .skip
noncomputable def slices_IndexFunc_LLint64_Lint64.fin := finK slices_IndexFunc_LLint64_Lint64.ctx slices_IndexFunc_LLint64_Lint64.sig [.tmp 4]
noncomputable def slices_IndexFunc_LLint64_Lint64.F (d : List (List Int) × ((List Int × Unit) → Option (Bool × Unit)) × Unit) : Option ((Int × Unit) × (Unit)) := anyK (runFn slices_IndexFunc_LLint64_Lint64.cfg slices_IndexFunc_LLint64_Lint64.fin slices_IndexFunc_LLint64_Lint64.code (initSt slices_IndexFunc_LLint64_Lint64.sig.ps d 19))
noncomputable def slices_IndexFunc_LLint64_Lint64.l2 (k : Nat) (x3 : List (List Int)) (f4 : (List Int × Unit) → Option (Bool × Unit)) (i5 : Int) (i6 : Int) : Option ((Int × Unit) × (Unit)) :=
  Go.Vm.runT slices_IndexFunc_LLint64_Lint64.cfg slices_IndexFunc_LLint64_Lint64.fin k [.inLoop (sub [1, 0, 1, 0, 0] slices_IndexFunc_LLint64_Lint64.code), .inBlock 0, .code (sub [1, 1] slices_IndexFunc_LLint64_Lint64.code)]
    ⟨[.val false [⟨(.sl (.sl (.int .i64))), .sh, x3⟩], .fnx ⟨[(false, (.sl (.int .i64)))], [(.val false, .bool, .deep)]⟩ f4, .dead, .dead, .dead, .dead, .dead, .val false [⟨(.int .i64), .sh, i5⟩], .val false [⟨(.int .i64), .sh, i6⟩]] ++ deads 10, []⟩
theorem slices_IndexFunc_LLint64_Lint64.l2_eq (k : Nat) (x3 : List (List Int)) (f4 : (List Int × Unit) → Option (Bool × Unit)) (i5 : Int) (i6 : Int) : slices_IndexFunc_LLint64_Lint64.l2 (k + 1) x3 f4 i5 i6 =
  if (decide (i6 < i5)) = true then
    if 0 ≤ i6 ∧ i6 < (x3.length : Int) then
      (f4 (x3.getD i6.toNat ([] : List Int), ())).bind fun r7 =>
        if (r7.1 : Bool) = true then
          some ((i6, ()), ())
        else
          slices_IndexFunc_LLint64_Lint64.l2 k x3 f4 i5 (IntKind.i64.wrap (i6 + (1 : Int)))
    else
      none
  else
    some (((-1 : Int), ()), ()) := by kernel_rfl
noncomputable def slices_IndexFunc_LLint64_Lint64.T (k : Nat) (s_1 : List (List Int)) (f_2 : (List Int × Unit) → Option (Bool × Unit)) : Option ((Int × Unit) × (Unit)) :=
  slices_IndexFunc_LLint64_Lint64.l2 k s_1 f_2 (s_1.length : Int) (0 : Int)
theorem slices_IndexFunc_LLint64_Lint64.run (k : Nat) (s_1 : List (List Int)) (f_2 : (List Int × Unit) → Option (Bool × Unit)) : runFn slices_IndexFunc_LLint64_Lint64.cfg slices_IndexFunc_LLint64_Lint64.fin slices_IndexFunc_LLint64_Lint64.code (initSt slices_IndexFunc_LLint64_Lint64.sig.ps (s_1, f_2, ()) 19) k = slices_IndexFunc_LLint64_Lint64.T k s_1 f_2 := by kernel_rfl
theorem slices_IndexFunc_LLint64_Lint64.of (s_1 : List (List Int)) (f_2 : (List Int × Unit) → Option (Bool × Unit)) {r : (Int × Unit) × (Unit)} (h : Ev (fun k => slices_IndexFunc_LLint64_Lint64.T k s_1 f_2) r) : slices_IndexFunc_LLint64_Lint64.F (s_1, f_2, ()) = some r := Ev.run (fun k => slices_IndexFunc_LLint64_Lint64.run k s_1 f_2) h
theorem slices_IndexFunc_LLint64_Lint64.ok : CtxOK Go.Proofs.Try.prog slices_IndexFunc_LLint64_Lint64.ctx := ⟨List.forall_mem_nil _, mixed_ok, tab_ok tab_good, List.forall_mem_nil _, List.forall_mem_nil _, List.forall_mem_nil _⟩
theorem slices_IndexFunc_LLint64_Lint64.S : Sound Go.Proofs.Try.prog ⟨156, slices_IndexFunc_LLint64_Lint64.sig, slices_IndexFunc_LLint64_Lint64.F⟩ := sound_any (fn := Go.Proofs.Try.f156) (code := slices_IndexFunc_LLint64_Lint64.code) (g := slices_IndexFunc_LLint64_Lint64.cfg) (res := [.tmp 4]) Go.Proofs.Try.func156 (by kernel_rfl) (by kernel_rfl) slices_IndexFunc_LLint64_Lint64.ok (by kernel_rfl) (by kernel_rfl) (Nat.le_of_ble_eq_true (by kernel_rfl)) (by kernel_rfl)
/-! ### slices_ContainsFunc_LLint64_Lint64 -/
noncomputable def slices_ContainsFunc_LLint64_Lint64.sig : Sig := ⟨[.val false (.sl (.sl (.int .i64))), .fnx ⟨[(false, (.sl (.int .i64)))], [(.val false, .bool, .deep)]⟩], [(.val false, .bool, .deep)]⟩
noncomputable def slices_ContainsFunc_LLint64_Lint64.ctx : Ctx := ⟨tabOf tabl, [⟨156, slices_IndexFunc_LLint64_Lint64.sig, slices_IndexFunc_LLint64_Lint64.F⟩], [], [], []⟩
noncomputable def slices_ContainsFunc_LLint64_Lint64.cfg : Cfg := ⟨slices_ContainsFunc_LLint64_Lint64.ctx, [], [], fun _ => ([], []), fun _ => []⟩
noncomputable def slices_ContainsFunc_LLint64_Lint64.code : Code := (Go.Proofs.Try.f118).body.getD .skip
noncomputable def slices_ContainsFunc_LLint64_Lint64.fin := finK slices_ContainsFunc_LLint64_Lint64.ctx slices_ContainsFunc_LLint64_Lint64.sig [.tmp 4]
noncomputable def slices_ContainsFunc_LLint64_Lint64.F (d : List (List Int) × ((List Int × Unit) → Option (Bool × Unit)) × Unit) : Option ((Bool × Unit) × (Unit)) := anyK (runFn slices_ContainsFunc_LLint64_Lint64.cfg slices_ContainsFunc_LLint64_Lint64.fin slices_ContainsFunc_LLint64_Lint64.code (initSt slices_ContainsFunc_LLint64_Lint64.sig.ps d 9))
noncomputable def slices_ContainsFunc_LLint64_Lint64.T (s_1 : List (List Int)) (f_2 : (List Int × Unit) → Option (Bool × Unit)) : Option ((Bool × Unit) × (Unit)) :=
  (slices_IndexFunc_LLint64_Lint64.F (s_1, f_2, ())).bind fun r3 =>
    some ((decide ((r3.1.1 : Int) ≥ (0 : Int)), ()), ())
theorem slices_ContainsFunc_LLint64_Lint64.run (k : Nat) (s_1 : List (List Int)) (f_2 : (List Int × Unit) → Option (Bool × Unit)) : runFn slices_ContainsFunc_LLint64_Lint64.cfg slices_ContainsFunc_LLint64_Lint64.fin slices_ContainsFunc_LLint64_Lint64.code (initSt slices_ContainsFunc_LLint64_Lint64.sig.ps (s_1, f_2, ()) 9) k = slices_ContainsFunc_LLint64_Lint64.T s_1 f_2 := by kernel_rfl
theorem slices_ContainsFunc_LLint64_Lint64.eq (s_1 : List (List Int)) (f_2 : (List Int × Unit) → Option (Bool × Unit)) : slices_ContainsFunc_LLint64_Lint64.F (s_1, f_2, ()) = slices_ContainsFunc_LLint64_Lint64.T s_1 f_2 := (congrArg anyK (funext fun k => slices_ContainsFunc_LLint64_Lint64.run k s_1 f_2)).trans (anyK_const _)
theorem slices_ContainsFunc_LLint64_Lint64.ok : CtxOK Go.Proofs.Try.prog slices_ContainsFunc_LLint64_Lint64.ctx := ⟨List.forall_mem_nil _, mixed_ok, tab_ok tab_good, List.forall_mem_cons.2 ⟨slices_IndexFunc_LLint64_Lint64.S, List.forall_mem_nil _⟩, List.forall_mem_nil _, List.forall_mem_nil _⟩
theorem slices_ContainsFunc_LLint64_Lint64.S : Sound Go.Proofs.Try.prog ⟨118, slices_ContainsFunc_LLint64_Lint64.sig, slices_ContainsFunc_LLint64_Lint64.F⟩ := sound_any (fn := Go.Proofs.Try.f118) (code := slices_ContainsFunc_LLint64_Lint64.code) (g := slices_ContainsFunc_LLint64_Lint64.cfg) (res := [.tmp 4]) Go.Proofs.Try.func118 (by kernel_rfl) (by kernel_rfl) slices_ContainsFunc_LLint64_Lint64.ok (by kernel_rfl) (by kernel_rfl) (Nat.le_of_ble_eq_true (by kernel_rfl)) (by kernel_rfl)
/-! ### slices_Concat_Lint64_int64 -/
noncomputable def slices_Concat_Lint64_int64.sig : Sig := ⟨[.val false (.sl (.sl (.int .i64)))], [(.fr false, (.sl (.int .i64)), .deep)]⟩
noncomputable def slices_Concat_Lint64_int64.ctx : Ctx := ⟨tabOf tabl, [], [], [], [(183, (.int .i64))]⟩
noncomputable def slices_Concat_Lint64_int64.cfg : Cfg := ⟨slices_Concat_Lint64_int64.ctx, [], [], fun id => match id with | 3 => ([0, 3, 9, 10, 11], []) | 11 => ([6, 25, 26, 27], [24]) | _ => ([], []), fun _ => []⟩
noncomputable def slices_Concat_Lint64_int64.code : Code := (Go.Proofs.Try.f157).body.getD .skip
noncomputable def slices_Concat_Lint64_int64.fin := finK slices_Concat_Lint64_int64.ctx slices_Concat_Lint64_int64.sig [.tmp 2]
noncomputable def slices_Concat_Lint64_int64.F (d : List (List Int) × Unit) : Option ((List Int × Unit) × (Unit)) := anyK (runFn slices_Concat_Lint64_int64.cfg slices_Concat_Lint64_int64.fin slices_Concat_Lint64_int64.code (initSt slices_Concat_Lint64_int64.sig.ps d 36))
noncomputable def slices_Concat_Lint64_int64.l3 (k : Nat) (x2 : List (List Int)) (i3 : Int) (x4 : List (List Int)) (i5 : Int) (i6 : Int) : Option ((List Int × Unit) × (Unit)) :=
  Go.Vm.runT slices_Concat_Lint64_int64.cfg slices_Concat_Lint64_int64.fin k [.inLoop (sub [1, 1, 0, 1, 0, 0] slices_Concat_Lint64_int64.code), .inBlock 0, .code (sub [1, 1, 1] slices_Concat_Lint64_int64.code)]
    ⟨[.val false [⟨(.sl (.sl (.int .i64))), .sh, x2⟩], .dead, .dead, .val false [⟨(.int .i64), .sh, i3⟩], .dead, .dead, .dead, .dead, .dead, .val false [⟨(.sl (.sl (.int .i64))), .sh, x4⟩], .val false [⟨(.int .i64), .sh, i5⟩], .val false [⟨(.int .i64), .sh, i6⟩]] ++ deads 24, []⟩
noncomputable def slices_Concat_Lint64_int64.l11 (k : Nat) (x7 : List (List Int)) (i8 : Int) (i9 : Int) (x10 : List Int) : Option ((List Int × Unit) × (Unit)) :=
  Go.Vm.runT slices_Concat_Lint64_int64.cfg slices_Concat_Lint64_int64.fin k [.inLoop (sub [1, 1, 1, 1, 0, 1, 0, 0] slices_Concat_Lint64_int64.code), .inBlock 2, .code (sub [1, 1, 1, 1, 1] slices_Concat_Lint64_int64.code)]
    ⟨[.dead, .dead, .dead, .dead, .dead, .dead, .view 24 (.root 0) 1 false, .dead, .dead, .dead, .dead, .dead, .dead, .dead, .dead, .dead, .dead, .dead, .dead, .dead, .dead, .dead, .dead, .dead, .dead, .val false [⟨(.sl (.sl (.int .i64))), .sh, x7⟩], .val false [⟨(.int .i64), .sh, i8⟩], .val false [⟨(.int .i64), .sh, i9⟩]] ++ deads 8, [(24, ⟨false, [⟨(.sl (.int .i64)), .deep, x10⟩]⟩)]⟩
theorem slices_Concat_Lint64_int64.l3_eq (k : Nat) (x2 : List (List Int)) (i3 : Int) (x4 : List (List Int)) (i5 : Int) (i6 : Int) : slices_Concat_Lint64_int64.l3 (k + 1) x2 i3 x4 i5 i6 =
  if (decide (i6 < i5)) = true then
    if 0 ≤ i6 ∧ i6 < (x4.length : Int) then
      if (decide ((IntKind.i64.wrap (i3 + ((x4.getD i6.toNat ([] : List Int)).length : Int))) < (0 : Int))) = true then
        none
      else
        slices_Concat_Lint64_int64.l3 k x2 (IntKind.i64.wrap (i3 + ((x4.getD i6.toNat ([] : List Int)).length : Int))) x4 i5 (IntKind.i64.wrap (i6 + (1 : Int)))
    else
      none
  else
    if 0 ≤ i3 ∧ i3 ≤ (bigN : Int) then
      slices_Concat_Lint64_int64.l11 k x2 (x2.length : Int) (0 : Int) ([] : List Int)
    else
      none := by kernel_rfl
theorem slices_Concat_Lint64_int64.l11_eq (k : Nat) (x7 : List (List Int)) (i8 : Int) (i9 : Int) (x10 : List Int) : slices_Concat_Lint64_int64.l11 (k + 1) x7 i8 i9 x10 =
  if (decide (i9 < i8)) = true then
    if 0 ≤ i9 ∧ i9 < (x7.length : Int) then
      if x10.length + (x7.getD i9.toNat ([] : List Int)).length ≤ bigA then
        slices_Concat_Lint64_int64.l11 k x7 i8 (IntKind.i64.wrap (i9 + (1 : Int))) (x10 ++ (x7.getD i9.toNat ([] : List Int)))
      else
        none
    else
      none
  else
    some ((x10, ()), ()) := by kernel_rfl
noncomputable def slices_Concat_Lint64_int64.T (k : Nat) (slices_1 : List (List Int)) : Option ((List Int × Unit) × (Unit)) :=
  slices_Concat_Lint64_int64.l3 k slices_1 (0 : Int) slices_1 (slices_1.length : Int) (0 : Int)
theorem slices_Concat_Lint64_int64.run (k : Nat) (slices_1 : List (List Int)) : runFn slices_Concat_Lint64_int64.cfg slices_Concat_Lint64_int64.fin slices_Concat_Lint64_int64.code (initSt slices_Concat_Lint64_int64.sig.ps (slices_1, ()) 36) k = slices_Concat_Lint64_int64.T k slices_1 := by kernel_rfl
theorem slices_Concat_Lint64_int64.of (slices_1 : List (List Int)) {r : (List Int × Unit) × (Unit)} (h : Ev (fun k => slices_Concat_Lint64_int64.T k slices_1) r) : slices_Concat_Lint64_int64.F (slices_1, ()) = some r := Ev.run (fun k => slices_Concat_Lint64_int64.run k slices_1) h
theorem slices_Concat_Lint64_int64.ok : CtxOK Go.Proofs.Try.prog slices_Concat_Lint64_int64.ctx := ⟨List.forall_mem_nil _, mixed_ok, tab_ok tab_good, List.forall_mem_nil _, List.forall_mem_nil _, List.forall_mem_cons.2 ⟨slices_Grow_Lint64_int64.growOK, List.forall_mem_nil _⟩⟩
theorem slices_Concat_Lint64_int64.S : Sound Go.Proofs.Try.prog ⟨157, slices_Concat_Lint64_int64.sig, slices_Concat_Lint64_int64.F⟩ := sound_any (fn := Go.Proofs.Try.f157) (code := slices_Concat_Lint64_int64.code) (g := slices_Concat_Lint64_int64.cfg) (res := [.tmp 2]) Go.Proofs.Try.func157 (by kernel_rfl) (by kernel_rfl) slices_Concat_Lint64_int64.ok (by kernel_rfl) (by kernel_rfl) (Nat.le_of_ble_eq_true (by kernel_rfl)) (by kernel_rfl)
/-! ### impl_facesOf -/
noncomputable def impl_facesOf.sig : Sig := ⟨[.val false (.sl (.int .i64))], [(.val false, (.sl (.sl (.int .i64))), .shal)]⟩
noncomputable def impl_facesOf.ctx : Ctx := ⟨tabOf tabl, [⟨157, slices_Concat_Lint64_int64.sig, slices_Concat_Lint64_int64.F⟩], [], [], []⟩
noncomputable def impl_facesOf.cfg : Cfg := ⟨impl_facesOf.ctx, [], [], fun id => match id with | 3 => ([0, 3, 6, 7], [12]) | _ => ([], []), fun id => match id with | 3 => [12] | _ => []⟩
noncomputable def impl_facesOf.code : Code := (Go.Proofs.Try.f119).body.getD .skip
noncomputable def impl_facesOf.fin := finK impl_facesOf.ctx impl_facesOf.sig [.tmp 2]
noncomputable def impl_facesOf.F (d : List Int × Unit) : Option ((List (List Int) × Unit) × (Unit)) := anyK (runFn impl_facesOf.cfg impl_facesOf.fin impl_facesOf.code (initSt impl_facesOf.sig.ps d 27))
noncomputable def impl_facesOf.l3 (k : Nat) (x2 : List Int) (i3 : Int) (i4 : Int) (x5 : List (List Int)) : Option ((List (List Int) × Unit) × (Unit)) :=
  Go.Vm.runT impl_facesOf.cfg impl_facesOf.fin k [.inLoop (sub [1, 1, 0, 1, 0, 0] impl_facesOf.code), .inBlock 0, .code (sub [1, 1, 1] impl_facesOf.code)]
    ⟨[.val false [⟨(.sl (.int .i64)), .sh, x2⟩], .dead, .dead, .view 12 (.root 0) 1 false, .dead, .dead, .val false [⟨(.int .i64), .sh, i3⟩], .val false [⟨(.int .i64), .sh, i4⟩]] ++ deads 19, [(12, ⟨false, [⟨(.sl (.sl (.int .i64))), .shal, x5⟩]⟩)]⟩
theorem impl_facesOf.l3_eq (k : Nat) (x2 : List Int) (i3 : Int) (i4 : Int) (x5 : List (List Int)) : impl_facesOf.l3 (k + 1) x2 i3 i4 x5 =
  if (decide (i4 < i3)) = true then
    if (decide ((x2.length : Int) > (1 : Int))) = true then
      if 0 ≤ (0 : Int) ∧ (0 : Int) ≤ i4 ∧ i4 ≤ (x2.length : Int) then
        if 0 ≤ (IntKind.i64.wrap (i4 + (1 : Int))) ∧ (IntKind.i64.wrap (i4 + (1 : Int))) ≤ (x2.length : Int) ∧ (x2.length : Int) ≤ (x2.length : Int) then
          (slices_Concat_Lint64_int64.F ([cutL x2 (0 : Int) i4, cutL x2 (IntKind.i64.wrap (i4 + (1 : Int))) (x2.length : Int)], ())).bind fun r6 =>
            if x5.length + ([r6.1.1] : List (List Int)).length ≤ bigA then
              impl_facesOf.l3 k x2 i3 (IntKind.i64.wrap (i4 + (1 : Int))) (x5 ++ ([r6.1.1]))
            else
              none
        else
          none
      else
        none
    else
      impl_facesOf.l3 k x2 i3 (IntKind.i64.wrap (i4 + (1 : Int))) x5
  else
    some ((x5, ()), ()) := by kernel_rfl
noncomputable def impl_facesOf.T (k : Nat) (s_1 : List Int) : Option ((List (List Int) × Unit) × (Unit)) :=
  impl_facesOf.l3 k s_1 (s_1.length : Int) (0 : Int) ([])
theorem impl_facesOf.run (k : Nat) (s_1 : List Int) : runFn impl_facesOf.cfg impl_facesOf.fin impl_facesOf.code (initSt impl_facesOf.sig.ps (s_1, ()) 27) k = impl_facesOf.T k s_1 := by kernel_rfl
theorem impl_facesOf.of (s_1 : List Int) {r : (List (List Int) × Unit) × (Unit)} (h : Ev (fun k => impl_facesOf.T k s_1) r) : impl_facesOf.F (s_1, ()) = some r := Ev.run (fun k => impl_facesOf.run k s_1) h
theorem impl_facesOf.ok : CtxOK Go.Proofs.Try.prog impl_facesOf.ctx := ⟨List.forall_mem_nil _, mixed_ok, tab_ok tab_good, List.forall_mem_cons.2 ⟨slices_Concat_Lint64_int64.S, List.forall_mem_nil _⟩, List.forall_mem_nil _, List.forall_mem_nil _⟩
theorem impl_facesOf.S : Sound Go.Proofs.Try.prog ⟨119, impl_facesOf.sig, impl_facesOf.F⟩ := sound_any (fn := Go.Proofs.Try.f119) (code := impl_facesOf.code) (g := impl_facesOf.cfg) (res := [.tmp 2]) Go.Proofs.Try.func119 (by kernel_rfl) (by kernel_rfl) impl_facesOf.ok (by kernel_rfl) (by kernel_rfl) (Nat.le_of_ble_eq_true (by kernel_rfl)) (by kernel_rfl)
/-! ### slices_BinarySearchFunc_LLint64_Lint64_Lint64 -/
noncomputable def slices_BinarySearchFunc_LLint64_Lint64_Lint64.sig : Sig := ⟨[.val false (.sl (.sl (.int .i64))), .val false (.sl (.int .i64)), .fnx ⟨[(false, (.sl (.int .i64))), (false, (.sl (.int .i64)))], [(.val false, (.int .i64), .deep)]⟩], [(.val false, (.int .i64), .deep), (.val false, .bool, .deep)]⟩
noncomputable def slices_BinarySearchFunc_LLint64_Lint64_Lint64.ctx : Ctx := ⟨tabOf tabl, [], [], [], []⟩
noncomputable def slices_BinarySearchFunc_LLint64_Lint64_Lint64.cfg : Cfg := ⟨slices_BinarySearchFunc_LLint64_Lint64_Lint64.ctx, [], [], fun id => match id with | 3 => ([0, 1, 2, 8, 9, 10], []) | _ => ([], []), fun _ => []⟩
noncomputable def slices_BinarySearchFunc_LLint64_Lint64_Lint64.code : Code := (Go.Proofs.Try.f158).body.getD .skip
noncomputable def slices_BinarySearchFunc_LLint64_Lint64_Lint64.fin := finK slices_BinarySearchFunc_LLint64_Lint64_Lint64.ctx slices_BinarySearchFunc_LLint64_Lint64_Lint64.sig [.tmp 6, .tmp 7]
noncomputable def slices_BinarySearchFunc_LLint64_Lint64_Lint64.F (d : List (List Int) × List Int × ((List Int × List Int × Unit) → Option (Int × Unit)) × Unit) : Option ((Int × Bool × Unit) × (Unit)) := anyK (runFn slices_BinarySearchFunc_LLint64_Lint64_Lint64.cfg slices_BinarySearchFunc_LLint64_Lint64_Lint64.fin slices_BinarySearchFunc_LLint64_Lint64_Lint64.code (initSt slices_BinarySearchFunc_LLint64_Lint64_Lint64.sig.ps d 49))
noncomputable def slices_BinarySearchFunc_LLint64_Lint64_Lint64.l3 (k : Nat) (x4 : List (List Int)) (x5 : List Int) (f6 : (List Int × List Int × Unit) → Option (Int × Unit)) (i7 : Int) (i8 : Int) (i9 : Int) : Option ((Int × Bool × Unit) × (Unit)) :=
  Go.Vm.runT slices_BinarySearchFunc_LLint64_Lint64_Lint64.cfg slices_BinarySearchFunc_LLint64_Lint64_Lint64.fin k [.inLoop (sub [1, 1, 1, 0, 0, 0] slices_BinarySearchFunc_LLint64_Lint64_Lint64.code), .inBlock 0, .code (sub [1, 1, 1, 1] slices_BinarySearchFunc_LLint64_Lint64_Lint64.code)]
    ⟨[.val false [⟨(.sl (.sl (.int .i64))), .sh, x4⟩], .val false [⟨(.sl (.int .i64)), .sh, x5⟩], .fnx ⟨[(false, (.sl (.int .i64))), (false, (.sl (.int .i64)))], [(.val false, (.int .i64), .deep)]⟩ f6, .dead, .dead, .dead, .dead, .dead, .val false [⟨(.int .i64), .sh, i7⟩], .val false [⟨(.int .i64), .sh, i8⟩], .val false [⟨(.int .i64), .sh, i9⟩]] ++ deads 38, []⟩
theorem slices_BinarySearchFunc_LLint64_Lint64_Lint64.l3_eq (k : Nat) (x4 : List (List Int)) (x5 : List Int) (f6 : (List Int × List Int × Unit) → Option (Int × Unit)) (i7 : Int) (i8 : Int) (i9 : Int) : slices_BinarySearchFunc_LLint64_Lint64_Lint64.l3 (k + 1) x4 x5 f6 i7 i8 i9 =
  if (decide (i8 < i9)) = true then
    if (1 : Int) < 0 then
      none
    else
      if 0 ≤ (IntKind.i64.wrap ((IntKind.u64.wrap (IntKind.i64.wrap (i8 + i9))).fdiv (2 ^ (min (1 : Int).toNat IntKind.u64.bits)))) ∧ (IntKind.i64.wrap ((IntKind.u64.wrap (IntKind.i64.wrap (i8 + i9))).fdiv (2 ^ (min (1 : Int).toNat IntKind.u64.bits)))) < (x4.length : Int) then
        (f6 (x4.getD (IntKind.i64.wrap ((IntKind.u64.wrap (IntKind.i64.wrap (i8 + i9))).fdiv (2 ^ (min (1 : Int).toNat IntKind.u64.bits)))).toNat ([] : List Int), x5, ())).bind fun r10 =>
          if (decide ((r10.1 : Int) < (0 : Int))) = true then
            slices_BinarySearchFunc_LLint64_Lint64_Lint64.l3 k x4 x5 f6 i7 (IntKind.i64.wrap ((IntKind.i64.wrap ((IntKind.u64.wrap (IntKind.i64.wrap (i8 + i9))).fdiv (2 ^ (min (1 : Int).toNat IntKind.u64.bits)))) + (1 : Int))) i9
          else
            slices_BinarySearchFunc_LLint64_Lint64_Lint64.l3 k x4 x5 f6 i7 i8 (IntKind.i64.wrap ((IntKind.u64.wrap (IntKind.i64.wrap (i8 + i9))).fdiv (2 ^ (min (1 : Int).toNat IntKind.u64.bits))))
      else
        none
  else
    if (decide (i8 < i7)) = true then
      if 0 ≤ i8 ∧ i8 < (x4.length : Int) then
        (f6 (x4.getD i8.toNat ([] : List Int), x5, ())).bind fun r11 =>
          some ((i8, ((r11.1 : Int) == (0 : Int), ())), ())
      else
        none
    else
      some ((i8, (false, ())), ()) := by kernel_rfl
noncomputable def slices_BinarySearchFunc_LLint64_Lint64_Lint64.T (k : Nat) (x_1 : List (List Int)) (target_2 : List Int) (f_3 : (List Int × List Int × Unit) → Option (Int × Unit)) : Option ((Int × Bool × Unit) × (Unit)) :=
  slices_BinarySearchFunc_LLint64_Lint64_Lint64.l3 k x_1 target_2 f_3 (x_1.length : Int) (0 : Int) (x_1.length : Int)
theorem slices_BinarySearchFunc_LLint64_Lint64_Lint64.run (k : Nat) (x_1 : List (List Int)) (target_2 : List Int) (f_3 : (List Int × List Int × Unit) → Option (Int × Unit)) : runFn slices_BinarySearchFunc_LLint64_Lint64_Lint64.cfg slices_BinarySearchFunc_LLint64_Lint64_Lint64.fin slices_BinarySearchFunc_LLint64_Lint64_Lint64.code (initSt slices_BinarySearchFunc_LLint64_Lint64_Lint64.sig.ps (x_1, target_2, f_3, ()) 49) k = slices_BinarySearchFunc_LLint64_Lint64_Lint64.T k x_1 target_2 f_3 := by kernel_rfl
theorem slices_BinarySearchFunc_LLint64_Lint64_Lint64.of (x_1 : List (List Int)) (target_2 : List Int) (f_3 : (List Int × List Int × Unit) → Option (Int × Unit)) {r : (Int × Bool × Unit) × (Unit)} (h : Ev (fun k => slices_BinarySearchFunc_LLint64_Lint64_Lint64.T k x_1 target_2 f_3) r) : slices_BinarySearchFunc_LLint64_Lint64_Lint64.F (x_1, target_2, f_3, ()) = some r := Ev.run (fun k => slices_BinarySearchFunc_LLint64_Lint64_Lint64.run k x_1 target_2 f_3) h
theorem slices_BinarySearchFunc_LLint64_Lint64_Lint64.ok : CtxOK Go.Proofs.Try.prog slices_BinarySearchFunc_LLint64_Lint64_Lint64.ctx := ⟨List.forall_mem_nil _, mixed_ok, tab_ok tab_good, List.forall_mem_nil _, List.forall_mem_nil _, List.forall_mem_nil _⟩
theorem slices_BinarySearchFunc_LLint64_Lint64_Lint64.S : Sound Go.Proofs.Try.prog ⟨158, slices_BinarySearchFunc_LLint64_Lint64_Lint64.sig, slices_BinarySearchFunc_LLint64_Lint64_Lint64.F⟩ := sound_any (fn := Go.Proofs.Try.f158) (code := slices_BinarySearchFunc_LLint64_Lint64_Lint64.code) (g := slices_BinarySearchFunc_LLint64_Lint64_Lint64.cfg) (res := [.tmp 6, .tmp 7]) Go.Proofs.Try.func158 (by kernel_rfl) (by kernel_rfl) slices_BinarySearchFunc_LLint64_Lint64_Lint64.ok (by kernel_rfl) (by kernel_rfl) (Nat.le_of_ble_eq_true (by kernel_rfl)) (by kernel_rfl)
/-! ### impl_indexOf -/
noncomputable def impl_indexOf.sig : Sig := ⟨[.val true (.sl (.sl (.int .i64))), .val false (.sl (.int .i64))], [(.val false, (.int .i64), .deep)]⟩
noncomputable def impl_indexOf.ctx : Ctx := ⟨tabOf tabl, [⟨158, slices_BinarySearchFunc_LLint64_Lint64_Lint64.sig, slices_BinarySearchFunc_LLint64_Lint64_Lint64.F⟩], [impl_compareSimplices.clo], [], []⟩
noncomputable def impl_indexOf.cfg : Cfg := ⟨impl_indexOf.ctx, [], [], fun _ => ([], []), fun _ => []⟩
noncomputable def impl_indexOf.code : Code := (Go.Proofs.Try.f121).body.getD .skip
noncomputable def impl_indexOf.fin := finK impl_indexOf.ctx impl_indexOf.sig [.tmp 4]
noncomputable def impl_indexOf.F (d : List (List Int) × List Int × Unit) : Option ((Int × Unit) × (Unit)) := anyK (runFn impl_indexOf.cfg impl_indexOf.fin impl_indexOf.code (initSt impl_indexOf.sig.ps d 17))
noncomputable def impl_indexOf.T (c_1 : List (List Int)) (s_2 : List Int) : Option ((Int × Unit) × (Unit)) :=
  (slices_BinarySearchFunc_LLint64_Lint64_Lint64.F (c_1, s_2, impl_compareSimplices.cloG (()), ())).bind fun r3 =>
    if (!(r3.1.2.1 : Bool)) = true then
      some (((-1 : Int), ()), ())
    else
      some (((r3.1.1 : Int), ()), ())
theorem impl_indexOf.run (k : Nat) (c_1 : List (List Int)) (s_2 : List Int) : runFn impl_indexOf.cfg impl_indexOf.fin impl_indexOf.code (initSt impl_indexOf.sig.ps (c_1, s_2, ()) 17) k = impl_indexOf.T c_1 s_2 := by kernel_rfl
theorem impl_indexOf.eq (c_1 : List (List Int)) (s_2 : List Int) : impl_indexOf.F (c_1, s_2, ()) = impl_indexOf.T c_1 s_2 := (congrArg anyK (funext fun k => impl_indexOf.run k c_1 s_2)).trans (anyK_const _)
theorem impl_indexOf.ok : CtxOK Go.Proofs.Try.prog impl_indexOf.ctx := ⟨List.forall_mem_nil _, mixed_ok, tab_ok tab_good, List.forall_mem_cons.2 ⟨slices_BinarySearchFunc_LLint64_Lint64_Lint64.S, List.forall_mem_nil _⟩, List.forall_mem_cons.2 ⟨impl_compareSimplices.cloS, List.forall_mem_nil _⟩, List.forall_mem_nil _⟩
theorem impl_indexOf.S : Sound Go.Proofs.Try.prog ⟨121, impl_indexOf.sig, impl_indexOf.F⟩ := sound_any (fn := Go.Proofs.Try.f121) (code := impl_indexOf.code) (g := impl_indexOf.cfg) (res := [.tmp 4]) Go.Proofs.Try.func121 (by kernel_rfl) (by kernel_rfl) impl_indexOf.ok (by kernel_rfl) (by kernel_rfl) (Nat.le_of_ble_eq_true (by kernel_rfl)) (by kernel_rfl)
/-! ### impl_ValidComplex_1 -/
noncomputable def impl_ValidComplex_1.sig : Sig := ⟨[.val false (.sl (.int .i64)), .rptr (.sl (.sl (.int .i64))), .rptr (.int .i64)], [(.val false, .bool, .deep)]⟩
noncomputable def impl_ValidComplex_1.ctx : Ctx := ⟨tabOf tabl, [⟨121, impl_indexOf.sig, impl_indexOf.F⟩], [], [], []⟩
noncomputable def impl_ValidComplex_1.cfg : Cfg := ⟨impl_ValidComplex_1.ctx, [], [], fun _ => ([], []), fun _ => []⟩
noncomputable def impl_ValidComplex_1.code : Code := (Go.Proofs.Try.f120).body.getD .skip
noncomputable def impl_ValidComplex_1.fin := finK impl_ValidComplex_1.ctx impl_ValidComplex_1.sig [.tmp 4]
noncomputable def impl_ValidComplex_1.F (d : List Int × List (List Int) × Int × Unit) : Option ((Bool × Unit) × (Unit)) := anyK (runFn impl_ValidComplex_1.cfg impl_ValidComplex_1.fin impl_ValidComplex_1.code (initSt impl_ValidComplex_1.sig.ps d 13))
noncomputable def impl_ValidComplex_1.T (f_1 : List Int) (a_2 : List (List Int)) (a_3 : Int) : Option ((Bool × Unit) × (Unit)) :=
  if 0 ≤ (0 : Int) ∧ (0 : Int) ≤ a_3 ∧ a_3 ≤ (a_2.length : Int) then
    (impl_indexOf.F (cutL a_2 (0 : Int) a_3, f_1, ())).bind fun r4 =>
      some ((decide ((r4.1.1 : Int) < (0 : Int)), ()), ())
  else
    none
theorem impl_ValidComplex_1.run (k : Nat) (f_1 : List Int) (a_2 : List (List Int)) (a_3 : Int) : runFn impl_ValidComplex_1.cfg impl_ValidComplex_1.fin impl_ValidComplex_1.code (initSt impl_ValidComplex_1.sig.ps (f_1, a_2, a_3, ()) 13) k = impl_ValidComplex_1.T f_1 a_2 a_3 := by kernel_rfl
theorem impl_ValidComplex_1.eq (f_1 : List Int) (a_2 : List (List Int)) (a_3 : Int) : impl_ValidComplex_1.F (f_1, a_2, a_3, ()) = impl_ValidComplex_1.T f_1 a_2 a_3 := (congrArg anyK (funext fun k => impl_ValidComplex_1.run k f_1 a_2 a_3)).trans (anyK_const _)
theorem impl_ValidComplex_1.ok : CtxOK Go.Proofs.Try.prog impl_ValidComplex_1.ctx := ⟨List.forall_mem_nil _, mixed_ok, tab_ok tab_good, List.forall_mem_cons.2 ⟨impl_indexOf.S, List.forall_mem_nil _⟩, List.forall_mem_nil _, List.forall_mem_nil _⟩
theorem impl_ValidComplex_1.S : Sound Go.Proofs.Try.prog ⟨120, impl_ValidComplex_1.sig, impl_ValidComplex_1.F⟩ := sound_any (fn := Go.Proofs.Try.f120) (code := impl_ValidComplex_1.code) (g := impl_ValidComplex_1.cfg) (res := [.tmp 4]) Go.Proofs.Try.func120 (by kernel_rfl) (by kernel_rfl) impl_ValidComplex_1.ok (by kernel_rfl) (by kernel_rfl) (Nat.le_of_ble_eq_true (by kernel_rfl)) (by kernel_rfl)
noncomputable def impl_ValidComplex_1.cloG (y : List (List Int) × Int × Unit) (d : List Int × Unit) : Option (Bool × Unit) := (impl_ValidComplex_1.F (joinIns [.rptr (.sl (.sl (.int .i64))), .rptr (.int .i64)] [(false, (.sl (.int .i64)))] d y)).map (·.1)
noncomputable def impl_ValidComplex_1.clo : Clo := ⟨120, ⟨[(false, (.sl (.int .i64)))], [(.val false, .bool, .deep)]⟩, [.rptr (.sl (.sl (.int .i64))), .rptr (.int .i64)], impl_ValidComplex_1.cloG⟩
theorem impl_ValidComplex_1.cloS : SoundClo Go.Proofs.Try.prog impl_ValidComplex_1.clo := sound_clo (s := ⟨[(false, (.sl (.int .i64)))], [(.val false, .bool, .deep)]⟩) (caps := [.rptr (.sl (.sl (.int .i64))), .rptr (.int .i64)]) rfl impl_ValidComplex_1.S
/-! ### impl_ValidComplex -/
noncomputable def impl_ValidComplex.sig : Sig := ⟨[.val true (.sl (.sl (.int .i64)))], [(.val false, .bool, .deep)]⟩
noncomputable def impl_ValidComplex.ctx : Ctx := ⟨tabOf tabl, [⟨116, impl_ValidSimplex.sig, impl_ValidSimplex.F⟩, ⟨117, impl_compareSimplices.sig, impl_compareSimplices.F⟩, ⟨118, slices_ContainsFunc_LLint64_Lint64.sig, slices_ContainsFunc_LLint64_Lint64.F⟩, ⟨119, impl_facesOf.sig, impl_facesOf.F⟩], [impl_ValidComplex_1.clo], [], []⟩
noncomputable def impl_ValidComplex.cfg : Cfg := ⟨impl_ValidComplex.ctx, [], [], fun id => match id with | 2 => ([1, 6, 7, 8], [4]) | _ => ([], []), fun _ => []⟩
noncomputable def impl_ValidComplex.code : Code := (Go.Proofs.Try.f70).body.getD .skip
noncomputable def impl_ValidComplex.fin := finK impl_ValidComplex.ctx impl_ValidComplex.sig [.tmp 2]
noncomputable def impl_ValidComplex.F (d : List (List Int) × Unit) : Option ((Bool × Unit) × (Unit)) := anyK (runFn impl_ValidComplex.cfg impl_ValidComplex.fin impl_ValidComplex.code (initSt impl_ValidComplex.sig.ps d 40))
noncomputable def impl_ValidComplex.l2 (k : Nat) (x2 : List (List Int)) (i3 : Int) (i4 : Int) (x5 : List (List Int)) : Option ((Bool × Unit) × (Unit)) :=
  Go.Vm.runT impl_ValidComplex.cfg impl_ValidComplex.fin k [.inLoop (sub [1, 0, 1, 0, 0] impl_ValidComplex.code), .inBlock 0, .code (sub [1, 1] impl_ValidComplex.code)]
    ⟨[.dead, .ref 4 (.root 0), .dead, .dead, .dead, .dead, .val false [⟨(.sl (.sl (.int .i64))), .sh, x2⟩], .val false [⟨(.int .i64), .sh, i3⟩], .val false [⟨(.int .i64), .sh, i4⟩]] ++ deads 31, [(4, ⟨true, [⟨(.sl (.sl (.int .i64))), .sh, x5⟩]⟩)]⟩
theorem impl_ValidComplex.l2_eq (k : Nat) (x2 : List (List Int)) (i3 : Int) (i4 : Int) (x5 : List (List Int)) : impl_ValidComplex.l2 (k + 1) x2 i3 i4 x5 =
  if (decide (i4 < i3)) = true then
    if 0 ≤ i4 ∧ i4 < (x2.length : Int) then
      (impl_ValidSimplex.F (x2.getD i4.toNat ([] : List Int), ())).bind fun r6 =>
        if (!(r6.1.1 : Bool)) = true then
          some ((false, ()), ())
        else
          if (decide (i4 > (0 : Int))) = true then
            if 0 ≤ (IntKind.i64.wrap (i4 - (1 : Int))) ∧ (IntKind.i64.wrap (i4 - (1 : Int))) < (x5.length : Int) then
              (impl_compareSimplices.F (x5.getD (IntKind.i64.wrap (i4 - (1 : Int))).toNat ([] : List Int), x2.getD i4.toNat ([] : List Int), ())).bind fun r7 =>
                if (decide ((r7.1.1 : Int) ≥ (0 : Int))) = true then
                  some ((false, ()), ())
                else
                  (impl_facesOf.F (x2.getD i4.toNat ([] : List Int), ())).bind fun r8 =>
                    (slices_ContainsFunc_LLint64_Lint64.F (r8.1.1, impl_ValidComplex_1.cloG (x5, i4, ()), ())).bind fun r9 =>
                      if (r9.1.1 : Bool) = true then
                        some ((false, ()), ())
                      else
                        impl_ValidComplex.l2 k x2 i3 (IntKind.i64.wrap (i4 + (1 : Int))) x5
            else
              none
          else
            (impl_facesOf.F (x2.getD i4.toNat ([] : List Int), ())).bind fun r10 =>
              (slices_ContainsFunc_LLint64_Lint64.F (r10.1.1, impl_ValidComplex_1.cloG (x5, i4, ()), ())).bind fun r11 =>
                if (r11.1.1 : Bool) = true then
                  some ((false, ()), ())
                else
                  impl_ValidComplex.l2 k x2 i3 (IntKind.i64.wrap (i4 + (1 : Int))) x5
    else
      none
  else
    some ((decide ((x5.length : Int) ≤ (48 : Int)), ()), ()) := by kernel_rfl
noncomputable def impl_ValidComplex.T (k : Nat) (c_1 : List (List Int)) : Option ((Bool × Unit) × (Unit)) :=
  impl_ValidComplex.l2 k c_1 (c_1.length : Int) (0 : Int) c_1
theorem impl_ValidComplex.run (k : Nat) (c_1 : List (List Int)) : runFn impl_ValidComplex.cfg impl_ValidComplex.fin impl_ValidComplex.code (initSt impl_ValidComplex.sig.ps (c_1, ()) 40) k = impl_ValidComplex.T k c_1 := by kernel_rfl
theorem impl_ValidComplex.of (c_1 : List (List Int)) {r : (Bool × Unit) × (Unit)} (h : Ev (fun k => impl_ValidComplex.T k c_1) r) : impl_ValidComplex.F (c_1, ()) = some r := Ev.run (fun k => impl_ValidComplex.run k c_1) h
theorem impl_ValidComplex.ok : CtxOK Go.Proofs.Try.prog impl_ValidComplex.ctx := ⟨List.forall_mem_nil _, mixed_ok, tab_ok tab_good, List.forall_mem_cons.2 ⟨impl_ValidSimplex.S, List.forall_mem_cons.2 ⟨impl_compareSimplices.S, List.forall_mem_cons.2 ⟨slices_ContainsFunc_LLint64_Lint64.S, List.forall_mem_cons.2 ⟨impl_facesOf.S, List.forall_mem_nil _⟩⟩⟩⟩, List.forall_mem_cons.2 ⟨impl_ValidComplex_1.cloS, List.forall_mem_nil _⟩, List.forall_mem_nil _⟩
theorem impl_ValidComplex.S : Sound Go.Proofs.Try.prog ⟨70, impl_ValidComplex.sig, impl_ValidComplex.F⟩ := sound_any (fn := Go.Proofs.Try.f70) (code := impl_ValidComplex.code) (g := impl_ValidComplex.cfg) (res := [.tmp 2]) Go.Proofs.Try.func70 (by kernel_rfl) (by kernel_rfl) impl_ValidComplex.ok (by kernel_rfl) (by kernel_rfl) (Nat.le_of_ble_eq_true (by kernel_rfl)) (by kernel_rfl)
/-! ### impl_isPart_1 -/
noncomputable def impl_isPart_1.sig : Sig := ⟨[.val false (.sl (.int .i64)), .rptr (.sl (.sl (.int .i64)))], [(.val false, .bool, .deep)]⟩
noncomputable def impl_isPart_1.ctx : Ctx := ⟨tabOf tabl, [⟨121, impl_indexOf.sig, impl_indexOf.F⟩], [], [], []⟩
noncomputable def impl_isPart_1.cfg : Cfg := ⟨impl_isPart_1.ctx, [], [], fun _ => ([], []), fun _ => []⟩
noncomputable def impl_isPart_1.code : Code := (Go.Proofs.Try.f122).body.getD .skip
noncomputable def impl_isPart_1.fin := finK impl_isPart_1.ctx impl_isPart_1.sig [.tmp 3]
noncomputable def impl_isPart_1.F (d : List Int × List (List Int) × Unit) : Option ((Bool × Unit) × (Unit)) := anyK (runFn impl_isPart_1.cfg impl_isPart_1.fin impl_isPart_1.code (initSt impl_isPart_1.sig.ps d 8))
noncomputable def impl_isPart_1.T (s_1 : List Int) (a_2 : List (List Int)) : Option ((Bool × Unit) × (Unit)) :=
  (impl_indexOf.F (a_2, s_1, ())).bind fun r3 =>
    some ((decide ((r3.1.1 : Int) < (0 : Int)), ()), ())
theorem impl_isPart_1.run (k : Nat) (s_1 : List Int) (a_2 : List (List Int)) : runFn impl_isPart_1.cfg impl_isPart_1.fin impl_isPart_1.code (initSt impl_isPart_1.sig.ps (s_1, a_2, ()) 8) k = impl_isPart_1.T s_1 a_2 := by kernel_rfl
theorem impl_isPart_1.eq (s_1 : List Int) (a_2 : List (List Int)) : impl_isPart_1.F (s_1, a_2, ()) = impl_isPart_1.T s_1 a_2 := (congrArg anyK (funext fun k => impl_isPart_1.run k s_1 a_2)).trans (anyK_const _)
theorem impl_isPart_1.ok : CtxOK Go.Proofs.Try.prog impl_isPart_1.ctx := ⟨List.forall_mem_nil _, mixed_ok, tab_ok tab_good, List.forall_mem_cons.2 ⟨impl_indexOf.S, List.forall_mem_nil _⟩, List.forall_mem_nil _, List.forall_mem_nil _⟩
theorem impl_isPart_1.S : Sound Go.Proofs.Try.prog ⟨122, impl_isPart_1.sig, impl_isPart_1.F⟩ := sound_any (fn := Go.Proofs.Try.f122) (code := impl_isPart_1.code) (g := impl_isPart_1.cfg) (res := [.tmp 3]) Go.Proofs.Try.func122 (by kernel_rfl) (by kernel_rfl) impl_isPart_1.ok (by kernel_rfl) (by kernel_rfl) (Nat.le_of_ble_eq_true (by kernel_rfl)) (by kernel_rfl)
noncomputable def impl_isPart_1.cloG (y : List (List Int) × Unit) (d : List Int × Unit) : Option (Bool × Unit) := (impl_isPart_1.F (joinIns [.rptr (.sl (.sl (.int .i64)))] [(false, (.sl (.int .i64)))] d y)).map (·.1)
noncomputable def impl_isPart_1.clo : Clo := ⟨122, ⟨[(false, (.sl (.int .i64)))], [(.val false, .bool, .deep)]⟩, [.rptr (.sl (.sl (.int .i64)))], impl_isPart_1.cloG⟩
theorem impl_isPart_1.cloS : SoundClo Go.Proofs.Try.prog impl_isPart_1.clo := sound_clo (s := ⟨[(false, (.sl (.int .i64)))], [(.val false, .bool, .deep)]⟩) (caps := [.rptr (.sl (.sl (.int .i64)))]) rfl impl_isPart_1.S
/-! ### impl_isPart -/
noncomputable def impl_isPart.sig : Sig := ⟨[.val true (.sl (.sl (.int .i64))), .val true (.sl (.sl (.int .i64)))], [(.val false, .bool, .deep)]⟩
noncomputable def impl_isPart.ctx : Ctx := ⟨tabOf tabl, [⟨118, slices_ContainsFunc_LLint64_Lint64.sig, slices_ContainsFunc_LLint64_Lint64.F⟩], [impl_isPart_1.clo], [], []⟩
noncomputable def impl_isPart.cfg : Cfg := ⟨impl_isPart.ctx, [], [], fun _ => ([], []), fun _ => []⟩
noncomputable def impl_isPart.code : Code := (Go.Proofs.Try.f71).body.getD .skip
noncomputable def impl_isPart.fin := finK impl_isPart.ctx impl_isPart.sig [.tmp 4]
noncomputable def impl_isPart.F (d : List (List Int) × List (List Int) × Unit) : Option ((Bool × Unit) × (Unit)) := anyK (runFn impl_isPart.cfg impl_isPart.fin impl_isPart.code (initSt impl_isPart.sig.ps d 10))
noncomputable def impl_isPart.T (part_1 : List (List Int)) (c_2 : List (List Int)) : Option ((Bool × Unit) × (Unit)) :=
  (slices_ContainsFunc_LLint64_Lint64.F (part_1, impl_isPart_1.cloG (c_2, ()), ())).bind fun r3 =>
    some ((!(r3.1.1 : Bool), ()), ())
theorem impl_isPart.run (k : Nat) (part_1 : List (List Int)) (c_2 : List (List Int)) : runFn impl_isPart.cfg impl_isPart.fin impl_isPart.code (initSt impl_isPart.sig.ps (part_1, c_2, ()) 10) k = impl_isPart.T part_1 c_2 := by kernel_rfl
theorem impl_isPart.eq (part_1 : List (List Int)) (c_2 : List (List Int)) : impl_isPart.F (part_1, c_2, ()) = impl_isPart.T part_1 c_2 := (congrArg anyK (funext fun k => impl_isPart.run k part_1 c_2)).trans (anyK_const _)
theorem impl_isPart.ok : CtxOK Go.Proofs.Try.prog impl_isPart.ctx := ⟨List.forall_mem_nil _, mixed_ok, tab_ok tab_good, List.forall_mem_cons.2 ⟨slices_ContainsFunc_LLint64_Lint64.S, List.forall_mem_nil _⟩, List.forall_mem_cons.2 ⟨impl_isPart_1.cloS, List.forall_mem_nil _⟩, List.forall_mem_nil _⟩
theorem impl_isPart.S : Sound Go.Proofs.Try.prog ⟨71, impl_isPart.sig, impl_isPart.F⟩ := sound_any (fn := Go.Proofs.Try.f71) (code := impl_isPart.code) (g := impl_isPart.cfg) (res := [.tmp 4]) Go.Proofs.Try.func71 (by kernel_rfl) (by kernel_rfl) impl_isPart.ok (by kernel_rfl) (by kernel_rfl) (Nat.le_of_ble_eq_true (by kernel_rfl)) (by kernel_rfl)
/-! ### impl_IsPart -/
noncomputable def impl_IsPart.sig : Sig := ⟨[.val true (.sl (.sl (.int .i64))), .val true (.sl (.sl (.int .i64)))], [(.val false, .bool, .deep)]⟩
noncomputable def impl_IsPart.ctx : Ctx := ⟨tabOf tabl, [⟨70, impl_ValidComplex.sig, impl_ValidComplex.F⟩, ⟨71, impl_isPart.sig, impl_isPart.F⟩], [], [], []⟩
noncomputable def impl_IsPart.cfg : Cfg := ⟨impl_IsPart.ctx, [], [], fun _ => ([], []), fun _ => []⟩
noncomputable def impl_IsPart.code : Code := (Go.Proofs.Try.f32).body.getD .skip
noncomputable def impl_IsPart.fin := finK impl_IsPart.ctx impl_IsPart.sig [.tmp 4]
noncomputable def impl_IsPart.F (d : List (List Int) × List (List Int) × Unit) : Option ((Bool × Unit) × (Unit)) := anyK (runFn impl_IsPart.cfg impl_IsPart.fin impl_IsPart.code (initSt impl_IsPart.sig.ps d 16))
noncomputable def impl_IsPart.T (part_1 : List (List Int)) (c_2 : List (List Int)) : Option ((Bool × Unit) × (Unit)) :=
  (impl_ValidComplex.F (part_1, ())).bind fun r3 =>
    if (r3.1.1 : Bool) = true then
      (impl_ValidComplex.F (c_2, ())).bind fun r4 =>
        if (r4.1.1 : Bool) = true then
          (impl_isPart.F (part_1, c_2, ())).bind fun r5 =>
            some (((r5.1.1 : Bool), ()), ())
        else
          some ((false, ()), ())
    else
      some ((false, ()), ())
theorem impl_IsPart.run (k : Nat) (part_1 : List (List Int)) (c_2 : List (List Int)) : runFn impl_IsPart.cfg impl_IsPart.fin impl_IsPart.code (initSt impl_IsPart.sig.ps (part_1, c_2, ()) 16) k = impl_IsPart.T part_1 c_2 := by kernel_rfl
theorem impl_IsPart.eq (part_1 : List (List Int)) (c_2 : List (List Int)) : impl_IsPart.F (part_1, c_2, ()) = impl_IsPart.T part_1 c_2 := (congrArg anyK (funext fun k => impl_IsPart.run k part_1 c_2)).trans (anyK_const _)
theorem impl_IsPart.ok : CtxOK Go.Proofs.Try.prog impl_IsPart.ctx := ⟨List.forall_mem_nil _, mixed_ok, tab_ok tab_good, List.forall_mem_cons.2 ⟨impl_ValidComplex.S, List.forall_mem_cons.2 ⟨impl_isPart.S, List.forall_mem_nil _⟩⟩, List.forall_mem_nil _, List.forall_mem_nil _⟩
theorem impl_IsPart.S : Sound Go.Proofs.Try.prog ⟨32, impl_IsPart.sig, impl_IsPart.F⟩ := sound_any (fn := Go.Proofs.Try.f32) (code := impl_IsPart.code) (g := impl_IsPart.cfg) (res := [.tmp 4]) Go.Proofs.Try.func32 (by kernel_rfl) (by kernel_rfl) impl_IsPart.ok (by kernel_rfl) (by kernel_rfl) (Nat.le_of_ble_eq_true (by kernel_rfl)) (by kernel_rfl)
/-! ### laws_eqInt64S -/
noncomputable def laws_eqInt64S.sig : Sig := ⟨[.val false (.sl (.int .i64)), .val false (.sl (.int .i64))], [(.val false, .bool, .deep)]⟩
noncomputable def laws_eqInt64S.ctx : Ctx := ⟨tabOf tabl, [], [], [], []⟩
noncomputable def laws_eqInt64S.cfg : Cfg := ⟨laws_eqInt64S.ctx, [], [], fun id => match id with | 4 => ([0, 1, 5], []) | _ => ([], []), fun _ => []⟩
noncomputable def laws_eqInt64S.code : Code := (Go.Proofs.Try.f18).body.getD .skip
noncomputable def laws_eqInt64S.fin := finK laws_eqInt64S.ctx laws_eqInt64S.sig [.tmp 4]
noncomputable def laws_eqInt64S.F (d : List Int × List Int × Unit) : Option ((Bool × Unit) × (Unit)) := anyK (runFn laws_eqInt64S.cfg laws_eqInt64S.fin laws_eqInt64S.code (initSt laws_eqInt64S.sig.ps d 26))
noncomputable def laws_eqInt64S.l4 (k : Nat) (x3 : List Int) (x4 : List Int) (i5 : Int) : Option ((Bool × Unit) × (Unit)) :=
  Go.Vm.runT laws_eqInt64S.cfg laws_eqInt64S.fin k [.inLoop (sub [1, 1, 0, 1, 0, 0] laws_eqInt64S.code), .inBlock 0, .code (sub [1, 1, 1] laws_eqInt64S.code)]
    ⟨[.val false [⟨(.sl (.int .i64)), .sh, x3⟩], .val false [⟨(.sl (.int .i64)), .sh, x4⟩], .dead, .dead, .dead, .val false [⟨(.int .i64), .sh, i5⟩]] ++ deads 20, []⟩
theorem laws_eqInt64S.l4_eq (k : Nat) (x3 : List Int) (x4 : List Int) (i5 : Int) : laws_eqInt64S.l4 (k + 1) x3 x4 i5 =
  if (decide (i5 < (x3.length : Int))) = true then
    if 0 ≤ i5 ∧ i5 < (x3.length : Int) then
      if 0 ≤ i5 ∧ i5 < (x4.length : Int) then
        if ((x3.getD i5.toNat 0 : Int) != (x4.getD i5.toNat 0 : Int)) = true then
          some ((false, ()), ())
        else
          laws_eqInt64S.l4 k x3 x4 (IntKind.i64.wrap (i5 + (1 : Int)))
      else
        none
    else
      none
  else
    some ((true, ()), ()) := by kernel_rfl
noncomputable def laws_eqInt64S.T (k : Nat) (a_1 : List Int) (b_2 : List Int) : Option ((Bool × Unit) × (Unit)) :=
  if ((a_1.length : Int) != (b_2.length : Int)) = true then
    some ((false, ()), ())
  else
    laws_eqInt64S.l4 k a_1 b_2 (0 : Int)
theorem laws_eqInt64S.run (k : Nat) (a_1 : List Int) (b_2 : List Int) : runFn laws_eqInt64S.cfg laws_eqInt64S.fin laws_eqInt64S.code (initSt laws_eqInt64S.sig.ps (a_1, b_2, ()) 26) k = laws_eqInt64S.T k a_1 b_2 := by kernel_rfl
theorem laws_eqInt64S.of (a_1 : List Int) (b_2 : List Int) {r : (Bool × Unit) × (Unit)} (h : Ev (fun k => laws_eqInt64S.T k a_1 b_2) r) : laws_eqInt64S.F (a_1, b_2, ()) = some r := Ev.run (fun k => laws_eqInt64S.run k a_1 b_2) h
theorem laws_eqInt64S.ok : CtxOK Go.Proofs.Try.prog laws_eqInt64S.ctx := ⟨List.forall_mem_nil _, mixed_ok, tab_ok tab_good, List.forall_mem_nil _, List.forall_mem_nil _, List.forall_mem_nil _⟩
theorem laws_eqInt64S.S : Sound Go.Proofs.Try.prog ⟨18, laws_eqInt64S.sig, laws_eqInt64S.F⟩ := sound_any (fn := Go.Proofs.Try.f18) (code := laws_eqInt64S.code) (g := laws_eqInt64S.cfg) (res := [.tmp 4]) Go.Proofs.Try.func18 (by kernel_rfl) (by kernel_rfl) laws_eqInt64S.ok (by kernel_rfl) (by kernel_rfl) (Nat.le_of_ble_eq_true (by kernel_rfl)) (by kernel_rfl)
/-! ### laws_eqInt64SS -/
noncomputable def laws_eqInt64SS.sig : Sig := ⟨[.val false (.sl (.sl (.int .i64))), .val false (.sl (.sl (.int .i64)))], [(.val false, .bool, .deep)]⟩
noncomputable def laws_eqInt64SS.ctx : Ctx := ⟨tabOf tabl, [⟨18, laws_eqInt64S.sig, laws_eqInt64S.F⟩], [], [], []⟩
noncomputable def laws_eqInt64SS.cfg : Cfg := ⟨laws_eqInt64SS.ctx, [], [], fun id => match id with | 4 => ([0, 1, 5], []) | _ => ([], []), fun _ => []⟩
noncomputable def laws_eqInt64SS.code : Code := (Go.Proofs.Try.f72).body.getD .skip
noncomputable def laws_eqInt64SS.fin := finK laws_eqInt64SS.ctx laws_eqInt64SS.sig [.tmp 4]
noncomputable def laws_eqInt64SS.F (d : List (List Int) × List (List Int) × Unit) : Option ((Bool × Unit) × (Unit)) := anyK (runFn laws_eqInt64SS.cfg laws_eqInt64SS.fin laws_eqInt64SS.code (initSt laws_eqInt64SS.sig.ps d 27))
noncomputable def laws_eqInt64SS.l4 (k : Nat) (x3 : List (List Int)) (x4 : List (List Int)) (i5 : Int) : Option ((Bool × Unit) × (Unit)) :=
  Go.Vm.runT laws_eqInt64SS.cfg laws_eqInt64SS.fin k [.inLoop (sub [1, 1, 0, 1, 0, 0] laws_eqInt64SS.code), .inBlock 0, .code (sub [1, 1, 1] laws_eqInt64SS.code)]
    ⟨[.val false [⟨(.sl (.sl (.int .i64))), .sh, x3⟩], .val false [⟨(.sl (.sl (.int .i64))), .sh, x4⟩], .dead, .dead, .dead, .val false [⟨(.int .i64), .sh, i5⟩]] ++ deads 21, []⟩
theorem laws_eqInt64SS.l4_eq (k : Nat) (x3 : List (List Int)) (x4 : List (List Int)) (i5 : Int) : laws_eqInt64SS.l4 (k + 1) x3 x4 i5 =
  if (decide (i5 < (x3.length : Int))) = true then
    if 0 ≤ i5 ∧ i5 < (x3.length : Int) then
      if 0 ≤ i5 ∧ i5 < (x4.length : Int) then
        (laws_eqInt64S.F (x3.getD i5.toNat ([] : List Int), x4.getD i5.toNat ([] : List Int), ())).bind fun r6 =>
          if (!(r6.1.1 : Bool)) = true then
            some ((false, ()), ())
          else
            laws_eqInt64SS.l4 k x3 x4 (IntKind.i64.wrap (i5 + (1 : Int)))
      else
        none
    else
      none
  else
    some ((true, ()), ()) := by kernel_rfl
noncomputable def laws_eqInt64SS.T (k : Nat) (a_1 : List (List Int)) (b_2 : List (List Int)) : Option ((Bool × Unit) × (Unit)) :=
  if ((a_1.length : Int) != (b_2.length : Int)) = true then
    some ((false, ()), ())
  else
    laws_eqInt64SS.l4 k a_1 b_2 (0 : Int)
theorem laws_eqInt64SS.run (k : Nat) (a_1 : List (List Int)) (b_2 : List (List Int)) : runFn laws_eqInt64SS.cfg laws_eqInt64SS.fin laws_eqInt64SS.code (initSt laws_eqInt64SS.sig.ps (a_1, b_2, ()) 27) k = laws_eqInt64SS.T k a_1 b_2 := by kernel_rfl
theorem laws_eqInt64SS.of (a_1 : List (List Int)) (b_2 : List (List Int)) {r : (Bool × Unit) × (Unit)} (h : Ev (fun k => laws_eqInt64SS.T k a_1 b_2) r) : laws_eqInt64SS.F (a_1, b_2, ()) = some r := Ev.run (fun k => laws_eqInt64SS.run k a_1 b_2) h
theorem laws_eqInt64SS.ok : CtxOK Go.Proofs.Try.prog laws_eqInt64SS.ctx := ⟨List.forall_mem_nil _, mixed_ok, tab_ok tab_good, List.forall_mem_cons.2 ⟨laws_eqInt64S.S, List.forall_mem_nil _⟩, List.forall_mem_nil _, List.forall_mem_nil _⟩
theorem laws_eqInt64SS.S : Sound Go.Proofs.Try.prog ⟨72, laws_eqInt64SS.sig, laws_eqInt64SS.F⟩ := sound_any (fn := Go.Proofs.Try.f72) (code := laws_eqInt64SS.code) (g := laws_eqInt64SS.cfg) (res := [.tmp 4]) Go.Proofs.Try.func72 (by kernel_rfl) (by kernel_rfl) laws_eqInt64SS.ok (by kernel_rfl) (by kernel_rfl) (Nat.le_of_ble_eq_true (by kernel_rfl)) (by kernel_rfl)
/-! ### laws_eqComplex -/
noncomputable def laws_eqComplex.sig : Sig := ⟨[.val true (.sl (.sl (.int .i64))), .val true (.sl (.sl (.int .i64)))], [(.val false, .bool, .deep)]⟩
noncomputable def laws_eqComplex.ctx : Ctx := ⟨tabOf tabl, [⟨72, laws_eqInt64SS.sig, laws_eqInt64SS.F⟩], [], [], []⟩
noncomputable def laws_eqComplex.cfg : Cfg := ⟨laws_eqComplex.ctx, [], [], fun _ => ([], []), fun _ => []⟩
noncomputable def laws_eqComplex.code : Code := (Go.Proofs.Try.f33).body.getD .skip
noncomputable def laws_eqComplex.fin := finK laws_eqComplex.ctx laws_eqComplex.sig [.tmp 4]
noncomputable def laws_eqComplex.F (d : List (List Int) × List (List Int) × Unit) : Option ((Bool × Unit) × (Unit)) := anyK (runFn laws_eqComplex.cfg laws_eqComplex.fin laws_eqComplex.code (initSt laws_eqComplex.sig.ps d 11))
noncomputable def laws_eqComplex.T (a_1 : List (List Int)) (b_2 : List (List Int)) : Option ((Bool × Unit) × (Unit)) :=
  (laws_eqInt64SS.F (a_1, b_2, ())).bind fun r3 =>
    if (!(r3.1.1 : Bool)) = true then
      some ((false, ()), ())
    else
      some ((true, ()), ())
theorem laws_eqComplex.run (k : Nat) (a_1 : List (List Int)) (b_2 : List (List Int)) : runFn laws_eqComplex.cfg laws_eqComplex.fin laws_eqComplex.code (initSt laws_eqComplex.sig.ps (a_1, b_2, ()) 11) k = laws_eqComplex.T a_1 b_2 := by kernel_rfl
theorem laws_eqComplex.eq (a_1 : List (List Int)) (b_2 : List (List Int)) : laws_eqComplex.F (a_1, b_2, ()) = laws_eqComplex.T a_1 b_2 := (congrArg anyK (funext fun k => laws_eqComplex.run k a_1 b_2)).trans (anyK_const _)
theorem laws_eqComplex.ok : CtxOK Go.Proofs.Try.prog laws_eqComplex.ctx := ⟨List.forall_mem_nil _, mixed_ok, tab_ok tab_good, List.forall_mem_cons.2 ⟨laws_eqInt64SS.S, List.forall_mem_nil _⟩, List.forall_mem_nil _, List.forall_mem_nil _⟩
theorem laws_eqComplex.S : Sound Go.Proofs.Try.prog ⟨33, laws_eqComplex.sig, laws_eqComplex.F⟩ := sound_any (fn := Go.Proofs.Try.f33) (code := laws_eqComplex.code) (g := laws_eqComplex.cfg) (res := [.tmp 4]) Go.Proofs.Try.func33 (by kernel_rfl) (by kernel_rfl) laws_eqComplex.ok (by kernel_rfl) (by kernel_rfl) (Nat.le_of_ble_eq_true (by kernel_rfl)) (by kernel_rfl)
/-! ### laws_FnExactIsPart -/
noncomputable def laws_FnExactIsPart.sig : Sig := ⟨[.val true (.sl (.sl (.int .i64))), .val true (.sl (.sl (.int .i64)))], [(.val false, .bool, .deep)]⟩
noncomputable def laws_FnExactIsPart.ctx : Ctx := ⟨tabOf tabl, [⟨29, laws_szComplex.sig, laws_szComplex.F⟩, ⟨30, spec_IsPart.sig, spec_IsPart.F⟩, ⟨31, laws_toComplex.sig, laws_toComplex.F⟩, ⟨32, impl_IsPart.sig, impl_IsPart.F⟩, ⟨33, laws_eqComplex.sig, laws_eqComplex.F⟩], [], [], []⟩
noncomputable def laws_FnExactIsPart.cfg : Cfg := ⟨laws_FnExactIsPart.ctx, [], [], fun _ => ([], []), fun _ => []⟩
noncomputable def laws_FnExactIsPart.code : Code := (Go.Proofs.Try.f6).body.getD .skip
noncomputable def laws_FnExactIsPart.fin := finK laws_FnExactIsPart.ctx laws_FnExactIsPart.sig [.tmp 4]
noncomputable def laws_FnExactIsPart.F (d : List (List Int) × List (List Int) × Unit) : Option ((Bool × Unit) × (Unit)) := anyK (runFn laws_FnExactIsPart.cfg laws_FnExactIsPart.fin laws_FnExactIsPart.code (initSt laws_FnExactIsPart.sig.ps d 45))
noncomputable def laws_FnExactIsPart.T (aPart_1 : List (List Int)) (aC_2 : List (List Int)) : Option ((Bool × Unit) × (Unit)) :=
  (laws_szComplex.F (aPart_1, (1048576 : Int), ())).bind fun r3 =>
    if (decide ((r3.1.1 : Int) < (0 : Int))) = true then
      some ((true, ()), ())
    else
      (laws_szComplex.F (aC_2, (r3.1.1 : Int), ())).bind fun r4 =>
        if (decide ((r4.1.1 : Int) < (0 : Int))) = true then
          some ((true, ()), ())
        else
          (laws_toComplex.F (aPart_1, ())).bind fun r5 =>
            (laws_toComplex.F (aC_2, ())).bind fun r6 =>
              (spec_IsPart.F (r5.1.1, r6.1.1, ())).bind fun r7 =>
                (laws_toComplex.F (aPart_1, ())).bind fun r8 =>
                  (laws_toComplex.F (aC_2, ())).bind fun r9 =>
                    (impl_IsPart.F (r8.1.1, r9.1.1, ())).bind fun r10 =>
                      if (!((r10.1.1 : Bool) == (r7.1.1 : Bool))) = true then
                        some ((false, ()), ())
                      else
                        (laws_toComplex.F (aPart_1, ())).bind fun r11 =>
                          (laws_eqComplex.F (r8.1.1, r11.1.1, ())).bind fun r12 =>
                            if (!(r12.1.1 : Bool)) = true then
                              some ((false, ()), ())
                            else
                              (laws_toComplex.F (aC_2, ())).bind fun r13 =>
                                (laws_eqComplex.F (r9.1.1, r13.1.1, ())).bind fun r14 =>
                                  if (!(r14.1.1 : Bool)) = true then
                                    some ((false, ()), ())
                                  else
                                    some ((true, ()), ())
theorem laws_FnExactIsPart.run (k : Nat) (aPart_1 : List (List Int)) (aC_2 : List (List Int)) : runFn laws_FnExactIsPart.cfg laws_FnExactIsPart.fin laws_FnExactIsPart.code (initSt laws_FnExactIsPart.sig.ps (aPart_1, aC_2, ()) 45) k = laws_FnExactIsPart.T aPart_1 aC_2 := by kernel_rfl
theorem laws_FnExactIsPart.eq (aPart_1 : List (List Int)) (aC_2 : List (List Int)) : laws_FnExactIsPart.F (aPart_1, aC_2, ()) = laws_FnExactIsPart.T aPart_1 aC_2 := (congrArg anyK (funext fun k => laws_FnExactIsPart.run k aPart_1 aC_2)).trans (anyK_const _)
theorem laws_FnExactIsPart.ok : CtxOK Go.Proofs.Try.prog laws_FnExactIsPart.ctx := ⟨List.forall_mem_nil _, mixed_ok, tab_ok tab_good, List.forall_mem_cons.2 ⟨laws_szComplex.S, List.forall_mem_cons.2 ⟨spec_IsPart.S, List.forall_mem_cons.2 ⟨laws_toComplex.S, List.forall_mem_cons.2 ⟨impl_IsPart.S, List.forall_mem_cons.2 ⟨laws_eqComplex.S, List.forall_mem_nil _⟩⟩⟩⟩⟩, List.forall_mem_nil _, List.forall_mem_nil _⟩
theorem laws_FnExactIsPart.S : Sound Go.Proofs.Try.prog ⟨6, laws_FnExactIsPart.sig, laws_FnExactIsPart.F⟩ := sound_any (fn := Go.Proofs.Try.f6) (code := laws_FnExactIsPart.code) (g := laws_FnExactIsPart.cfg) (res := [.tmp 4]) Go.Proofs.Try.func6 (by kernel_rfl) (by kernel_rfl) laws_FnExactIsPart.ok (by kernel_rfl) (by kernel_rfl) (Nat.le_of_ble_eq_true (by kernel_rfl)) (by kernel_rfl)
end Go.Proofs.Ytpibalgbkhpcbaa
