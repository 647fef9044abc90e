/- The functions, as the machine runs them. -/
import Derived.Test.YtpibalgbkhpcbaaGreatVm3
import Derived.Test.YtpibalgbkhpcbaaGreatProg
import Derived.KernelRfl
import Derived.WalkKit
import Derived.Lib.Walk
import Derived.Lib.AppendZeros
namespace Go.Proofs.YtpibalgbkhpcbaaGreat
open Go Go.Vm
set_option linter.unusedVariables false
set_option linter.unusedSimpArgs false
abbrev TMatrix_2 : Ty := .pair (.int .i64) (.sl (.int .i64))
abbrev TMatrix_1 : Ty := .pair (.int .i64) TMatrix_2
abbrev TMatrix : Ty := .pair (.int .i64) TMatrix_1
abbrev TEdge_1 : Ty := .pair (.int .i64) (.int .i64)
abbrev TEdge : Ty := .pair (.int .i64) TEdge_1
abbrev TSheaf_2 : Ty := .pair (.sl (.int .i64)) (.sl TMatrix)
abbrev TSheaf_1 : Ty := .pair (.int .i64) TSheaf_2
abbrev TSheaf : Ty := .pair (.sl (.sl (.int .i64))) TSheaf_1
def tabl : List (Nat × TInfo) := [
  (2, ⟨false, (.int .i64), 0, []⟩),
  (3, ⟨false, (.int .i64), 0, []⟩),
  (4, ⟨false, .bool, 0, []⟩),
  (22, ⟨false, (.sl (.sl (.int .i64))), 25, []⟩),
  (24, ⟨true, (.sl (.sl (.int .i64))), 0, [(0, 1, false)]⟩),
  (25, ⟨false, (.sl (.int .i64)), 2, []⟩),
  (26, ⟨false, (.sl TMatrix), 81, []⟩),
  (30, ⟨true, (.sl (.sl (.int .i64))), 0, [(0, 1, false)]⟩),
  (31, ⟨false, (.sl TMatrix), 89, []⟩),
  (33, ⟨true, TSheaf, 0, [(0, 1, true), (1, 1, false), (2, 1, false), (3, 1, false)]⟩),
  (36, ⟨true, TSheaf, 0, [(0, 1, true), (1, 1, false), (2, 1, false), (3, 1, false)]⟩),
  (43, ⟨true, TSheaf, 0, [(0, 1, true), (1, 1, false), (2, 1, false), (3, 1, false)]⟩),
  (81, ⟨true, TMatrix, 0, [(0, 1, false), (1, 1, false), (2, 1, false), (3, 1, false)]⟩),
  (89, ⟨true, TMatrix, 0, [(0, 1, false), (1, 1, false), (2, 1, false), (3, 1, false)]⟩),
  (97, ⟨false, (.sl TEdge), 100, []⟩),
  (100, ⟨true, TEdge, 0, [(0, 1, false), (1, 1, false), (2, 1, false)]⟩),
  (141, ⟨false, (.sl (.int .i64)), 3, []⟩),
  (144, ⟨false, (.int .u64), 0, []⟩)]
theorem tab_good : tabB Go.Proofs.Tryz.prog tabl = true := by kernel_rfl
theorem tab_open : openB Go.Proofs.Tryz.prog tabl = true := by kernel_rfl
theorem mixed_ok : Go.Proofs.Tryz.prog.follows .mixedOrders = true := by kernel_rfl
set_option maxHeartbeats 2000000 in
set_option maxRecDepth 100000 in
theorem slices_Grow_Lint64_int64.grow0 (w : World) : Calls Go.Proofs.Tryz.prog 134 #[.slice none 0 0, .int .i64 ((0 : Nat) : Int)] w fun e w' => e = .returned (.slice none 0 0) ∧ w' = w := by
  have h2 : Go.RowKit.wrap64 (((0 : Nat) : Int) - ((0 : Nat) : Int)) = 0 := by unfold Go.RowKit.wrap64; omega
  go_enter Go.Proofs.Tryz.func134, Go.Proofs.Tryz.ntmps134
  go_wp2
  go_ret
  exact ⟨rfl, rfl⟩
set_option maxHeartbeats 4000000 in
set_option maxRecDepth 100000 in
theorem slices_Grow_Lint64_int64.grow1 (w : World) (n : Nat) (h0 : 0 < n) (hn : n ≤ 1099511627776) (i : TypeInfo) (z : Value) (hi : Go.Proofs.Tryz.prog.info? 2 = some i) (hz : i.zero = some z) (hs : 0 < i.size) (hb : i.bytes ≤ 256) :
    Calls Go.Proofs.Tryz.prog 134 #[.slice none 0 0, .int .i64 (n : Int)] w fun e w' => ∃ G, n ≤ G ∧ G ≤ 9223372036854775807 ∧ e = .returned (.slice (some ⟨w.heap.size, 0, none⟩) 0 G) ∧ w' = w.drew.alloc (.cells (Builtin.zeroCells z.cells n ++ Builtin.zeroCells z.cells (G - n)) 2) := by
  have h1 : ¬ ((n : Int) < 0) := by omega
  have h2 : Go.RowKit.wrap64 (((0 : Nat) : Int) - ((0 : Nat) : Int)) = 0 := by unfold Go.RowKit.wrap64; omega
  have h3 : Go.RowKit.wrap64 ((n : Int) - 0) = (n : Int) := by unfold Go.RowKit.wrap64; omega
  have h4 : (n : Int) > 0 := by omega
  have hm : n * i.bytes ≤ 1099511627776 * 256 := Nat.mul_le_mul hn hb
  have hrz : ∀ ty, (Builtin.append_ #[25, 3] ty #[.slice none 0 0, .int .i64 (n : Int)]).run Go.Proofs.Tryz.prog w =
      .ok (.slice (some ⟨w.heap.size, 0, none⟩) n (grownCap w n 0 2)) (w.drew.alloc (.cells (Builtin.zeroCells z.cells n ++ Builtin.zeroCells z.cells (grownCap w n 0 2 - n)) 2)) := fun ty =>
    Lib.run_append_nil_zeros (P := Go.Proofs.Tryz.prog) w 25 3 ty 2 i z .i64 .i64 (by kernel_rfl) (by kernel_rfl) hi hz n h0 hs (by omega) (by omega)
  have hGn : n ≤ grownCap w n 0 2 := grownCap_ge w _ _ _
  obtain ⟨G, hG⟩ : ∃ G, G = grownCap w n 0 2 := ⟨_, rfl⟩
  have hG63 : G ≤ 9223372036854775807 := by
    have := grownCap_le_maxLen w n 0 2 (by unfold maxLen; omega)
    rw [← hG] at this
    unfold maxLen at this
    omega
  rw [← hG] at hrz hGn
  clear hG
  refine Calls.mono (R := fun e w' => e = .returned (.slice (some ⟨w.heap.size, 0, none⟩) 0 G) ∧ w' = w.drew.alloc (.cells (Builtin.zeroCells z.cells n ++ Builtin.zeroCells z.cells (G - n)) 2)) ?_ fun e w' h => ⟨G, hGn, hG63, h.1, h.2⟩
  clear hi hz hs hb hm
  go_enter Go.Proofs.Tryz.func134, Go.Proofs.Tryz.ntmps134
  go_wp2_with (at_builtin; refine Lib.wpList_append_run _ rfl _ _ _ _ rfl _ _ rfl rfl _ _ (hrz _) ?_)
  all_goals (go_ret; exact ⟨rfl, rfl⟩)
theorem slices_Grow_Lint64_int64.growOK : GrowOK Go.Proofs.Tryz.prog (134, (.int .i64)) := by
  have hT : tabOf tabl 2 = some ⟨false, (.int .i64), 0, []⟩ := by kernel_rfl
  obtain ⟨inf, h1, h2, h3, h4, h5⟩ := (tab_ok tab_good).info 2 _ hT
  exact growOK_of ⟨Go.Proofs.Tryz.f134, Go.Proofs.Tryz.func134, by kernel_rfl, by kernel_rfl⟩ (zero_size (tab_ok tab_good) hT) slices_Grow_Lint64_int64.grow0 fun w n a b => slices_Grow_Lint64_int64.grow1 w n a b inf _ h1 h5 (by rw [h2]; exact sz_pos _) h4
/-! ### laws_eqInt64S -/
noncomputable def laws_eqInt64S.sig : Sig := ⟨[.val false (.sl (.int .i64)), .val false (.sl (.int .i64))], [(.val false, .bool, .deep)]⟩
noncomputable def laws_eqInt64S.ctx : Ctx := ⟨tabOf tabl, [], [], [], [], []⟩
noncomputable def laws_eqInt64S.cfg : Cfg := ⟨laws_eqInt64S.ctx, [], [], fun id => match id with | 4 => ([0, 1, 5], []) | _ => ([], []), fun _ => []⟩
noncomputable def laws_eqInt64S.code : Code := (Go.Proofs.Tryz.f23).body.getD .skip
noncomputable def laws_eqInt64S.fin := finK laws_eqInt64S.ctx laws_eqInt64S.sig [.tmp 4]
noncomputable def laws_eqInt64S.F (d : List Int × List Int × Unit) : Option ((Bool × Unit) × (Unit)) := anyK (runFn laws_eqInt64S.cfg laws_eqInt64S.fin laws_eqInt64S.code (initSt laws_eqInt64S.sig.ps d 26))
noncomputable def laws_eqInt64S.l4 (k : Nat) (x3 : List Int) (x4 : List Int) (i5 : Int) : Option ((Bool × Unit) × (Unit)) :=
  Go.Vm.runT laws_eqInt64S.cfg laws_eqInt64S.fin k [.inLoop (sub [1, 1, 0, 1, 0, 0] laws_eqInt64S.code), .inBlock 0, .code (sub [1, 1, 1] laws_eqInt64S.code)]
    ⟨[.val false [⟨(.sl (.int .i64)), .sh, x3⟩], .val false [⟨(.sl (.int .i64)), .sh, x4⟩], .dead, .dead, .dead, .val false [⟨(.int .i64), .sh, i5⟩]] ++ deads 20, []⟩
theorem laws_eqInt64S.l4_eq (k : Nat) (x3 : List Int) (x4 : List Int) (i5 : Int) : laws_eqInt64S.l4 (k + 1) x3 x4 i5 =
  if (decide (i5 < (x3.length : Int))) = true then
    if 0 ≤ i5 ∧ i5 < (x3.length : Int) then
      if 0 ≤ i5 ∧ i5 < (x4.length : Int) then
        if ((x3.getD i5.toNat 0 : Int) != (x4.getD i5.toNat 0 : Int)) = true then
          some ((false, ()), ())
        else
          laws_eqInt64S.l4 k x3 x4 (IntKind.i64.wrap (i5 + (1 : Int)))
      else
        none
    else
      none
  else
    some ((true, ()), ()) := by kernel_rfl
noncomputable def laws_eqInt64S.T (k : Nat) (a_1 : List Int) (b_2 : List Int) : Option ((Bool × Unit) × (Unit)) :=
  if ((a_1.length : Int) != (b_2.length : Int)) = true then
    some ((false, ()), ())
  else
    laws_eqInt64S.l4 k a_1 b_2 (0 : Int)
theorem laws_eqInt64S.run (k : Nat) (a_1 : List Int) (b_2 : List Int) : runFn laws_eqInt64S.cfg laws_eqInt64S.fin laws_eqInt64S.code (initSt laws_eqInt64S.sig.ps (a_1, b_2, ()) 26) k = laws_eqInt64S.T k a_1 b_2 := by kernel_rfl
theorem laws_eqInt64S.of (a_1 : List Int) (b_2 : List Int) {r : (Bool × Unit) × (Unit)} (h : Ev (fun k => laws_eqInt64S.T k a_1 b_2) r) : laws_eqInt64S.F (a_1, b_2, ()) = some r := Ev.run (fun k => laws_eqInt64S.run k a_1 b_2) h
theorem laws_eqInt64S.ok : CtxOK Go.Proofs.Tryz.prog laws_eqInt64S.ctx := ⟨List.forall_mem_nil _, mixed_ok, tab_ok tab_good, List.forall_mem_nil _, List.forall_mem_nil _, List.forall_mem_nil _⟩
theorem laws_eqInt64S.S : Sound Go.Proofs.Tryz.prog ⟨23, laws_eqInt64S.sig, laws_eqInt64S.F⟩ := sound_any (fn := Go.Proofs.Tryz.f23) (code := laws_eqInt64S.code) (g := laws_eqInt64S.cfg) (res := [.tmp 4]) Go.Proofs.Tryz.func23 (by kernel_rfl) (by kernel_rfl) laws_eqInt64S.ok (by kernel_rfl) (by kernel_rfl) (Nat.le_of_ble_eq_true (by kernel_rfl)) (by kernel_rfl)
/-! ### laws_eqInt64SS -/
noncomputable def laws_eqInt64SS.sig : Sig := ⟨[.val false (.sl (.sl (.int .i64))), .val false (.sl (.sl (.int .i64)))], [(.val false, .bool, .deep)]⟩
noncomputable def laws_eqInt64SS.ctx : Ctx := ⟨tabOf tabl, [⟨23, laws_eqInt64S.sig, laws_eqInt64S.F⟩], [], [], [], []⟩
noncomputable def laws_eqInt64SS.cfg : Cfg := ⟨laws_eqInt64SS.ctx, [], [], fun id => match id with | 4 => ([0, 1, 5], []) | _ => ([], []), fun _ => []⟩
noncomputable def laws_eqInt64SS.code : Code := (Go.Proofs.Tryz.f69).body.getD .skip
noncomputable def laws_eqInt64SS.fin := finK laws_eqInt64SS.ctx laws_eqInt64SS.sig [.tmp 4]
noncomputable def laws_eqInt64SS.F (d : List (List Int) × List (List Int) × Unit) : Option ((Bool × Unit) × (Unit)) := anyK (runFn laws_eqInt64SS.cfg laws_eqInt64SS.fin laws_eqInt64SS.code (initSt laws_eqInt64SS.sig.ps d 27))
noncomputable def laws_eqInt64SS.l4 (k : Nat) (x3 : List (List Int)) (x4 : List (List Int)) (i5 : Int) : Option ((Bool × Unit) × (Unit)) :=
  Go.Vm.runT laws_eqInt64SS.cfg laws_eqInt64SS.fin k [.inLoop (sub [1, 1, 0, 1, 0, 0] laws_eqInt64SS.code), .inBlock 0, .code (sub [1, 1, 1] laws_eqInt64SS.code)]
    ⟨[.val false [⟨(.sl (.sl (.int .i64))), .sh, x3⟩], .val false [⟨(.sl (.sl (.int .i64))), .sh, x4⟩], .dead, .dead, .dead, .val false [⟨(.int .i64), .sh, i5⟩]] ++ deads 21, []⟩
theorem laws_eqInt64SS.l4_eq (k : Nat) (x3 : List (List Int)) (x4 : List (List Int)) (i5 : Int) : laws_eqInt64SS.l4 (k + 1) x3 x4 i5 =
  if (decide (i5 < (x3.length : Int))) = true then
    if 0 ≤ i5 ∧ i5 < (x3.length : Int) then
      if 0 ≤ i5 ∧ i5 < (x4.length : Int) then
        (laws_eqInt64S.F (x3.getD i5.toNat ([] : List Int), x4.getD i5.toNat ([] : List Int), ())).bind fun r6 =>
          if (!(r6.1.1 : Bool)) = true then
            some ((false, ()), ())
          else
            laws_eqInt64SS.l4 k x3 x4 (IntKind.i64.wrap (i5 + (1 : Int)))
      else
        none
    else
      none
  else
    some ((true, ()), ()) := by kernel_rfl
noncomputable def laws_eqInt64SS.T (k : Nat) (a_1 : List (List Int)) (b_2 : List (List Int)) : Option ((Bool × Unit) × (Unit)) :=
  if ((a_1.length : Int) != (b_2.length : Int)) = true then
    some ((false, ()), ())
  else
    laws_eqInt64SS.l4 k a_1 b_2 (0 : Int)
theorem laws_eqInt64SS.run (k : Nat) (a_1 : List (List Int)) (b_2 : List (List Int)) : runFn laws_eqInt64SS.cfg laws_eqInt64SS.fin laws_eqInt64SS.code (initSt laws_eqInt64SS.sig.ps (a_1, b_2, ()) 27) k = laws_eqInt64SS.T k a_1 b_2 := by kernel_rfl
theorem laws_eqInt64SS.of (a_1 : List (List Int)) (b_2 : List (List Int)) {r : (Bool × Unit) × (Unit)} (h : Ev (fun k => laws_eqInt64SS.T k a_1 b_2) r) : laws_eqInt64SS.F (a_1, b_2, ()) = some r := Ev.run (fun k => laws_eqInt64SS.run k a_1 b_2) h
theorem laws_eqInt64SS.ok : CtxOK Go.Proofs.Tryz.prog laws_eqInt64SS.ctx := ⟨List.forall_mem_nil _, mixed_ok, tab_ok tab_good, List.forall_mem_cons.2 ⟨laws_eqInt64S.S, List.forall_mem_nil _⟩, List.forall_mem_nil _, List.forall_mem_nil _⟩
theorem laws_eqInt64SS.S : Sound Go.Proofs.Tryz.prog ⟨69, laws_eqInt64SS.sig, laws_eqInt64SS.F⟩ := sound_any (fn := Go.Proofs.Tryz.f69) (code := laws_eqInt64SS.code) (g := laws_eqInt64SS.cfg) (res := [.tmp 4]) Go.Proofs.Tryz.func69 (by kernel_rfl) (by kernel_rfl) laws_eqInt64SS.ok (by kernel_rfl) (by kernel_rfl) (Nat.le_of_ble_eq_true (by kernel_rfl)) (by kernel_rfl)
/-! ### laws_eqComplex -/
noncomputable def laws_eqComplex.sig : Sig := ⟨[.val true (.sl (.sl (.int .i64))), .val true (.sl (.sl (.int .i64)))], [(.val false, .bool, .deep)]⟩
noncomputable def laws_eqComplex.ctx : Ctx := ⟨tabOf tabl, [⟨69, laws_eqInt64SS.sig, laws_eqInt64SS.F⟩], [], [], [], []⟩
noncomputable def laws_eqComplex.cfg : Cfg := ⟨laws_eqComplex.ctx, [], [], fun _ => ([], []), fun _ => []⟩
noncomputable def laws_eqComplex.code : Code := (Go.Proofs.Tryz.f33).body.getD .skip
noncomputable def laws_eqComplex.fin := finK laws_eqComplex.ctx laws_eqComplex.sig [.tmp 4]
noncomputable def laws_eqComplex.F (d : List (List Int) × List (List Int) × Unit) : Option ((Bool × Unit) × (Unit)) := anyK (runFn laws_eqComplex.cfg laws_eqComplex.fin laws_eqComplex.code (initSt laws_eqComplex.sig.ps d 11))
noncomputable def laws_eqComplex.T (a_1 : List (List Int)) (b_2 : List (List Int)) : Option ((Bool × Unit) × (Unit)) :=
  (laws_eqInt64SS.F (a_1, b_2, ())).bind fun r3 =>
    if (!(r3.1.1 : Bool)) = true then
      some ((false, ()), ())
    else
      some ((true, ()), ())
theorem laws_eqComplex.run (k : Nat) (a_1 : List (List Int)) (b_2 : List (List Int)) : runFn laws_eqComplex.cfg laws_eqComplex.fin laws_eqComplex.code (initSt laws_eqComplex.sig.ps (a_1, b_2, ()) 11) k = laws_eqComplex.T a_1 b_2 := by kernel_rfl
theorem laws_eqComplex.eq (a_1 : List (List Int)) (b_2 : List (List Int)) : laws_eqComplex.F (a_1, b_2, ()) = laws_eqComplex.T a_1 b_2 := (congrArg anyK (funext fun k => laws_eqComplex.run k a_1 b_2)).trans (anyK_const _)
theorem laws_eqComplex.ok : CtxOK Go.Proofs.Tryz.prog laws_eqComplex.ctx := ⟨List.forall_mem_nil _, mixed_ok, tab_ok tab_good, List.forall_mem_cons.2 ⟨laws_eqInt64SS.S, List.forall_mem_nil _⟩, List.forall_mem_nil _, List.forall_mem_nil _⟩
theorem laws_eqComplex.S : Sound Go.Proofs.Tryz.prog ⟨33, laws_eqComplex.sig, laws_eqComplex.F⟩ := sound_any (fn := Go.Proofs.Tryz.f33) (code := laws_eqComplex.code) (g := laws_eqComplex.cfg) (res := [.tmp 4]) Go.Proofs.Tryz.func33 (by kernel_rfl) (by kernel_rfl) laws_eqComplex.ok (by kernel_rfl) (by kernel_rfl) (Nat.le_of_ble_eq_true (by kernel_rfl)) (by kernel_rfl)
/-! ### laws_eqMatrix -/
noncomputable def laws_eqMatrix.sig : Sig := ⟨[.val true TMatrix, .val true TMatrix], [(.val false, .bool, .deep)]⟩
noncomputable def laws_eqMatrix.ctx : Ctx := ⟨tabOf tabl, [⟨23, laws_eqInt64S.sig, laws_eqInt64S.F⟩], [], [], [], []⟩
noncomputable def laws_eqMatrix.cfg : Cfg := ⟨laws_eqMatrix.ctx, [], [], fun _ => ([], []), fun _ => []⟩
noncomputable def laws_eqMatrix.code : Code := (Go.Proofs.Tryz.f70).body.getD .skip
noncomputable def laws_eqMatrix.fin := finK laws_eqMatrix.ctx laws_eqMatrix.sig [.tmp 4]
noncomputable def laws_eqMatrix.F (d : (Int × Int × Int × List Int) × (Int × Int × Int × List Int) × Unit) : Option ((Bool × Unit) × (Unit)) := anyK (runFn laws_eqMatrix.cfg laws_eqMatrix.fin laws_eqMatrix.code (initSt laws_eqMatrix.sig.ps d 26))
noncomputable def laws_eqMatrix.T (a_1 : Int) (a_2 : Int) (a_3 : Int) (a_4 : List Int) (b_5 : Int) (b_6 : Int) (b_7 : Int) (b_8 : List Int) : Option ((Bool × Unit) × (Unit)) :=
  if (a_1 != b_5) = true then
    some ((false, ()), ())
  else
    if (a_2 != b_6) = true then
      some ((false, ()), ())
    else
      if (a_3 != b_7) = true then
        some ((false, ()), ())
      else
        (laws_eqInt64S.F (a_4, b_8, ())).bind fun r9 =>
          if (!(r9.1.1 : Bool)) = true then
            some ((false, ()), ())
          else
            some ((true, ()), ())
theorem laws_eqMatrix.run (k : Nat) (a_1 : Int) (a_2 : Int) (a_3 : Int) (a_4 : List Int) (b_5 : Int) (b_6 : Int) (b_7 : Int) (b_8 : List Int) : runFn laws_eqMatrix.cfg laws_eqMatrix.fin laws_eqMatrix.code (initSt laws_eqMatrix.sig.ps ((a_1, (a_2, (a_3, a_4))), (b_5, (b_6, (b_7, b_8))), ()) 26) k = laws_eqMatrix.T a_1 a_2 a_3 a_4 b_5 b_6 b_7 b_8 := by kernel_rfl
theorem laws_eqMatrix.eq (a_1 : Int) (a_2 : Int) (a_3 : Int) (a_4 : List Int) (b_5 : Int) (b_6 : Int) (b_7 : Int) (b_8 : List Int) : laws_eqMatrix.F ((a_1, (a_2, (a_3, a_4))), (b_5, (b_6, (b_7, b_8))), ()) = laws_eqMatrix.T a_1 a_2 a_3 a_4 b_5 b_6 b_7 b_8 := (congrArg anyK (funext fun k => laws_eqMatrix.run k a_1 a_2 a_3 a_4 b_5 b_6 b_7 b_8)).trans (anyK_const _)
theorem laws_eqMatrix.ok : CtxOK Go.Proofs.Tryz.prog laws_eqMatrix.ctx := ⟨List.forall_mem_nil _, mixed_ok, tab_ok tab_good, List.forall_mem_cons.2 ⟨laws_eqInt64S.S, List.forall_mem_nil _⟩, List.forall_mem_nil _, List.forall_mem_nil _⟩
theorem laws_eqMatrix.S : Sound Go.Proofs.Tryz.prog ⟨70, laws_eqMatrix.sig, laws_eqMatrix.F⟩ := sound_any (fn := Go.Proofs.Tryz.f70) (code := laws_eqMatrix.code) (g := laws_eqMatrix.cfg) (res := [.tmp 4]) Go.Proofs.Tryz.func70 (by kernel_rfl) (by kernel_rfl) laws_eqMatrix.ok (by kernel_rfl) (by kernel_rfl) (Nat.le_of_ble_eq_true (by kernel_rfl)) (by kernel_rfl)
/-! ### laws_eqMatrixS -/
noncomputable def laws_eqMatrixS.sig : Sig := ⟨[.val false (.sl TMatrix), .val false (.sl TMatrix)], [(.val false, .bool, .deep)]⟩
noncomputable def laws_eqMatrixS.ctx : Ctx := ⟨tabOf tabl, [⟨70, laws_eqMatrix.sig, laws_eqMatrix.F⟩], [], [], [], []⟩
noncomputable def laws_eqMatrixS.cfg : Cfg := ⟨laws_eqMatrixS.ctx, [], [], fun id => match id with | 4 => ([0, 1, 5], []) | _ => ([], []), fun _ => []⟩
noncomputable def laws_eqMatrixS.code : Code := (Go.Proofs.Tryz.f34).body.getD .skip
noncomputable def laws_eqMatrixS.fin := finK laws_eqMatrixS.ctx laws_eqMatrixS.sig [.tmp 4]
noncomputable def laws_eqMatrixS.F (d : List (Int × Int × Int × List Int) × List (Int × Int × Int × List Int) × Unit) : Option ((Bool × Unit) × (Unit)) := anyK (runFn laws_eqMatrixS.cfg laws_eqMatrixS.fin laws_eqMatrixS.code (initSt laws_eqMatrixS.sig.ps d 27))
noncomputable def laws_eqMatrixS.l4 (k : Nat) (x3 : List (Int × Int × Int × List Int)) (x4 : List (Int × Int × Int × List Int)) (i5 : Int) : Option ((Bool × Unit) × (Unit)) :=
  Go.Vm.runT laws_eqMatrixS.cfg laws_eqMatrixS.fin k [.inLoop (sub [1, 1, 0, 1, 0, 0] laws_eqMatrixS.code), .inBlock 0, .code (sub [1, 1, 1] laws_eqMatrixS.code)]
    ⟨[.val false [⟨(.sl TMatrix), .sh, x3⟩], .val false [⟨(.sl TMatrix), .sh, x4⟩], .dead, .dead, .dead, .val false [⟨(.int .i64), .sh, i5⟩]] ++ deads 21, []⟩
theorem laws_eqMatrixS.l4_eq (k : Nat) (x3 : List (Int × Int × Int × List Int)) (x4 : List (Int × Int × Int × List Int)) (i5 : Int) : laws_eqMatrixS.l4 (k + 1) x3 x4 i5 =
  if (decide (i5 < (x3.length : Int))) = true then
    if 0 ≤ i5 ∧ i5 < (x3.length : Int) then
      if 0 ≤ i5 ∧ i5 < (x4.length : Int) then
        (laws_eqMatrix.F (x3.getD i5.toNat (0, 0, 0, ([] : List Int)), x4.getD i5.toNat (0, 0, 0, ([] : List Int)), ())).bind fun r6 =>
          if (!(r6.1.1 : Bool)) = true then
            some ((false, ()), ())
          else
            laws_eqMatrixS.l4 k x3 x4 (IntKind.i64.wrap (i5 + (1 : Int)))
      else
        none
    else
      none
  else
    some ((true, ()), ()) := by kernel_rfl
noncomputable def laws_eqMatrixS.T (k : Nat) (a_1 : List (Int × Int × Int × List Int)) (b_2 : List (Int × Int × Int × List Int)) : Option ((Bool × Unit) × (Unit)) :=
  if ((a_1.length : Int) != (b_2.length : Int)) = true then
    some ((false, ()), ())
  else
    laws_eqMatrixS.l4 k a_1 b_2 (0 : Int)
theorem laws_eqMatrixS.run (k : Nat) (a_1 : List (Int × Int × Int × List Int)) (b_2 : List (Int × Int × Int × List Int)) : runFn laws_eqMatrixS.cfg laws_eqMatrixS.fin laws_eqMatrixS.code (initSt laws_eqMatrixS.sig.ps (a_1, b_2, ()) 27) k = laws_eqMatrixS.T k a_1 b_2 := by kernel_rfl
theorem laws_eqMatrixS.of (a_1 : List (Int × Int × Int × List Int)) (b_2 : List (Int × Int × Int × List Int)) {r : (Bool × Unit) × (Unit)} (h : Ev (fun k => laws_eqMatrixS.T k a_1 b_2) r) : laws_eqMatrixS.F (a_1, b_2, ()) = some r := Ev.run (fun k => laws_eqMatrixS.run k a_1 b_2) h
theorem laws_eqMatrixS.ok : CtxOK Go.Proofs.Tryz.prog laws_eqMatrixS.ctx := ⟨List.forall_mem_nil _, mixed_ok, tab_ok tab_good, List.forall_mem_cons.2 ⟨laws_eqMatrix.S, List.forall_mem_nil _⟩, List.forall_mem_nil _, List.forall_mem_nil _⟩
theorem laws_eqMatrixS.S : Sound Go.Proofs.Tryz.prog ⟨34, laws_eqMatrixS.sig, laws_eqMatrixS.F⟩ := sound_any (fn := Go.Proofs.Tryz.f34) (code := laws_eqMatrixS.code) (g := laws_eqMatrixS.cfg) (res := [.tmp 4]) Go.Proofs.Tryz.func34 (by kernel_rfl) (by kernel_rfl) laws_eqMatrixS.ok (by kernel_rfl) (by kernel_rfl) (Nat.le_of_ble_eq_true (by kernel_rfl)) (by kernel_rfl)
/-! ### laws_eqCosheaf -/
noncomputable def laws_eqCosheaf.sig : Sig := ⟨[.val true TSheaf, .val true TSheaf], [(.val false, .bool, .deep)]⟩
noncomputable def laws_eqCosheaf.ctx : Ctx := ⟨tabOf tabl, [⟨23, laws_eqInt64S.sig, laws_eqInt64S.F⟩, ⟨33, laws_eqComplex.sig, laws_eqComplex.F⟩, ⟨34, laws_eqMatrixS.sig, laws_eqMatrixS.F⟩], [], [], [], []⟩
noncomputable def laws_eqCosheaf.cfg : Cfg := ⟨laws_eqCosheaf.ctx, [], [], fun _ => ([], []), fun _ => []⟩
noncomputable def laws_eqCosheaf.code : Code := (Go.Proofs.Tryz.f10).body.getD .skip
noncomputable def laws_eqCosheaf.fin := finK laws_eqCosheaf.ctx laws_eqCosheaf.sig [.tmp 4]
noncomputable def laws_eqCosheaf.F (d : (List (List Int) × Int × List Int × List (Int × Int × Int × List Int)) × (List (List Int) × Int × List Int × List (Int × Int × Int × List Int)) × Unit) : Option ((Bool × Unit) × (Unit)) := anyK (runFn laws_eqCosheaf.cfg laws_eqCosheaf.fin laws_eqCosheaf.code (initSt laws_eqCosheaf.sig.ps d 28))
noncomputable def laws_eqCosheaf.T (a_1 : List (List Int)) (a_2 : Int) (a_3 : List Int) (a_4 : List (Int × Int × Int × List Int)) (b_5 : List (List Int)) (b_6 : Int) (b_7 : List Int) (b_8 : List (Int × Int × Int × List Int)) : Option ((Bool × Unit) × (Unit)) :=
  (laws_eqComplex.F (a_1, b_5, ())).bind fun r9 =>
    if (!(r9.1.1 : Bool)) = true then
      some ((false, ()), ())
    else
      if (a_2 != b_6) = true then
        some ((false, ()), ())
      else
        (laws_eqInt64S.F (a_3, b_7, ())).bind fun r10 =>
          if (!(r10.1.1 : Bool)) = true then
            some ((false, ()), ())
          else
            (laws_eqMatrixS.F (a_4, b_8, ())).bind fun r11 =>
              if (!(r11.1.1 : Bool)) = true then
                some ((false, ()), ())
              else
                some ((true, ()), ())
theorem laws_eqCosheaf.run (k : Nat) (a_1 : List (List Int)) (a_2 : Int) (a_3 : List Int) (a_4 : List (Int × Int × Int × List Int)) (b_5 : List (List Int)) (b_6 : Int) (b_7 : List Int) (b_8 : List (Int × Int × Int × List Int)) : runFn laws_eqCosheaf.cfg laws_eqCosheaf.fin laws_eqCosheaf.code (initSt laws_eqCosheaf.sig.ps ((a_1, (a_2, (a_3, a_4))), (b_5, (b_6, (b_7, b_8))), ()) 28) k = laws_eqCosheaf.T a_1 a_2 a_3 a_4 b_5 b_6 b_7 b_8 := by kernel_rfl
theorem laws_eqCosheaf.eq (a_1 : List (List Int)) (a_2 : Int) (a_3 : List Int) (a_4 : List (Int × Int × Int × List Int)) (b_5 : List (List Int)) (b_6 : Int) (b_7 : List Int) (b_8 : List (Int × Int × Int × List Int)) : laws_eqCosheaf.F ((a_1, (a_2, (a_3, a_4))), (b_5, (b_6, (b_7, b_8))), ()) = laws_eqCosheaf.T a_1 a_2 a_3 a_4 b_5 b_6 b_7 b_8 := (congrArg anyK (funext fun k => laws_eqCosheaf.run k a_1 a_2 a_3 a_4 b_5 b_6 b_7 b_8)).trans (anyK_const _)
theorem laws_eqCosheaf.ok : CtxOK Go.Proofs.Tryz.prog laws_eqCosheaf.ctx := ⟨List.forall_mem_nil _, mixed_ok, tab_ok tab_good, List.forall_mem_cons.2 ⟨laws_eqInt64S.S, List.forall_mem_cons.2 ⟨laws_eqComplex.S, List.forall_mem_cons.2 ⟨laws_eqMatrixS.S, List.forall_mem_nil _⟩⟩⟩, List.forall_mem_nil _, List.forall_mem_nil _⟩
theorem laws_eqCosheaf.S : Sound Go.Proofs.Tryz.prog ⟨10, laws_eqCosheaf.sig, laws_eqCosheaf.F⟩ := sound_any (fn := Go.Proofs.Tryz.f10) (code := laws_eqCosheaf.code) (g := laws_eqCosheaf.cfg) (res := [.tmp 4]) Go.Proofs.Tryz.func10 (by kernel_rfl) (by kernel_rfl) laws_eqCosheaf.ok (by kernel_rfl) (by kernel_rfl) (Nat.le_of_ble_eq_true (by kernel_rfl)) (by kernel_rfl)
/-! ### laws_eqSheaf -/
noncomputable def laws_eqSheaf.sig : Sig := ⟨[.val true TSheaf, .val true TSheaf], [(.val false, .bool, .deep)]⟩
noncomputable def laws_eqSheaf.ctx : Ctx := ⟨tabOf tabl, [⟨23, laws_eqInt64S.sig, laws_eqInt64S.F⟩, ⟨33, laws_eqComplex.sig, laws_eqComplex.F⟩, ⟨34, laws_eqMatrixS.sig, laws_eqMatrixS.F⟩], [], [], [], []⟩
noncomputable def laws_eqSheaf.cfg : Cfg := ⟨laws_eqSheaf.ctx, [], [], fun _ => ([], []), fun _ => []⟩
noncomputable def laws_eqSheaf.code : Code := (Go.Proofs.Tryz.f11).body.getD .skip
noncomputable def laws_eqSheaf.fin := finK laws_eqSheaf.ctx laws_eqSheaf.sig [.tmp 4]
noncomputable def laws_eqSheaf.F (d : (List (List Int) × Int × List Int × List (Int × Int × Int × List Int)) × (List (List Int) × Int × List Int × List (Int × Int × Int × List Int)) × Unit) : Option ((Bool × Unit) × (Unit)) := anyK (runFn laws_eqSheaf.cfg laws_eqSheaf.fin laws_eqSheaf.code (initSt laws_eqSheaf.sig.ps d 28))
noncomputable def laws_eqSheaf.T (a_1 : List (List Int)) (a_2 : Int) (a_3 : List Int) (a_4 : List (Int × Int × Int × List Int)) (b_5 : List (List Int)) (b_6 : Int) (b_7 : List Int) (b_8 : List (Int × Int × Int × List Int)) : Option ((Bool × Unit) × (Unit)) :=
  (laws_eqComplex.F (a_1, b_5, ())).bind fun r9 =>
    if (!(r9.1.1 : Bool)) = true then
      some ((false, ()), ())
    else
      if (a_2 != b_6) = true then
        some ((false, ()), ())
      else
        (laws_eqInt64S.F (a_3, b_7, ())).bind fun r10 =>
          if (!(r10.1.1 : Bool)) = true then
            some ((false, ()), ())
          else
            (laws_eqMatrixS.F (a_4, b_8, ())).bind fun r11 =>
              if (!(r11.1.1 : Bool)) = true then
                some ((false, ()), ())
              else
                some ((true, ()), ())
theorem laws_eqSheaf.run (k : Nat) (a_1 : List (List Int)) (a_2 : Int) (a_3 : List Int) (a_4 : List (Int × Int × Int × List Int)) (b_5 : List (List Int)) (b_6 : Int) (b_7 : List Int) (b_8 : List (Int × Int × Int × List Int)) : runFn laws_eqSheaf.cfg laws_eqSheaf.fin laws_eqSheaf.code (initSt laws_eqSheaf.sig.ps ((a_1, (a_2, (a_3, a_4))), (b_5, (b_6, (b_7, b_8))), ()) 28) k = laws_eqSheaf.T a_1 a_2 a_3 a_4 b_5 b_6 b_7 b_8 := by kernel_rfl
theorem laws_eqSheaf.eq (a_1 : List (List Int)) (a_2 : Int) (a_3 : List Int) (a_4 : List (Int × Int × Int × List Int)) (b_5 : List (List Int)) (b_6 : Int) (b_7 : List Int) (b_8 : List (Int × Int × Int × List Int)) : laws_eqSheaf.F ((a_1, (a_2, (a_3, a_4))), (b_5, (b_6, (b_7, b_8))), ()) = laws_eqSheaf.T a_1 a_2 a_3 a_4 b_5 b_6 b_7 b_8 := (congrArg anyK (funext fun k => laws_eqSheaf.run k a_1 a_2 a_3 a_4 b_5 b_6 b_7 b_8)).trans (anyK_const _)
theorem laws_eqSheaf.ok : CtxOK Go.Proofs.Tryz.prog laws_eqSheaf.ctx := ⟨List.forall_mem_nil _, mixed_ok, tab_ok tab_good, List.forall_mem_cons.2 ⟨laws_eqInt64S.S, List.forall_mem_cons.2 ⟨laws_eqComplex.S, List.forall_mem_cons.2 ⟨laws_eqMatrixS.S, List.forall_mem_nil _⟩⟩⟩, List.forall_mem_nil _, List.forall_mem_nil _⟩
theorem laws_eqSheaf.S : Sound Go.Proofs.Tryz.prog ⟨11, laws_eqSheaf.sig, laws_eqSheaf.F⟩ := sound_any (fn := Go.Proofs.Tryz.f11) (code := laws_eqSheaf.code) (g := laws_eqSheaf.cfg) (res := [.tmp 4]) Go.Proofs.Tryz.func11 (by kernel_rfl) (by kernel_rfl) laws_eqSheaf.ok (by kernel_rfl) (by kernel_rfl) (Nat.le_of_ble_eq_true (by kernel_rfl)) (by kernel_rfl)
/-! ### laws_markInt64S -/
noncomputable def laws_markInt64S.sig : Sig := ⟨[.wr false (.sl (.int .i64)) .deep, .val false (.int .i64)], [(.val false, (.int .i64), .deep)]⟩
noncomputable def laws_markInt64S.ctx : Ctx := ⟨tabOf tabl, [], [], [], [], []⟩
noncomputable def laws_markInt64S.cfg : Cfg := ⟨laws_markInt64S.ctx, [0], [], fun id => match id with | 2 => ([0, 1, 5], [0]) | _ => ([], []), fun _ => []⟩
noncomputable def laws_markInt64S.code : Code := (Go.Proofs.Tryz.f36).body.getD .skip
noncomputable def laws_markInt64S.fin := finK laws_markInt64S.ctx laws_markInt64S.sig [.tmp 4]
noncomputable def laws_markInt64S.F (d : List Int × Int × Unit) : Option ((Int × Unit) × (List Int × Unit)) := anyK (runFn laws_markInt64S.cfg laws_markInt64S.fin laws_markInt64S.code (initSt laws_markInt64S.sig.ps d 19))
noncomputable def laws_markInt64S.l2 (k : Nat) (i3 : Int) (i4 : Int) (x5 : List Int) : Option ((Int × Unit) × (List Int × Unit)) :=
  Go.Vm.runT laws_markInt64S.cfg laws_markInt64S.fin k [.inLoop (sub [1, 0, 1, 0, 0] laws_markInt64S.code), .inBlock 0, .code (sub [1, 1] laws_markInt64S.code)]
    ⟨[.view 0 (.root 0) 1 false, .val false [⟨(.int .i64), .sh, i3⟩], .dead, .dead, .dead, .val false [⟨(.int .i64), .sh, i4⟩]] ++ deads 13, [(0, ⟨false, [⟨(.sl (.int .i64)), .deep, x5⟩]⟩)]⟩
theorem laws_markInt64S.l2_eq (k : Nat) (i3 : Int) (i4 : Int) (x5 : List Int) : laws_markInt64S.l2 (k + 1) i3 i4 x5 =
  if (decide (i4 < (x5.length : Int))) = true then
    if 0 ≤ i4 ∧ i4 < (x5.length : Int) then
      laws_markInt64S.l2 k (IntKind.i64.wrap (i3 + (1 : Int))) (IntKind.i64.wrap (i4 + (1 : Int))) (x5.set i4.toNat i3)
    else
      none
  else
    some ((i3, ()), (x5, ())) := by kernel_rfl
noncomputable def laws_markInt64S.T (k : Nat) (a_1 : List Int) (k_2 : Int) : Option ((Int × Unit) × (List Int × Unit)) :=
  laws_markInt64S.l2 k k_2 (0 : Int) a_1
theorem laws_markInt64S.run (k : Nat) (a_1 : List Int) (k_2 : Int) : runFn laws_markInt64S.cfg laws_markInt64S.fin laws_markInt64S.code (initSt laws_markInt64S.sig.ps (a_1, k_2, ()) 19) k = laws_markInt64S.T k a_1 k_2 := by kernel_rfl
theorem laws_markInt64S.of (a_1 : List Int) (k_2 : Int) {r : (Int × Unit) × (List Int × Unit)} (h : Ev (fun k => laws_markInt64S.T k a_1 k_2) r) : laws_markInt64S.F (a_1, k_2, ()) = some r := Ev.run (fun k => laws_markInt64S.run k a_1 k_2) h
theorem laws_markInt64S.ok : CtxOK Go.Proofs.Tryz.prog laws_markInt64S.ctx := ⟨List.forall_mem_nil _, mixed_ok, tab_ok tab_good, List.forall_mem_nil _, List.forall_mem_nil _, List.forall_mem_nil _⟩
theorem laws_markInt64S.S : Sound Go.Proofs.Tryz.prog ⟨36, laws_markInt64S.sig, laws_markInt64S.F⟩ := sound_any (fn := Go.Proofs.Tryz.f36) (code := laws_markInt64S.code) (g := laws_markInt64S.cfg) (res := [.tmp 4]) Go.Proofs.Tryz.func36 (by kernel_rfl) (by kernel_rfl) laws_markInt64S.ok (by kernel_rfl) (by kernel_rfl) (Nat.le_of_ble_eq_true (by kernel_rfl)) (by kernel_rfl)
/-! ### laws_markInt64SS -/
noncomputable def laws_markInt64SS.sig : Sig := ⟨[.wr false (.sl (.sl (.int .i64))) .deep, .val false (.int .i64)], [(.val false, (.int .i64), .deep)]⟩
noncomputable def laws_markInt64SS.ctx : Ctx := ⟨tabOf tabl, [⟨36, laws_markInt64S.sig, laws_markInt64S.F⟩], [], [], [], []⟩
noncomputable def laws_markInt64SS.cfg : Cfg := ⟨laws_markInt64SS.ctx, [0], [], fun id => match id with | 2 => ([0, 1, 5], [0]) | _ => ([], []), fun _ => []⟩
noncomputable def laws_markInt64SS.code : Code := (Go.Proofs.Tryz.f71).body.getD .skip
noncomputable def laws_markInt64SS.fin := finK laws_markInt64SS.ctx laws_markInt64SS.sig [.tmp 4]
noncomputable def laws_markInt64SS.F (d : List (List Int) × Int × Unit) : Option ((Int × Unit) × (List (List Int) × Unit)) := anyK (runFn laws_markInt64SS.cfg laws_markInt64SS.fin laws_markInt64SS.code (initSt laws_markInt64SS.sig.ps d 19))
noncomputable def laws_markInt64SS.l2 (k : Nat) (i3 : Int) (i4 : Int) (x5 : List (List Int)) : Option ((Int × Unit) × (List (List Int) × Unit)) :=
  Go.Vm.runT laws_markInt64SS.cfg laws_markInt64SS.fin k [.inLoop (sub [1, 0, 1, 0, 0] laws_markInt64SS.code), .inBlock 0, .code (sub [1, 1] laws_markInt64SS.code)]
    ⟨[.view 0 (.root 0) 1 false, .val false [⟨(.int .i64), .sh, i3⟩], .dead, .dead, .dead, .val false [⟨(.int .i64), .sh, i4⟩]] ++ deads 13, [(0, ⟨false, [⟨(.sl (.sl (.int .i64))), .deep, x5⟩]⟩)]⟩
theorem laws_markInt64SS.l2_eq (k : Nat) (i3 : Int) (i4 : Int) (x5 : List (List Int)) : laws_markInt64SS.l2 (k + 1) i3 i4 x5 =
  if (decide (i4 < (x5.length : Int))) = true then
    if 0 ≤ i4 ∧ i4 < (x5.length : Int) then
      (laws_markInt64S.F (x5.getD i4.toNat ([] : List Int), i3, ())).bind fun r6 =>
        laws_markInt64SS.l2 k (r6.1.1 : Int) (IntKind.i64.wrap (i4 + (1 : Int))) (x5.set i4.toNat r6.2.1)
    else
      none
  else
    some ((i3, ()), (x5, ())) := by kernel_rfl
noncomputable def laws_markInt64SS.T (k : Nat) (a_1 : List (List Int)) (k_2 : Int) : Option ((Int × Unit) × (List (List Int) × Unit)) :=
  laws_markInt64SS.l2 k k_2 (0 : Int) a_1
theorem laws_markInt64SS.run (k : Nat) (a_1 : List (List Int)) (k_2 : Int) : runFn laws_markInt64SS.cfg laws_markInt64SS.fin laws_markInt64SS.code (initSt laws_markInt64SS.sig.ps (a_1, k_2, ()) 19) k = laws_markInt64SS.T k a_1 k_2 := by kernel_rfl
theorem laws_markInt64SS.of (a_1 : List (List Int)) (k_2 : Int) {r : (Int × Unit) × (List (List Int) × Unit)} (h : Ev (fun k => laws_markInt64SS.T k a_1 k_2) r) : laws_markInt64SS.F (a_1, k_2, ()) = some r := Ev.run (fun k => laws_markInt64SS.run k a_1 k_2) h
theorem laws_markInt64SS.ok : CtxOK Go.Proofs.Tryz.prog laws_markInt64SS.ctx := ⟨List.forall_mem_nil _, mixed_ok, tab_ok tab_good, List.forall_mem_cons.2 ⟨laws_markInt64S.S, List.forall_mem_nil _⟩, List.forall_mem_nil _, List.forall_mem_nil _⟩
theorem laws_markInt64SS.S : Sound Go.Proofs.Tryz.prog ⟨71, laws_markInt64SS.sig, laws_markInt64SS.F⟩ := sound_any (fn := Go.Proofs.Tryz.f71) (code := laws_markInt64SS.code) (g := laws_markInt64SS.cfg) (res := [.tmp 4]) Go.Proofs.Tryz.func71 (by kernel_rfl) (by kernel_rfl) laws_markInt64SS.ok (by kernel_rfl) (by kernel_rfl) (Nat.le_of_ble_eq_true (by kernel_rfl)) (by kernel_rfl)
/-! ### laws_markComplex -/
noncomputable def laws_markComplex.sig : Sig := ⟨[.wr true (.sl (.sl (.int .i64))) .deep, .val false (.int .i64)], [(.val false, (.int .i64), .deep)]⟩
noncomputable def laws_markComplex.ctx : Ctx := ⟨tabOf tabl, [⟨71, laws_markInt64SS.sig, laws_markInt64SS.F⟩], [], [], [], []⟩
noncomputable def laws_markComplex.cfg : Cfg := ⟨laws_markComplex.ctx, [0], [], fun _ => ([], []), fun _ => []⟩
noncomputable def laws_markComplex.code : Code := (Go.Proofs.Tryz.f35).body.getD .skip
noncomputable def laws_markComplex.fin := finK laws_markComplex.ctx laws_markComplex.sig [.tmp 4]
noncomputable def laws_markComplex.F (d : List (List Int) × Int × Unit) : Option ((Int × Unit) × (List (List Int) × Unit)) := anyK (runFn laws_markComplex.cfg laws_markComplex.fin laws_markComplex.code (initSt laws_markComplex.sig.ps d 10))
noncomputable def laws_markComplex.T (a_1 : List (List Int)) (k_2 : Int) : Option ((Int × Unit) × (List (List Int) × Unit)) :=
  (laws_markInt64SS.F (a_1, k_2, ())).bind fun r3 =>
    some (((r3.1.1 : Int), ()), (r3.2.1, ()))
theorem laws_markComplex.run (k : Nat) (a_1 : List (List Int)) (k_2 : Int) : runFn laws_markComplex.cfg laws_markComplex.fin laws_markComplex.code (initSt laws_markComplex.sig.ps (a_1, k_2, ()) 10) k = laws_markComplex.T a_1 k_2 := by kernel_rfl
theorem laws_markComplex.eq (a_1 : List (List Int)) (k_2 : Int) : laws_markComplex.F (a_1, k_2, ()) = laws_markComplex.T a_1 k_2 := (congrArg anyK (funext fun k => laws_markComplex.run k a_1 k_2)).trans (anyK_const _)
theorem laws_markComplex.ok : CtxOK Go.Proofs.Tryz.prog laws_markComplex.ctx := ⟨List.forall_mem_nil _, mixed_ok, tab_ok tab_good, List.forall_mem_cons.2 ⟨laws_markInt64SS.S, List.forall_mem_nil _⟩, List.forall_mem_nil _, List.forall_mem_nil _⟩
theorem laws_markComplex.S : Sound Go.Proofs.Tryz.prog ⟨35, laws_markComplex.sig, laws_markComplex.F⟩ := sound_any (fn := Go.Proofs.Tryz.f35) (code := laws_markComplex.code) (g := laws_markComplex.cfg) (res := [.tmp 4]) Go.Proofs.Tryz.func35 (by kernel_rfl) (by kernel_rfl) laws_markComplex.ok (by kernel_rfl) (by kernel_rfl) (Nat.le_of_ble_eq_true (by kernel_rfl)) (by kernel_rfl)
/-! ### laws_markMatrixS -/
noncomputable def laws_markMatrixS.sig : Sig := ⟨[.wr false (.sl TMatrix) .deep, .val false (.int .i64)], [(.val false, (.int .i64), .deep)]⟩
noncomputable def laws_markMatrixS.ctx : Ctx := ⟨tabOf tabl, [⟨36, laws_markInt64S.sig, laws_markInt64S.F⟩], [], [], [], []⟩
noncomputable def laws_markMatrixS.cfg : Cfg := ⟨laws_markMatrixS.ctx, [0], [], fun id => match id with | 2 => ([0, 1, 5], [0]) | _ => ([], []), fun _ => []⟩
noncomputable def laws_markMatrixS.code : Code := (Go.Proofs.Tryz.f37).body.getD .skip
noncomputable def laws_markMatrixS.fin := finK laws_markMatrixS.ctx laws_markMatrixS.sig [.tmp 4]
noncomputable def laws_markMatrixS.F (d : List (Int × Int × Int × List Int) × Int × Unit) : Option ((Int × Unit) × (List (Int × Int × Int × List Int) × Unit)) := anyK (runFn laws_markMatrixS.cfg laws_markMatrixS.fin laws_markMatrixS.code (initSt laws_markMatrixS.sig.ps d 41))
noncomputable def laws_markMatrixS.l2 (k : Nat) (i3 : Int) (i4 : Int) (x5 : List (Int × Int × Int × List Int)) : Option ((Int × Unit) × (List (Int × Int × Int × List Int) × Unit)) :=
  Go.Vm.runT laws_markMatrixS.cfg laws_markMatrixS.fin k [.inLoop (sub [1, 0, 1, 0, 0] laws_markMatrixS.code), .inBlock 0, .code (sub [1, 1] laws_markMatrixS.code)]
    ⟨[.view 0 (.root 0) 1 false, .val false [⟨(.int .i64), .sh, i3⟩], .dead, .dead, .dead, .val false [⟨(.int .i64), .sh, i4⟩]] ++ deads 35, [(0, ⟨false, [⟨(.sl TMatrix), .deep, x5⟩]⟩)]⟩
theorem laws_markMatrixS.l2_eq (k : Nat) (i3 : Int) (i4 : Int) (x5 : List (Int × Int × Int × List Int)) : laws_markMatrixS.l2 (k + 1) i3 i4 x5 =
  if (decide (i4 < (x5.length : Int))) = true then
    if 0 ≤ i4 ∧ i4 < (x5.length : Int) then
      if 0 ≤ i4 ∧ i4 < ((x5.set i4.toNat (i3, (x5.getD i4.toNat (0, 0, 0, ([] : List Int))).2)).length : Int) then
        let y6 : List (Int × Int × Int × List Int) := (x5.set i4.toNat (i3, (x5.getD i4.toNat (0, 0, 0, ([] : List Int))).2)).set i4.toNat (((x5.set i4.toNat (i3, (x5.getD i4.toNat (0, 0, 0, ([] : List Int))).2)).getD i4.toNat (0, 0, 0, ([] : List Int))).1, (IntKind.i64.wrap (i3 + (1 : Int)), (((x5.set i4.toNat (i3, (x5.getD i4.toNat (0, 0, 0, ([] : List Int))).2)).getD i4.toNat (0, 0, 0, ([] : List Int))).2).2))
        if 0 ≤ i4 ∧ i4 < (y6.length : Int) then
          let y7 : List (Int × Int × Int × List Int) := y6.set i4.toNat ((y6.getD i4.toNat (0, 0, 0, ([] : List Int))).1, (((y6.getD i4.toNat (0, 0, 0, ([] : List Int))).2).1, (IntKind.i64.wrap ((IntKind.i64.wrap (i3 + (1 : Int))) + (1 : Int)), (((y6.getD i4.toNat (0, 0, 0, ([] : List Int))).2).2).2)))
          if 0 ≤ i4 ∧ i4 < (y7.length : Int) then
            (laws_markInt64S.F ((((y7.getD i4.toNat (0, 0, 0, ([] : List Int))).2).2).2, IntKind.i64.wrap ((IntKind.i64.wrap ((IntKind.i64.wrap (i3 + (1 : Int))) + (1 : Int))) + (1 : Int)), ())).bind fun r8 =>
              laws_markMatrixS.l2 k (r8.1.1 : Int) (IntKind.i64.wrap (i4 + (1 : Int))) (y7.set i4.toNat ((y7.getD i4.toNat (0, 0, 0, ([] : List Int))).1, (((y7.getD i4.toNat (0, 0, 0, ([] : List Int))).2).1, ((((y7.getD i4.toNat (0, 0, 0, ([] : List Int))).2).2).1, r8.2.1))))
          else
            none
        else
          none
      else
        none
    else
      none
  else
    some ((i3, ()), (x5, ())) := by kernel_rfl
noncomputable def laws_markMatrixS.T (k : Nat) (a_1 : List (Int × Int × Int × List Int)) (k_2 : Int) : Option ((Int × Unit) × (List (Int × Int × Int × List Int) × Unit)) :=
  laws_markMatrixS.l2 k k_2 (0 : Int) a_1
theorem laws_markMatrixS.run (k : Nat) (a_1 : List (Int × Int × Int × List Int)) (k_2 : Int) : runFn laws_markMatrixS.cfg laws_markMatrixS.fin laws_markMatrixS.code (initSt laws_markMatrixS.sig.ps (a_1, k_2, ()) 41) k = laws_markMatrixS.T k a_1 k_2 := by kernel_rfl
theorem laws_markMatrixS.of (a_1 : List (Int × Int × Int × List Int)) (k_2 : Int) {r : (Int × Unit) × (List (Int × Int × Int × List Int) × Unit)} (h : Ev (fun k => laws_markMatrixS.T k a_1 k_2) r) : laws_markMatrixS.F (a_1, k_2, ()) = some r := Ev.run (fun k => laws_markMatrixS.run k a_1 k_2) h
theorem laws_markMatrixS.ok : CtxOK Go.Proofs.Tryz.prog laws_markMatrixS.ctx := ⟨List.forall_mem_nil _, mixed_ok, tab_ok tab_good, List.forall_mem_cons.2 ⟨laws_markInt64S.S, List.forall_mem_nil _⟩, List.forall_mem_nil _, List.forall_mem_nil _⟩
theorem laws_markMatrixS.S : Sound Go.Proofs.Tryz.prog ⟨37, laws_markMatrixS.sig, laws_markMatrixS.F⟩ := sound_any (fn := Go.Proofs.Tryz.f37) (code := laws_markMatrixS.code) (g := laws_markMatrixS.cfg) (res := [.tmp 4]) Go.Proofs.Tryz.func37 (by kernel_rfl) (by kernel_rfl) laws_markMatrixS.ok (by kernel_rfl) (by kernel_rfl) (Nat.le_of_ble_eq_true (by kernel_rfl)) (by kernel_rfl)
/-! ### laws_markSheaf -/
noncomputable def laws_markSheaf.sig : Sig := ⟨[.wr true TSheaf .deep, .val false (.int .i64)], [(.val false, (.int .i64), .deep)]⟩
noncomputable def laws_markSheaf.ctx : Ctx := ⟨tabOf tabl, [⟨35, laws_markComplex.sig, laws_markComplex.F⟩, ⟨36, laws_markInt64S.sig, laws_markInt64S.F⟩, ⟨37, laws_markMatrixS.sig, laws_markMatrixS.F⟩], [], [], [], []⟩
noncomputable def laws_markSheaf.cfg : Cfg := ⟨laws_markSheaf.ctx, [0], [], fun _ => ([], []), fun _ => []⟩
noncomputable def laws_markSheaf.code : Code := (Go.Proofs.Tryz.f12).body.getD .skip
noncomputable def laws_markSheaf.fin := finK laws_markSheaf.ctx laws_markSheaf.sig [.tmp 4]
noncomputable def laws_markSheaf.F (d : (List (List Int) × Int × List Int × List (Int × Int × Int × List Int)) × Int × Unit) : Option ((Int × Unit) × ((List (List Int) × Int × List Int × List (Int × Int × Int × List Int)) × Unit)) := anyK (runFn laws_markSheaf.cfg laws_markSheaf.fin laws_markSheaf.code (initSt laws_markSheaf.sig.ps d 18))
noncomputable def laws_markSheaf.T (a_1 : List (List Int)) (a_2 : Int) (a_3 : List Int) (a_4 : List (Int × Int × Int × List Int)) (k_5 : Int) : Option ((Int × Unit) × ((List (List Int) × Int × List Int × List (Int × Int × Int × List Int)) × Unit)) :=
  (laws_markComplex.F (a_1, k_5, ())).bind fun r6 =>
    (laws_markInt64S.F (a_3, (r6.1.1 : Int), ())).bind fun r7 =>
      (laws_markMatrixS.F (a_4, (r7.1.1 : Int), ())).bind fun r8 =>
        some (((r8.1.1 : Int), ()), ((r6.2.1, (a_2, (r7.2.1, r8.2.1))), ()))
theorem laws_markSheaf.run (k : Nat) (a_1 : List (List Int)) (a_2 : Int) (a_3 : List Int) (a_4 : List (Int × Int × Int × List Int)) (k_5 : Int) : runFn laws_markSheaf.cfg laws_markSheaf.fin laws_markSheaf.code (initSt laws_markSheaf.sig.ps ((a_1, (a_2, (a_3, a_4))), k_5, ()) 18) k = laws_markSheaf.T a_1 a_2 a_3 a_4 k_5 := by kernel_rfl
theorem laws_markSheaf.eq (a_1 : List (List Int)) (a_2 : Int) (a_3 : List Int) (a_4 : List (Int × Int × Int × List Int)) (k_5 : Int) : laws_markSheaf.F ((a_1, (a_2, (a_3, a_4))), k_5, ()) = laws_markSheaf.T a_1 a_2 a_3 a_4 k_5 := (congrArg anyK (funext fun k => laws_markSheaf.run k a_1 a_2 a_3 a_4 k_5)).trans (anyK_const _)
theorem laws_markSheaf.ok : CtxOK Go.Proofs.Tryz.prog laws_markSheaf.ctx := ⟨List.forall_mem_nil _, mixed_ok, tab_ok tab_good, List.forall_mem_cons.2 ⟨laws_markComplex.S, List.forall_mem_cons.2 ⟨laws_markInt64S.S, List.forall_mem_cons.2 ⟨laws_markMatrixS.S, List.forall_mem_nil _⟩⟩⟩, List.forall_mem_nil _, List.forall_mem_nil _⟩
theorem laws_markSheaf.S : Sound Go.Proofs.Tryz.prog ⟨12, laws_markSheaf.sig, laws_markSheaf.F⟩ := sound_any (fn := Go.Proofs.Tryz.f12) (code := laws_markSheaf.code) (g := laws_markSheaf.cfg) (res := [.tmp 4]) Go.Proofs.Tryz.func12 (by kernel_rfl) (by kernel_rfl) laws_markSheaf.ok (by kernel_rfl) (by kernel_rfl) (Nat.le_of_ble_eq_true (by kernel_rfl)) (by kernel_rfl)
/-! ### laws_markCosheaf -/
noncomputable def laws_markCosheaf.sig : Sig := ⟨[.wr true TSheaf .deep, .val false (.int .i64)], [(.val false, (.int .i64), .deep)]⟩
noncomputable def laws_markCosheaf.ctx : Ctx := ⟨tabOf tabl, [⟨35, laws_markComplex.sig, laws_markComplex.F⟩, ⟨36, laws_markInt64S.sig, laws_markInt64S.F⟩, ⟨37, laws_markMatrixS.sig, laws_markMatrixS.F⟩], [], [], [], []⟩
noncomputable def laws_markCosheaf.cfg : Cfg := ⟨laws_markCosheaf.ctx, [0], [], fun _ => ([], []), fun _ => []⟩
noncomputable def laws_markCosheaf.code : Code := (Go.Proofs.Tryz.f13).body.getD .skip
noncomputable def laws_markCosheaf.fin := finK laws_markCosheaf.ctx laws_markCosheaf.sig [.tmp 4]
noncomputable def laws_markCosheaf.F (d : (List (List Int) × Int × List Int × List (Int × Int × Int × List Int)) × Int × Unit) : Option ((Int × Unit) × ((List (List Int) × Int × List Int × List (Int × Int × Int × List Int)) × Unit)) := anyK (runFn laws_markCosheaf.cfg laws_markCosheaf.fin laws_markCosheaf.code (initSt laws_markCosheaf.sig.ps d 18))
noncomputable def laws_markCosheaf.T (a_1 : List (List Int)) (a_2 : Int) (a_3 : List Int) (a_4 : List (Int × Int × Int × List Int)) (k_5 : Int) : Option ((Int × Unit) × ((List (List Int) × Int × List Int × List (Int × Int × Int × List Int)) × Unit)) :=
  (laws_markComplex.F (a_1, k_5, ())).bind fun r6 =>
    (laws_markInt64S.F (a_3, (r6.1.1 : Int), ())).bind fun r7 =>
      (laws_markMatrixS.F (a_4, (r7.1.1 : Int), ())).bind fun r8 =>
        some (((r8.1.1 : Int), ()), ((r6.2.1, (a_2, (r7.2.1, r8.2.1))), ()))
theorem laws_markCosheaf.run (k : Nat) (a_1 : List (List Int)) (a_2 : Int) (a_3 : List Int) (a_4 : List (Int × Int × Int × List Int)) (k_5 : Int) : runFn laws_markCosheaf.cfg laws_markCosheaf.fin laws_markCosheaf.code (initSt laws_markCosheaf.sig.ps ((a_1, (a_2, (a_3, a_4))), k_5, ()) 18) k = laws_markCosheaf.T a_1 a_2 a_3 a_4 k_5 := by kernel_rfl
theorem laws_markCosheaf.eq (a_1 : List (List Int)) (a_2 : Int) (a_3 : List Int) (a_4 : List (Int × Int × Int × List Int)) (k_5 : Int) : laws_markCosheaf.F ((a_1, (a_2, (a_3, a_4))), k_5, ()) = laws_markCosheaf.T a_1 a_2 a_3 a_4 k_5 := (congrArg anyK (funext fun k => laws_markCosheaf.run k a_1 a_2 a_3 a_4 k_5)).trans (anyK_const _)
theorem laws_markCosheaf.ok : CtxOK Go.Proofs.Tryz.prog laws_markCosheaf.ctx := ⟨List.forall_mem_nil _, mixed_ok, tab_ok tab_good, List.forall_mem_cons.2 ⟨laws_markComplex.S, List.forall_mem_cons.2 ⟨laws_markInt64S.S, List.forall_mem_cons.2 ⟨laws_markMatrixS.S, List.forall_mem_nil _⟩⟩⟩, List.forall_mem_nil _, List.forall_mem_nil _⟩
theorem laws_markCosheaf.S : Sound Go.Proofs.Tryz.prog ⟨13, laws_markCosheaf.sig, laws_markCosheaf.F⟩ := sound_any (fn := Go.Proofs.Tryz.f13) (code := laws_markCosheaf.code) (g := laws_markCosheaf.cfg) (res := [.tmp 4]) Go.Proofs.Tryz.func13 (by kernel_rfl) (by kernel_rfl) laws_markCosheaf.ok (by kernel_rfl) (by kernel_rfl) (Nat.le_of_ble_eq_true (by kernel_rfl)) (by kernel_rfl)
/-! ### laws_szInt64S -/
noncomputable def laws_szInt64S.sig : Sig := ⟨[.val false (.sl (.int .i64)), .val false (.int .i64)], [(.val false, (.int .i64), .deep)]⟩
noncomputable def laws_szInt64S.ctx : Ctx := ⟨tabOf tabl, [], [], [], [], []⟩
noncomputable def laws_szInt64S.cfg : Cfg := ⟨laws_szInt64S.ctx, [], [], fun _ => ([], []), fun _ => []⟩
noncomputable def laws_szInt64S.code : Code := (Go.Proofs.Tryz.f25).body.getD .skip
noncomputable def laws_szInt64S.fin := finK laws_szInt64S.ctx laws_szInt64S.sig [.tmp 4]
noncomputable def laws_szInt64S.F (d : List Int × Int × Unit) : Option ((Int × Unit) × (Unit)) := anyK (runFn laws_szInt64S.cfg laws_szInt64S.fin laws_szInt64S.code (initSt laws_szInt64S.sig.ps d 12))
noncomputable def laws_szInt64S.T (a_1 : List Int) (left_2 : Int) : Option ((Int × Unit) × (Unit)) :=
  if (decide ((IntKind.i64.wrap (left_2 - (a_1.length : Int))) < (0 : Int))) = true then
    some (((-1 : Int), ()), ())
  else
    some ((IntKind.i64.wrap (left_2 - (a_1.length : Int)), ()), ())
theorem laws_szInt64S.run (k : Nat) (a_1 : List Int) (left_2 : Int) : runFn laws_szInt64S.cfg laws_szInt64S.fin laws_szInt64S.code (initSt laws_szInt64S.sig.ps (a_1, left_2, ()) 12) k = laws_szInt64S.T a_1 left_2 := by kernel_rfl
theorem laws_szInt64S.eq (a_1 : List Int) (left_2 : Int) : laws_szInt64S.F (a_1, left_2, ()) = laws_szInt64S.T a_1 left_2 := (congrArg anyK (funext fun k => laws_szInt64S.run k a_1 left_2)).trans (anyK_const _)
theorem laws_szInt64S.ok : CtxOK Go.Proofs.Tryz.prog laws_szInt64S.ctx := ⟨List.forall_mem_nil _, mixed_ok, tab_ok tab_good, List.forall_mem_nil _, List.forall_mem_nil _, List.forall_mem_nil _⟩
theorem laws_szInt64S.S : Sound Go.Proofs.Tryz.prog ⟨25, laws_szInt64S.sig, laws_szInt64S.F⟩ := sound_any (fn := Go.Proofs.Tryz.f25) (code := laws_szInt64S.code) (g := laws_szInt64S.cfg) (res := [.tmp 4]) Go.Proofs.Tryz.func25 (by kernel_rfl) (by kernel_rfl) laws_szInt64S.ok (by kernel_rfl) (by kernel_rfl) (Nat.le_of_ble_eq_true (by kernel_rfl)) (by kernel_rfl)
/-! ### laws_szInt64SS -/
noncomputable def laws_szInt64SS.sig : Sig := ⟨[.val false (.sl (.sl (.int .i64))), .val false (.int .i64)], [(.val false, (.int .i64), .deep)]⟩
noncomputable def laws_szInt64SS.ctx : Ctx := ⟨tabOf tabl, [⟨25, laws_szInt64S.sig, laws_szInt64S.F⟩], [], [], [], []⟩
noncomputable def laws_szInt64SS.cfg : Cfg := ⟨laws_szInt64SS.ctx, [], [], fun id => match id with | 5 => ([0, 1, 5], []) | _ => ([], []), fun _ => []⟩
noncomputable def laws_szInt64SS.code : Code := (Go.Proofs.Tryz.f51).body.getD .skip
noncomputable def laws_szInt64SS.fin := finK laws_szInt64SS.ctx laws_szInt64SS.sig [.tmp 4]
noncomputable def laws_szInt64SS.F (d : List (List Int) × Int × Unit) : Option ((Int × Unit) × (Unit)) := anyK (runFn laws_szInt64SS.cfg laws_szInt64SS.fin laws_szInt64SS.code (initSt laws_szInt64SS.sig.ps d 27))
noncomputable def laws_szInt64SS.l5 (k : Nat) (x3 : List (List Int)) (i4 : Int) (i5 : Int) : Option ((Int × Unit) × (Unit)) :=
  Go.Vm.runT laws_szInt64SS.cfg laws_szInt64SS.fin k [.inLoop (sub [1, 1, 1, 0, 1, 0, 0] laws_szInt64SS.code), .inBlock 0, .code (sub [1, 1, 1, 1] laws_szInt64SS.code)]
    ⟨[.val false [⟨(.sl (.sl (.int .i64))), .sh, x3⟩], .val false [⟨(.int .i64), .sh, i4⟩], .dead, .dead, .dead, .val false [⟨(.int .i64), .sh, i5⟩]] ++ deads 21, []⟩
theorem laws_szInt64SS.l5_eq (k : Nat) (x3 : List (List Int)) (i4 : Int) (i5 : Int) : laws_szInt64SS.l5 (k + 1) x3 i4 i5 =
  if (decide (i5 < (x3.length : Int))) = true then
    if 0 ≤ i5 ∧ i5 < (x3.length : Int) then
      (laws_szInt64S.F (x3.getD i5.toNat ([] : List Int), i4, ())).bind fun r6 =>
        if (decide ((r6.1.1 : Int) < (0 : Int))) = true then
          some (((-1 : Int), ()), ())
        else
          laws_szInt64SS.l5 k x3 (r6.1.1 : Int) (IntKind.i64.wrap (i5 + (1 : Int)))
    else
      none
  else
    some ((i4, ()), ()) := by kernel_rfl
noncomputable def laws_szInt64SS.T (k : Nat) (a_1 : List (List Int)) (left_2 : Int) : Option ((Int × Unit) × (Unit)) :=
  if (decide ((IntKind.i64.wrap (left_2 - (a_1.length : Int))) < (0 : Int))) = true then
    some (((-1 : Int), ()), ())
  else
    laws_szInt64SS.l5 k a_1 (IntKind.i64.wrap (left_2 - (a_1.length : Int))) (0 : Int)
theorem laws_szInt64SS.run (k : Nat) (a_1 : List (List Int)) (left_2 : Int) : runFn laws_szInt64SS.cfg laws_szInt64SS.fin laws_szInt64SS.code (initSt laws_szInt64SS.sig.ps (a_1, left_2, ()) 27) k = laws_szInt64SS.T k a_1 left_2 := by kernel_rfl
theorem laws_szInt64SS.of (a_1 : List (List Int)) (left_2 : Int) {r : (Int × Unit) × (Unit)} (h : Ev (fun k => laws_szInt64SS.T k a_1 left_2) r) : laws_szInt64SS.F (a_1, left_2, ()) = some r := Ev.run (fun k => laws_szInt64SS.run k a_1 left_2) h
theorem laws_szInt64SS.ok : CtxOK Go.Proofs.Tryz.prog laws_szInt64SS.ctx := ⟨List.forall_mem_nil _, mixed_ok, tab_ok tab_good, List.forall_mem_cons.2 ⟨laws_szInt64S.S, List.forall_mem_nil _⟩, List.forall_mem_nil _, List.forall_mem_nil _⟩
theorem laws_szInt64SS.S : Sound Go.Proofs.Tryz.prog ⟨51, laws_szInt64SS.sig, laws_szInt64SS.F⟩ := sound_any (fn := Go.Proofs.Tryz.f51) (code := laws_szInt64SS.code) (g := laws_szInt64SS.cfg) (res := [.tmp 4]) Go.Proofs.Tryz.func51 (by kernel_rfl) (by kernel_rfl) laws_szInt64SS.ok (by kernel_rfl) (by kernel_rfl) (Nat.le_of_ble_eq_true (by kernel_rfl)) (by kernel_rfl)
/-! ### laws_szComplex -/
noncomputable def laws_szComplex.sig : Sig := ⟨[.val true (.sl (.sl (.int .i64))), .val false (.int .i64)], [(.val false, (.int .i64), .deep)]⟩
noncomputable def laws_szComplex.ctx : Ctx := ⟨tabOf tabl, [⟨51, laws_szInt64SS.sig, laws_szInt64SS.F⟩], [], [], [], []⟩
noncomputable def laws_szComplex.cfg : Cfg := ⟨laws_szComplex.ctx, [], [], fun _ => ([], []), fun _ => []⟩
noncomputable def laws_szComplex.code : Code := (Go.Proofs.Tryz.f24).body.getD .skip
noncomputable def laws_szComplex.fin := finK laws_szComplex.ctx laws_szComplex.sig [.tmp 4]
noncomputable def laws_szComplex.F (d : List (List Int) × Int × Unit) : Option ((Int × Unit) × (Unit)) := anyK (runFn laws_szComplex.cfg laws_szComplex.fin laws_szComplex.code (initSt laws_szComplex.sig.ps d 12))
noncomputable def laws_szComplex.T (a_1 : List (List Int)) (left_2 : Int) : Option ((Int × Unit) × (Unit)) :=
  (laws_szInt64SS.F (a_1, left_2, ())).bind fun r3 =>
    if (decide ((r3.1.1 : Int) < (0 : Int))) = true then
      some (((-1 : Int), ()), ())
    else
      some (((r3.1.1 : Int), ()), ())
theorem laws_szComplex.run (k : Nat) (a_1 : List (List Int)) (left_2 : Int) : runFn laws_szComplex.cfg laws_szComplex.fin laws_szComplex.code (initSt laws_szComplex.sig.ps (a_1, left_2, ()) 12) k = laws_szComplex.T a_1 left_2 := by kernel_rfl
theorem laws_szComplex.eq (a_1 : List (List Int)) (left_2 : Int) : laws_szComplex.F (a_1, left_2, ()) = laws_szComplex.T a_1 left_2 := (congrArg anyK (funext fun k => laws_szComplex.run k a_1 left_2)).trans (anyK_const _)
theorem laws_szComplex.ok : CtxOK Go.Proofs.Tryz.prog laws_szComplex.ctx := ⟨List.forall_mem_nil _, mixed_ok, tab_ok tab_good, List.forall_mem_cons.2 ⟨laws_szInt64SS.S, List.forall_mem_nil _⟩, List.forall_mem_nil _, List.forall_mem_nil _⟩
theorem laws_szComplex.S : Sound Go.Proofs.Tryz.prog ⟨24, laws_szComplex.sig, laws_szComplex.F⟩ := sound_any (fn := Go.Proofs.Tryz.f24) (code := laws_szComplex.code) (g := laws_szComplex.cfg) (res := [.tmp 4]) Go.Proofs.Tryz.func24 (by kernel_rfl) (by kernel_rfl) laws_szComplex.ok (by kernel_rfl) (by kernel_rfl) (Nat.le_of_ble_eq_true (by kernel_rfl)) (by kernel_rfl)
/-! ### laws_szMatrix -/
noncomputable def laws_szMatrix.sig : Sig := ⟨[.val true TMatrix, .val false (.int .i64)], [(.val false, (.int .i64), .deep)]⟩
noncomputable def laws_szMatrix.ctx : Ctx := ⟨tabOf tabl, [⟨25, laws_szInt64S.sig, laws_szInt64S.F⟩], [], [], [], []⟩
noncomputable def laws_szMatrix.cfg : Cfg := ⟨laws_szMatrix.ctx, [], [], fun _ => ([], []), fun _ => []⟩
noncomputable def laws_szMatrix.code : Code := (Go.Proofs.Tryz.f52).body.getD .skip
noncomputable def laws_szMatrix.fin := finK laws_szMatrix.ctx laws_szMatrix.sig [.tmp 4]
noncomputable def laws_szMatrix.F (d : (Int × Int × Int × List Int) × Int × Unit) : Option ((Int × Unit) × (Unit)) := anyK (runFn laws_szMatrix.cfg laws_szMatrix.fin laws_szMatrix.code (initSt laws_szMatrix.sig.ps d 12))
noncomputable def laws_szMatrix.T (a_1 : Int) (a_2 : Int) (a_3 : Int) (a_4 : List Int) (left_5 : Int) : Option ((Int × Unit) × (Unit)) :=
  (laws_szInt64S.F (a_4, left_5, ())).bind fun r6 =>
    if (decide ((r6.1.1 : Int) < (0 : Int))) = true then
      some (((-1 : Int), ()), ())
    else
      some (((r6.1.1 : Int), ()), ())
theorem laws_szMatrix.run (k : Nat) (a_1 : Int) (a_2 : Int) (a_3 : Int) (a_4 : List Int) (left_5 : Int) : runFn laws_szMatrix.cfg laws_szMatrix.fin laws_szMatrix.code (initSt laws_szMatrix.sig.ps ((a_1, (a_2, (a_3, a_4))), left_5, ()) 12) k = laws_szMatrix.T a_1 a_2 a_3 a_4 left_5 := by kernel_rfl
theorem laws_szMatrix.eq (a_1 : Int) (a_2 : Int) (a_3 : Int) (a_4 : List Int) (left_5 : Int) : laws_szMatrix.F ((a_1, (a_2, (a_3, a_4))), left_5, ()) = laws_szMatrix.T a_1 a_2 a_3 a_4 left_5 := (congrArg anyK (funext fun k => laws_szMatrix.run k a_1 a_2 a_3 a_4 left_5)).trans (anyK_const _)
theorem laws_szMatrix.ok : CtxOK Go.Proofs.Tryz.prog laws_szMatrix.ctx := ⟨List.forall_mem_nil _, mixed_ok, tab_ok tab_good, List.forall_mem_cons.2 ⟨laws_szInt64S.S, List.forall_mem_nil _⟩, List.forall_mem_nil _, List.forall_mem_nil _⟩
theorem laws_szMatrix.S : Sound Go.Proofs.Tryz.prog ⟨52, laws_szMatrix.sig, laws_szMatrix.F⟩ := sound_any (fn := Go.Proofs.Tryz.f52) (code := laws_szMatrix.code) (g := laws_szMatrix.cfg) (res := [.tmp 4]) Go.Proofs.Tryz.func52 (by kernel_rfl) (by kernel_rfl) laws_szMatrix.ok (by kernel_rfl) (by kernel_rfl) (Nat.le_of_ble_eq_true (by kernel_rfl)) (by kernel_rfl)
/-! ### laws_szMatrixS -/
noncomputable def laws_szMatrixS.sig : Sig := ⟨[.val false (.sl TMatrix), .val false (.int .i64)], [(.val false, (.int .i64), .deep)]⟩
noncomputable def laws_szMatrixS.ctx : Ctx := ⟨tabOf tabl, [⟨52, laws_szMatrix.sig, laws_szMatrix.F⟩], [], [], [], []⟩
noncomputable def laws_szMatrixS.cfg : Cfg := ⟨laws_szMatrixS.ctx, [], [], fun id => match id with | 5 => ([0, 1, 5], []) | _ => ([], []), fun _ => []⟩
noncomputable def laws_szMatrixS.code : Code := (Go.Proofs.Tryz.f26).body.getD .skip
noncomputable def laws_szMatrixS.fin := finK laws_szMatrixS.ctx laws_szMatrixS.sig [.tmp 4]
noncomputable def laws_szMatrixS.F (d : List (Int × Int × Int × List Int) × Int × Unit) : Option ((Int × Unit) × (Unit)) := anyK (runFn laws_szMatrixS.cfg laws_szMatrixS.fin laws_szMatrixS.code (initSt laws_szMatrixS.sig.ps d 27))
noncomputable def laws_szMatrixS.l5 (k : Nat) (x3 : List (Int × Int × Int × List Int)) (i4 : Int) (i5 : Int) : Option ((Int × Unit) × (Unit)) :=
  Go.Vm.runT laws_szMatrixS.cfg laws_szMatrixS.fin k [.inLoop (sub [1, 1, 1, 0, 1, 0, 0] laws_szMatrixS.code), .inBlock 0, .code (sub [1, 1, 1, 1] laws_szMatrixS.code)]
    ⟨[.val false [⟨(.sl TMatrix), .sh, x3⟩], .val false [⟨(.int .i64), .sh, i4⟩], .dead, .dead, .dead, .val false [⟨(.int .i64), .sh, i5⟩]] ++ deads 21, []⟩
theorem laws_szMatrixS.l5_eq (k : Nat) (x3 : List (Int × Int × Int × List Int)) (i4 : Int) (i5 : Int) : laws_szMatrixS.l5 (k + 1) x3 i4 i5 =
  if (decide (i5 < (x3.length : Int))) = true then
    if 0 ≤ i5 ∧ i5 < (x3.length : Int) then
      (laws_szMatrix.F (x3.getD i5.toNat (0, 0, 0, ([] : List Int)), i4, ())).bind fun r6 =>
        if (decide ((r6.1.1 : Int) < (0 : Int))) = true then
          some (((-1 : Int), ()), ())
        else
          laws_szMatrixS.l5 k x3 (r6.1.1 : Int) (IntKind.i64.wrap (i5 + (1 : Int)))
    else
      none
  else
    some ((i4, ()), ()) := by kernel_rfl
noncomputable def laws_szMatrixS.T (k : Nat) (a_1 : List (Int × Int × Int × List Int)) (left_2 : Int) : Option ((Int × Unit) × (Unit)) :=
  if (decide ((IntKind.i64.wrap (left_2 - (a_1.length : Int))) < (0 : Int))) = true then
    some (((-1 : Int), ()), ())
  else
    laws_szMatrixS.l5 k a_1 (IntKind.i64.wrap (left_2 - (a_1.length : Int))) (0 : Int)
theorem laws_szMatrixS.run (k : Nat) (a_1 : List (Int × Int × Int × List Int)) (left_2 : Int) : runFn laws_szMatrixS.cfg laws_szMatrixS.fin laws_szMatrixS.code (initSt laws_szMatrixS.sig.ps (a_1, left_2, ()) 27) k = laws_szMatrixS.T k a_1 left_2 := by kernel_rfl
theorem laws_szMatrixS.of (a_1 : List (Int × Int × Int × List Int)) (left_2 : Int) {r : (Int × Unit) × (Unit)} (h : Ev (fun k => laws_szMatrixS.T k a_1 left_2) r) : laws_szMatrixS.F (a_1, left_2, ()) = some r := Ev.run (fun k => laws_szMatrixS.run k a_1 left_2) h
theorem laws_szMatrixS.ok : CtxOK Go.Proofs.Tryz.prog laws_szMatrixS.ctx := ⟨List.forall_mem_nil _, mixed_ok, tab_ok tab_good, List.forall_mem_cons.2 ⟨laws_szMatrix.S, List.forall_mem_nil _⟩, List.forall_mem_nil _, List.forall_mem_nil _⟩
theorem laws_szMatrixS.S : Sound Go.Proofs.Tryz.prog ⟨26, laws_szMatrixS.sig, laws_szMatrixS.F⟩ := sound_any (fn := Go.Proofs.Tryz.f26) (code := laws_szMatrixS.code) (g := laws_szMatrixS.cfg) (res := [.tmp 4]) Go.Proofs.Tryz.func26 (by kernel_rfl) (by kernel_rfl) laws_szMatrixS.ok (by kernel_rfl) (by kernel_rfl) (Nat.le_of_ble_eq_true (by kernel_rfl)) (by kernel_rfl)
/-! ### laws_szCosheaf -/
noncomputable def laws_szCosheaf.sig : Sig := ⟨[.val true TSheaf, .val false (.int .i64)], [(.val false, (.int .i64), .deep)]⟩
noncomputable def laws_szCosheaf.ctx : Ctx := ⟨tabOf tabl, [⟨24, laws_szComplex.sig, laws_szComplex.F⟩, ⟨25, laws_szInt64S.sig, laws_szInt64S.F⟩, ⟨26, laws_szMatrixS.sig, laws_szMatrixS.F⟩], [], [], [], []⟩
noncomputable def laws_szCosheaf.cfg : Cfg := ⟨laws_szCosheaf.ctx, [], [], fun _ => ([], []), fun _ => []⟩
noncomputable def laws_szCosheaf.code : Code := (Go.Proofs.Tryz.f15).body.getD .skip
noncomputable def laws_szCosheaf.fin := finK laws_szCosheaf.ctx laws_szCosheaf.sig [.tmp 4]
noncomputable def laws_szCosheaf.F (d : (List (List Int) × Int × List Int × List (Int × Int × Int × List Int)) × Int × Unit) : Option ((Int × Unit) × (Unit)) := anyK (runFn laws_szCosheaf.cfg laws_szCosheaf.fin laws_szCosheaf.code (initSt laws_szCosheaf.sig.ps d 24))
noncomputable def laws_szCosheaf.T (a_1 : List (List Int)) (a_2 : Int) (a_3 : List Int) (a_4 : List (Int × Int × Int × List Int)) (left_5 : Int) : Option ((Int × Unit) × (Unit)) :=
  (laws_szComplex.F (a_1, left_5, ())).bind fun r6 =>
    if (decide ((r6.1.1 : Int) < (0 : Int))) = true then
      some (((-1 : Int), ()), ())
    else
      (laws_szInt64S.F (a_3, (r6.1.1 : Int), ())).bind fun r7 =>
        if (decide ((r7.1.1 : Int) < (0 : Int))) = true then
          some (((-1 : Int), ()), ())
        else
          (laws_szMatrixS.F (a_4, (r7.1.1 : Int), ())).bind fun r8 =>
            if (decide ((r8.1.1 : Int) < (0 : Int))) = true then
              some (((-1 : Int), ()), ())
            else
              some (((r8.1.1 : Int), ()), ())
theorem laws_szCosheaf.run (k : Nat) (a_1 : List (List Int)) (a_2 : Int) (a_3 : List Int) (a_4 : List (Int × Int × Int × List Int)) (left_5 : Int) : runFn laws_szCosheaf.cfg laws_szCosheaf.fin laws_szCosheaf.code (initSt laws_szCosheaf.sig.ps ((a_1, (a_2, (a_3, a_4))), left_5, ()) 24) k = laws_szCosheaf.T a_1 a_2 a_3 a_4 left_5 := by kernel_rfl
theorem laws_szCosheaf.eq (a_1 : List (List Int)) (a_2 : Int) (a_3 : List Int) (a_4 : List (Int × Int × Int × List Int)) (left_5 : Int) : laws_szCosheaf.F ((a_1, (a_2, (a_3, a_4))), left_5, ()) = laws_szCosheaf.T a_1 a_2 a_3 a_4 left_5 := (congrArg anyK (funext fun k => laws_szCosheaf.run k a_1 a_2 a_3 a_4 left_5)).trans (anyK_const _)
theorem laws_szCosheaf.ok : CtxOK Go.Proofs.Tryz.prog laws_szCosheaf.ctx := ⟨List.forall_mem_nil _, mixed_ok, tab_ok tab_good, List.forall_mem_cons.2 ⟨laws_szComplex.S, List.forall_mem_cons.2 ⟨laws_szInt64S.S, List.forall_mem_cons.2 ⟨laws_szMatrixS.S, List.forall_mem_nil _⟩⟩⟩, List.forall_mem_nil _, List.forall_mem_nil _⟩
theorem laws_szCosheaf.S : Sound Go.Proofs.Tryz.prog ⟨15, laws_szCosheaf.sig, laws_szCosheaf.F⟩ := sound_any (fn := Go.Proofs.Tryz.f15) (code := laws_szCosheaf.code) (g := laws_szCosheaf.cfg) (res := [.tmp 4]) Go.Proofs.Tryz.func15 (by kernel_rfl) (by kernel_rfl) laws_szCosheaf.ok (by kernel_rfl) (by kernel_rfl) (Nat.le_of_ble_eq_true (by kernel_rfl)) (by kernel_rfl)
/-! ### spec_l00In -/
noncomputable def spec_l00In.sig : Sig := ⟨[.val false (.int .i64), .val false (.int .i64), .val false (.int .i64)], [(.val false, .bool, .deep)]⟩
noncomputable def spec_l00In.ctx : Ctx := ⟨tabOf tabl, [], [], [], [], []⟩
noncomputable def spec_l00In.cfg : Cfg := ⟨spec_l00In.ctx, [], [], fun _ => ([], []), fun _ => []⟩
noncomputable def spec_l00In.code : Code := (Go.Proofs.Tryz.f82).body.getD .skip
noncomputable def spec_l00In.fin := finK spec_l00In.ctx spec_l00In.sig [.tmp 6]
noncomputable def spec_l00In.F (d : Int × Int × Int × Unit) : Option ((Bool × Unit) × (Unit)) := anyK (runFn spec_l00In.cfg spec_l00In.fin spec_l00In.code (initSt spec_l00In.sig.ps d 15))
noncomputable def spec_l00In.T (n_1 : Int) (low_2 : Int) (high_3 : Int) : Option ((Bool × Unit) × (Unit)) :=
  if (decide (n_1 ≥ low_2)) = true then
    some ((decide (n_1 ≤ high_3), ()), ())
  else
    some ((false, ()), ())
theorem spec_l00In.run (k : Nat) (n_1 : Int) (low_2 : Int) (high_3 : Int) : runFn spec_l00In.cfg spec_l00In.fin spec_l00In.code (initSt spec_l00In.sig.ps (n_1, low_2, high_3, ()) 15) k = spec_l00In.T n_1 low_2 high_3 := by kernel_rfl
theorem spec_l00In.eq (n_1 : Int) (low_2 : Int) (high_3 : Int) : spec_l00In.F (n_1, low_2, high_3, ()) = spec_l00In.T n_1 low_2 high_3 := (congrArg anyK (funext fun k => spec_l00In.run k n_1 low_2 high_3)).trans (anyK_const _)
theorem spec_l00In.ok : CtxOK Go.Proofs.Tryz.prog spec_l00In.ctx := ⟨List.forall_mem_nil _, mixed_ok, tab_ok tab_good, List.forall_mem_nil _, List.forall_mem_nil _, List.forall_mem_nil _⟩
theorem spec_l00In.S : Sound Go.Proofs.Tryz.prog ⟨82, spec_l00In.sig, spec_l00In.F⟩ := sound_any (fn := Go.Proofs.Tryz.f82) (code := spec_l00In.code) (g := spec_l00In.cfg) (res := [.tmp 6]) Go.Proofs.Tryz.func82 (by kernel_rfl) (by kernel_rfl) spec_l00In.ok (by kernel_rfl) (by kernel_rfl) (Nat.le_of_ble_eq_true (by kernel_rfl)) (by kernel_rfl)
/-! ### spec_l00Rises -/
noncomputable def spec_l00Rises.sig : Sig := ⟨[.val false (.sl (.int .i64)), .val false (.int .i64), .val false (.int .i64)], [(.val false, .bool, .deep)]⟩
noncomputable def spec_l00Rises.ctx : Ctx := ⟨tabOf tabl, [⟨82, spec_l00In.sig, spec_l00In.F⟩], [], [], [], []⟩
noncomputable def spec_l00Rises.cfg : Cfg := ⟨spec_l00Rises.ctx, [], [], fun id => match id with | 2 => ([0, 1, 2, 7], []) | _ => ([], []), fun _ => []⟩
noncomputable def spec_l00Rises.code : Code := (Go.Proofs.Tryz.f115).body.getD .skip
noncomputable def spec_l00Rises.fin := finK spec_l00Rises.ctx spec_l00Rises.sig [.tmp 6]
noncomputable def spec_l00Rises.F (d : List Int × Int × Int × Unit) : Option ((Bool × Unit) × (Unit)) := anyK (runFn spec_l00Rises.cfg spec_l00Rises.fin spec_l00Rises.code (initSt spec_l00Rises.sig.ps d 38))
noncomputable def spec_l00Rises.l2 (k : Nat) (x4 : List Int) (i5 : Int) (i6 : Int) (i7 : Int) : Option ((Bool × Unit) × (Unit)) :=
  Go.Vm.runT spec_l00Rises.cfg spec_l00Rises.fin k [.inLoop (sub [1, 0, 1, 0, 0] spec_l00Rises.code), .inBlock 0, .code (sub [1, 1] spec_l00Rises.code)]
    ⟨[.val false [⟨(.sl (.int .i64)), .sh, x4⟩], .val false [⟨(.int .i64), .sh, i5⟩], .val false [⟨(.int .i64), .sh, i6⟩], .dead, .dead, .dead, .dead, .val false [⟨(.int .i64), .sh, i7⟩]] ++ deads 30, []⟩
theorem spec_l00Rises.l2_eq (k : Nat) (x4 : List Int) (i5 : Int) (i6 : Int) (i7 : Int) : spec_l00Rises.l2 (k + 1) x4 i5 i6 i7 =
  if (decide (i7 < (x4.length : Int))) = true then
    if 0 ≤ i7 ∧ i7 < (x4.length : Int) then
      (spec_l00In.F ((x4.getD i7.toNat 0 : Int), i5, i6, ())).bind fun r8 =>
        if (!(r8.1.1 : Bool)) = true then
          some ((false, ()), ())
        else
          if (decide (i7 > (0 : Int))) = true then
            if 0 ≤ (IntKind.i64.wrap (i7 - (1 : Int))) ∧ (IntKind.i64.wrap (i7 - (1 : Int))) < (x4.length : Int) then
              if 0 ≤ i7 ∧ i7 < (x4.length : Int) then
                if (decide ((x4.getD (IntKind.i64.wrap (i7 - (1 : Int))).toNat 0) ≥ (x4.getD i7.toNat 0 : Int))) = true then
                  some ((false, ()), ())
                else
                  spec_l00Rises.l2 k x4 i5 i6 (IntKind.i64.wrap (i7 + (1 : Int)))
              else
                none
            else
              none
          else
            spec_l00Rises.l2 k x4 i5 i6 (IntKind.i64.wrap (i7 + (1 : Int)))
    else
      none
  else
    some ((true, ()), ()) := by kernel_rfl
noncomputable def spec_l00Rises.T (k : Nat) (list_1 : List Int) (low_2 : Int) (high_3 : Int) : Option ((Bool × Unit) × (Unit)) :=
  spec_l00Rises.l2 k list_1 low_2 high_3 (0 : Int)
theorem spec_l00Rises.run (k : Nat) (list_1 : List Int) (low_2 : Int) (high_3 : Int) : runFn spec_l00Rises.cfg spec_l00Rises.fin spec_l00Rises.code (initSt spec_l00Rises.sig.ps (list_1, low_2, high_3, ()) 38) k = spec_l00Rises.T k list_1 low_2 high_3 := by kernel_rfl
theorem spec_l00Rises.of (list_1 : List Int) (low_2 : Int) (high_3 : Int) {r : (Bool × Unit) × (Unit)} (h : Ev (fun k => spec_l00Rises.T k list_1 low_2 high_3) r) : spec_l00Rises.F (list_1, low_2, high_3, ()) = some r := Ev.run (fun k => spec_l00Rises.run k list_1 low_2 high_3) h
theorem spec_l00Rises.ok : CtxOK Go.Proofs.Tryz.prog spec_l00Rises.ctx := ⟨List.forall_mem_nil _, mixed_ok, tab_ok tab_good, List.forall_mem_cons.2 ⟨spec_l00In.S, List.forall_mem_nil _⟩, List.forall_mem_nil _, List.forall_mem_nil _⟩
theorem spec_l00Rises.S : Sound Go.Proofs.Tryz.prog ⟨115, spec_l00Rises.sig, spec_l00Rises.F⟩ := sound_any (fn := Go.Proofs.Tryz.f115) (code := spec_l00Rises.code) (g := spec_l00Rises.cfg) (res := [.tmp 6]) Go.Proofs.Tryz.func115 (by kernel_rfl) (by kernel_rfl) spec_l00Rises.ok (by kernel_rfl) (by kernel_rfl) (Nat.le_of_ble_eq_true (by kernel_rfl)) (by kernel_rfl)
/-! ### spec_l05Simplex -/
noncomputable def spec_l05Simplex.sig : Sig := ⟨[.val false (.sl (.int .i64))], [(.val false, .bool, .deep)]⟩
noncomputable def spec_l05Simplex.ctx : Ctx := ⟨tabOf tabl, [⟨82, spec_l00In.sig, spec_l00In.F⟩, ⟨115, spec_l00Rises.sig, spec_l00Rises.F⟩], [], [], [], []⟩
noncomputable def spec_l05Simplex.cfg : Cfg := ⟨spec_l05Simplex.ctx, [], [], fun _ => ([], []), fun _ => []⟩
noncomputable def spec_l05Simplex.code : Code := (Go.Proofs.Tryz.f87).body.getD .skip
noncomputable def spec_l05Simplex.fin := finK spec_l05Simplex.ctx spec_l05Simplex.sig [.tmp 2]
noncomputable def spec_l05Simplex.F (d : List Int × Unit) : Option ((Bool × Unit) × (Unit)) := anyK (runFn spec_l05Simplex.cfg spec_l05Simplex.fin spec_l05Simplex.code (initSt spec_l05Simplex.sig.ps d 10))
noncomputable def spec_l05Simplex.T (s_1 : List Int) : Option ((Bool × Unit) × (Unit)) :=
  (spec_l00In.F ((s_1.length : Int), (1 : Int), (4 : Int), ())).bind fun r2 =>
    if (r2.1.1 : Bool) = true then
      (spec_l00Rises.F (s_1, (0 : Int), (9 : Int), ())).bind fun r3 =>
        some (((r3.1.1 : Bool), ()), ())
    else
      some ((false, ()), ())
theorem spec_l05Simplex.run (k : Nat) (s_1 : List Int) : runFn spec_l05Simplex.cfg spec_l05Simplex.fin spec_l05Simplex.code (initSt spec_l05Simplex.sig.ps (s_1, ()) 10) k = spec_l05Simplex.T s_1 := by kernel_rfl
theorem spec_l05Simplex.eq (s_1 : List Int) : spec_l05Simplex.F (s_1, ()) = spec_l05Simplex.T s_1 := (congrArg anyK (funext fun k => spec_l05Simplex.run k s_1)).trans (anyK_const _)
theorem spec_l05Simplex.ok : CtxOK Go.Proofs.Tryz.prog spec_l05Simplex.ctx := ⟨List.forall_mem_nil _, mixed_ok, tab_ok tab_good, List.forall_mem_cons.2 ⟨spec_l00In.S, List.forall_mem_cons.2 ⟨spec_l00Rises.S, List.forall_mem_nil _⟩⟩, List.forall_mem_nil _, List.forall_mem_nil _⟩
theorem spec_l05Simplex.S : Sound Go.Proofs.Tryz.prog ⟨87, spec_l05Simplex.sig, spec_l05Simplex.F⟩ := sound_any (fn := Go.Proofs.Tryz.f87) (code := spec_l05Simplex.code) (g := spec_l05Simplex.cfg) (res := [.tmp 2]) Go.Proofs.Tryz.func87 (by kernel_rfl) (by kernel_rfl) spec_l05Simplex.ok (by kernel_rfl) (by kernel_rfl) (Nat.le_of_ble_eq_true (by kernel_rfl)) (by kernel_rfl)
/-! ### spec_l05Before -/
noncomputable def spec_l05Before.sig : Sig := ⟨[.val false (.sl (.int .i64)), .val false (.sl (.int .i64))], [(.val false, .bool, .deep)]⟩
noncomputable def spec_l05Before.ctx : Ctx := ⟨tabOf tabl, [], [], [], [], []⟩
noncomputable def spec_l05Before.cfg : Cfg := ⟨spec_l05Before.ctx, [], [], fun id => match id with | 4 => ([0, 1, 5], []) | _ => ([], []), fun _ => []⟩
noncomputable def spec_l05Before.code : Code := (Go.Proofs.Tryz.f88).body.getD .skip
noncomputable def spec_l05Before.fin := finK spec_l05Before.ctx spec_l05Before.sig [.tmp 4]
noncomputable def spec_l05Before.F (d : List Int × List Int × Unit) : Option ((Bool × Unit) × (Unit)) := anyK (runFn spec_l05Before.cfg spec_l05Before.fin spec_l05Before.code (initSt spec_l05Before.sig.ps d 40))
noncomputable def spec_l05Before.l4 (k : Nat) (x3 : List Int) (x4 : List Int) (i5 : Int) : Option ((Bool × Unit) × (Unit)) :=
  Go.Vm.runT spec_l05Before.cfg spec_l05Before.fin k [.inLoop (sub [1, 1, 0, 1, 0, 0] spec_l05Before.code), .inBlock 0, .code (sub [1, 1, 1] spec_l05Before.code)]
    ⟨[.val false [⟨(.sl (.int .i64)), .sh, x3⟩], .val false [⟨(.sl (.int .i64)), .sh, x4⟩], .dead, .dead, .dead, .val false [⟨(.int .i64), .sh, i5⟩]] ++ deads 34, []⟩
theorem spec_l05Before.l4_eq (k : Nat) (x3 : List Int) (x4 : List Int) (i5 : Int) : spec_l05Before.l4 (k + 1) x3 x4 i5 =
  if (decide (i5 < (x3.length : Int))) = true then
    if 0 ≤ i5 ∧ i5 < (x3.length : Int) then
      if 0 ≤ i5 ∧ i5 < (x4.length : Int) then
        if ((x3.getD i5.toNat 0 : Int) != (x4.getD i5.toNat 0 : Int)) = true then
          if 0 ≤ i5 ∧ i5 < (x3.length : Int) then
            if 0 ≤ i5 ∧ i5 < (x4.length : Int) then
              some ((decide ((x3.getD i5.toNat 0 : Int) < (x4.getD i5.toNat 0 : Int)), ()), ())
            else
              none
          else
            none
        else
          spec_l05Before.l4 k x3 x4 (IntKind.i64.wrap (i5 + (1 : Int)))
      else
        none
    else
      none
  else
    some ((false, ()), ()) := by kernel_rfl
noncomputable def spec_l05Before.T (k : Nat) (a_1 : List Int) (b_2 : List Int) : Option ((Bool × Unit) × (Unit)) :=
  if ((a_1.length : Int) != (b_2.length : Int)) = true then
    some ((decide ((a_1.length : Int) < (b_2.length : Int)), ()), ())
  else
    spec_l05Before.l4 k a_1 b_2 (0 : Int)
theorem spec_l05Before.run (k : Nat) (a_1 : List Int) (b_2 : List Int) : runFn spec_l05Before.cfg spec_l05Before.fin spec_l05Before.code (initSt spec_l05Before.sig.ps (a_1, b_2, ()) 40) k = spec_l05Before.T k a_1 b_2 := by kernel_rfl
theorem spec_l05Before.of (a_1 : List Int) (b_2 : List Int) {r : (Bool × Unit) × (Unit)} (h : Ev (fun k => spec_l05Before.T k a_1 b_2) r) : spec_l05Before.F (a_1, b_2, ()) = some r := Ev.run (fun k => spec_l05Before.run k a_1 b_2) h
theorem spec_l05Before.ok : CtxOK Go.Proofs.Tryz.prog spec_l05Before.ctx := ⟨List.forall_mem_nil _, mixed_ok, tab_ok tab_good, List.forall_mem_nil _, List.forall_mem_nil _, List.forall_mem_nil _⟩
theorem spec_l05Before.S : Sound Go.Proofs.Tryz.prog ⟨88, spec_l05Before.sig, spec_l05Before.F⟩ := sound_any (fn := Go.Proofs.Tryz.f88) (code := spec_l05Before.code) (g := spec_l05Before.cfg) (res := [.tmp 4]) Go.Proofs.Tryz.func88 (by kernel_rfl) (by kernel_rfl) spec_l05Before.ok (by kernel_rfl) (by kernel_rfl) (Nat.le_of_ble_eq_true (by kernel_rfl)) (by kernel_rfl)
/-! ### spec_l00Same -/
noncomputable def spec_l00Same.sig : Sig := ⟨[.val false (.sl (.int .i64)), .val false (.sl (.int .i64))], [(.val false, .bool, .deep)]⟩
noncomputable def spec_l00Same.ctx : Ctx := ⟨tabOf tabl, [], [], [], [], []⟩
noncomputable def spec_l00Same.cfg : Cfg := ⟨spec_l00Same.ctx, [], [], fun id => match id with | 4 => ([0, 1, 5], []) | _ => ([], []), fun _ => []⟩
noncomputable def spec_l00Same.code : Code := (Go.Proofs.Tryz.f116).body.getD .skip
noncomputable def spec_l00Same.fin := finK spec_l00Same.ctx spec_l00Same.sig [.tmp 4]
noncomputable def spec_l00Same.F (d : List Int × List Int × Unit) : Option ((Bool × Unit) × (Unit)) := anyK (runFn spec_l00Same.cfg spec_l00Same.fin spec_l00Same.code (initSt spec_l00Same.sig.ps d 26))
noncomputable def spec_l00Same.l4 (k : Nat) (x3 : List Int) (x4 : List Int) (i5 : Int) : Option ((Bool × Unit) × (Unit)) :=
  Go.Vm.runT spec_l00Same.cfg spec_l00Same.fin k [.inLoop (sub [1, 1, 0, 1, 0, 0] spec_l00Same.code), .inBlock 0, .code (sub [1, 1, 1] spec_l00Same.code)]
    ⟨[.val false [⟨(.sl (.int .i64)), .sh, x3⟩], .val false [⟨(.sl (.int .i64)), .sh, x4⟩], .dead, .dead, .dead, .val false [⟨(.int .i64), .sh, i5⟩]] ++ deads 20, []⟩
theorem spec_l00Same.l4_eq (k : Nat) (x3 : List Int) (x4 : List Int) (i5 : Int) : spec_l00Same.l4 (k + 1) x3 x4 i5 =
  if (decide (i5 < (x3.length : Int))) = true then
    if 0 ≤ i5 ∧ i5 < (x3.length : Int) then
      if 0 ≤ i5 ∧ i5 < (x4.length : Int) then
        if ((x3.getD i5.toNat 0 : Int) != (x4.getD i5.toNat 0 : Int)) = true then
          some ((false, ()), ())
        else
          spec_l00Same.l4 k x3 x4 (IntKind.i64.wrap (i5 + (1 : Int)))
      else
        none
    else
      none
  else
    some ((true, ()), ()) := by kernel_rfl
noncomputable def spec_l00Same.T (k : Nat) (a_1 : List Int) (b_2 : List Int) : Option ((Bool × Unit) × (Unit)) :=
  if ((a_1.length : Int) != (b_2.length : Int)) = true then
    some ((false, ()), ())
  else
    spec_l00Same.l4 k a_1 b_2 (0 : Int)
theorem spec_l00Same.run (k : Nat) (a_1 : List Int) (b_2 : List Int) : runFn spec_l00Same.cfg spec_l00Same.fin spec_l00Same.code (initSt spec_l00Same.sig.ps (a_1, b_2, ()) 26) k = spec_l00Same.T k a_1 b_2 := by kernel_rfl
theorem spec_l00Same.of (a_1 : List Int) (b_2 : List Int) {r : (Bool × Unit) × (Unit)} (h : Ev (fun k => spec_l00Same.T k a_1 b_2) r) : spec_l00Same.F (a_1, b_2, ()) = some r := Ev.run (fun k => spec_l00Same.run k a_1 b_2) h
theorem spec_l00Same.ok : CtxOK Go.Proofs.Tryz.prog spec_l00Same.ctx := ⟨List.forall_mem_nil _, mixed_ok, tab_ok tab_good, List.forall_mem_nil _, List.forall_mem_nil _, List.forall_mem_nil _⟩
theorem spec_l00Same.S : Sound Go.Proofs.Tryz.prog ⟨116, spec_l00Same.sig, spec_l00Same.F⟩ := sound_any (fn := Go.Proofs.Tryz.f116) (code := spec_l00Same.code) (g := spec_l00Same.cfg) (res := [.tmp 4]) Go.Proofs.Tryz.func116 (by kernel_rfl) (by kernel_rfl) spec_l00Same.ok (by kernel_rfl) (by kernel_rfl) (Nat.le_of_ble_eq_true (by kernel_rfl)) (by kernel_rfl)
/-! ### spec_l05Find -/
noncomputable def spec_l05Find.sig : Sig := ⟨[.rptr (.sl (.sl (.int .i64))), .val false (.sl (.int .i64))], [(.val false, (.int .i64), .deep)]⟩
noncomputable def spec_l05Find.ctx : Ctx := ⟨tabOf tabl, [⟨116, spec_l00Same.sig, spec_l00Same.F⟩], [], [], [], []⟩
noncomputable def spec_l05Find.cfg : Cfg := ⟨spec_l05Find.ctx, [], [], fun id => match id with | 2 => ([0, 1, 5], []) | _ => ([], []), fun _ => []⟩
noncomputable def spec_l05Find.code : Code := (Go.Proofs.Tryz.f89).body.getD .skip
noncomputable def spec_l05Find.fin := finK spec_l05Find.ctx spec_l05Find.sig [.tmp 4]
noncomputable def spec_l05Find.F (d : List (List Int) × List Int × Unit) : Option ((Int × Unit) × (Unit)) := anyK (runFn spec_l05Find.cfg spec_l05Find.fin spec_l05Find.code (initSt spec_l05Find.sig.ps d 25))
noncomputable def spec_l05Find.l2 (k : Nat) (x3 : List (List Int)) (x4 : List Int) (i5 : Int) : Option ((Int × Unit) × (Unit)) :=
  Go.Vm.runT spec_l05Find.cfg spec_l05Find.fin k [.inLoop (sub [1, 0, 1, 0, 0] spec_l05Find.code), .inBlock 0, .code (sub [1, 1] spec_l05Find.code)]
    ⟨[.rptr false [⟨(.sl (.sl (.int .i64))), .sh, x3⟩], .val false [⟨(.sl (.int .i64)), .sh, x4⟩], .dead, .dead, .dead, .val false [⟨(.int .i64), .sh, i5⟩]] ++ deads 19, []⟩
theorem spec_l05Find.l2_eq (k : Nat) (x3 : List (List Int)) (x4 : List Int) (i5 : Int) : spec_l05Find.l2 (k + 1) x3 x4 i5 =
  if (decide (i5 < (x3.length : Int))) = true then
    if 0 ≤ i5 ∧ i5 < (x3.length : Int) then
      (spec_l00Same.F (x3.getD i5.toNat ([] : List Int), x4, ())).bind fun r6 =>
        if (r6.1.1 : Bool) = true then
          some ((i5, ()), ())
        else
          spec_l05Find.l2 k x3 x4 (IntKind.i64.wrap (i5 + (1 : Int)))
    else
      none
  else
    some (((-1 : Int), ()), ()) := by kernel_rfl
noncomputable def spec_l05Find.T (k : Nat) (c_1 : List (List Int)) (s_2 : List Int) : Option ((Int × Unit) × (Unit)) :=
  spec_l05Find.l2 k c_1 s_2 (0 : Int)
theorem spec_l05Find.run (k : Nat) (c_1 : List (List Int)) (s_2 : List Int) : runFn spec_l05Find.cfg spec_l05Find.fin spec_l05Find.code (initSt spec_l05Find.sig.ps (c_1, s_2, ()) 25) k = spec_l05Find.T k c_1 s_2 := by kernel_rfl
theorem spec_l05Find.of (c_1 : List (List Int)) (s_2 : List Int) {r : (Int × Unit) × (Unit)} (h : Ev (fun k => spec_l05Find.T k c_1 s_2) r) : spec_l05Find.F (c_1, s_2, ()) = some r := Ev.run (fun k => spec_l05Find.run k c_1 s_2) h
theorem spec_l05Find.ok : CtxOK Go.Proofs.Tryz.prog spec_l05Find.ctx := ⟨List.forall_mem_nil _, mixed_ok, tab_ok tab_good, List.forall_mem_cons.2 ⟨spec_l00Same.S, List.forall_mem_nil _⟩, List.forall_mem_nil _, List.forall_mem_nil _⟩
theorem spec_l05Find.S : Sound Go.Proofs.Tryz.prog ⟨89, spec_l05Find.sig, spec_l05Find.F⟩ := sound_any (fn := Go.Proofs.Tryz.f89) (code := spec_l05Find.code) (g := spec_l05Find.cfg) (res := [.tmp 4]) Go.Proofs.Tryz.func89 (by kernel_rfl) (by kernel_rfl) spec_l05Find.ok (by kernel_rfl) (by kernel_rfl) (Nat.le_of_ble_eq_true (by kernel_rfl)) (by kernel_rfl)
/-! ### spec_l00Own -/
noncomputable def spec_l00Own.sig : Sig := ⟨[.val false (.sl (.int .i64))], [(.val false, (.sl (.int .i64)), .deep)]⟩
noncomputable def spec_l00Own.ctx : Ctx := ⟨tabOf tabl, [], [], [], [], []⟩
noncomputable def spec_l00Own.cfg : Cfg := ⟨spec_l00Own.ctx, [], [], fun _ => ([], []), fun _ => []⟩
noncomputable def spec_l00Own.code : Code := (Go.Proofs.Tryz.f60).body.getD .skip
noncomputable def spec_l00Own.fin := finK spec_l00Own.ctx spec_l00Own.sig [.tmp 2]
noncomputable def spec_l00Own.F (d : List Int × Unit) : Option ((List Int × Unit) × (Unit)) := anyK (runFn spec_l00Own.cfg spec_l00Own.fin spec_l00Own.code (initSt spec_l00Own.sig.ps d 6))
noncomputable def spec_l00Own.T (list_1 : List Int) : Option ((List Int × Unit) × (Unit)) :=
  if ([] : List Int).length + list_1.length ≤ bigA then
    some ((([] : List Int) ++ list_1, ()), ())
  else
    none
theorem spec_l00Own.run (k : Nat) (list_1 : List Int) : runFn spec_l00Own.cfg spec_l00Own.fin spec_l00Own.code (initSt spec_l00Own.sig.ps (list_1, ()) 6) k = spec_l00Own.T list_1 := by kernel_rfl
theorem spec_l00Own.eq (list_1 : List Int) : spec_l00Own.F (list_1, ()) = spec_l00Own.T list_1 := (congrArg anyK (funext fun k => spec_l00Own.run k list_1)).trans (anyK_const _)
theorem spec_l00Own.ok : CtxOK Go.Proofs.Tryz.prog spec_l00Own.ctx := ⟨List.forall_mem_nil _, mixed_ok, tab_ok tab_good, List.forall_mem_nil _, List.forall_mem_nil _, List.forall_mem_nil _⟩
theorem spec_l00Own.S : Sound Go.Proofs.Tryz.prog ⟨60, spec_l00Own.sig, spec_l00Own.F⟩ := sound_any (fn := Go.Proofs.Tryz.f60) (code := spec_l00Own.code) (g := spec_l00Own.cfg) (res := [.tmp 2]) Go.Proofs.Tryz.func60 (by kernel_rfl) (by kernel_rfl) spec_l00Own.ok (by kernel_rfl) (by kernel_rfl) (Nat.le_of_ble_eq_true (by kernel_rfl)) (by kernel_rfl)
/-! ### spec_l05Drop -/
noncomputable def spec_l05Drop.sig : Sig := ⟨[.val false (.sl (.int .i64)), .val false (.int .i64)], [(.val false, (.sl (.int .i64)), .deep)]⟩
noncomputable def spec_l05Drop.ctx : Ctx := ⟨tabOf tabl, [⟨60, spec_l00Own.sig, spec_l00Own.F⟩], [], [], [], []⟩
noncomputable def spec_l05Drop.cfg : Cfg := ⟨spec_l05Drop.ctx, [], [], fun _ => ([], []), fun _ => []⟩
noncomputable def spec_l05Drop.code : Code := (Go.Proofs.Tryz.f90).body.getD .skip
noncomputable def spec_l05Drop.fin := finK spec_l05Drop.ctx spec_l05Drop.sig [.tmp 4]
noncomputable def spec_l05Drop.F (d : List Int × Int × Unit) : Option ((List Int × Unit) × (Unit)) := anyK (runFn spec_l05Drop.cfg spec_l05Drop.fin spec_l05Drop.code (initSt spec_l05Drop.sig.ps d 16))
noncomputable def spec_l05Drop.T (s_1 : List Int) (k_2 : Int) : Option ((List Int × Unit) × (Unit)) :=
  if 0 ≤ (0 : Int) ∧ (0 : Int) ≤ k_2 ∧ k_2 ≤ (s_1.length : Int) then
    (spec_l00Own.F (cutL s_1 (0 : Int) k_2, ())).bind fun r3 =>
      if 0 ≤ (IntKind.i64.wrap (k_2 + (1 : Int))) ∧ (IntKind.i64.wrap (k_2 + (1 : Int))) ≤ (s_1.length : Int) ∧ (s_1.length : Int) ≤ (s_1.length : Int) then
        if r3.1.1.length + (cutL s_1 (IntKind.i64.wrap (k_2 + (1 : Int))) (s_1.length : Int)).length ≤ bigA then
          some ((r3.1.1 ++ (cutL s_1 (IntKind.i64.wrap (k_2 + (1 : Int))) (s_1.length : Int)), ()), ())
        else
          none
      else
        none
  else
    none
theorem spec_l05Drop.run (k : Nat) (s_1 : List Int) (k_2 : Int) : runFn spec_l05Drop.cfg spec_l05Drop.fin spec_l05Drop.code (initSt spec_l05Drop.sig.ps (s_1, k_2, ()) 16) k = spec_l05Drop.T s_1 k_2 := by kernel_rfl
theorem spec_l05Drop.eq (s_1 : List Int) (k_2 : Int) : spec_l05Drop.F (s_1, k_2, ()) = spec_l05Drop.T s_1 k_2 := (congrArg anyK (funext fun k => spec_l05Drop.run k s_1 k_2)).trans (anyK_const _)
theorem spec_l05Drop.ok : CtxOK Go.Proofs.Tryz.prog spec_l05Drop.ctx := ⟨List.forall_mem_nil _, mixed_ok, tab_ok tab_good, List.forall_mem_cons.2 ⟨spec_l00Own.S, List.forall_mem_nil _⟩, List.forall_mem_nil _, List.forall_mem_nil _⟩
theorem spec_l05Drop.S : Sound Go.Proofs.Tryz.prog ⟨90, spec_l05Drop.sig, spec_l05Drop.F⟩ := sound_any (fn := Go.Proofs.Tryz.f90) (code := spec_l05Drop.code) (g := spec_l05Drop.cfg) (res := [.tmp 4]) Go.Proofs.Tryz.func90 (by kernel_rfl) (by kernel_rfl) spec_l05Drop.ok (by kernel_rfl) (by kernel_rfl) (Nat.le_of_ble_eq_true (by kernel_rfl)) (by kernel_rfl)
/-! ### spec_l05Ok -/
noncomputable def spec_l05Ok.sig : Sig := ⟨[.rptr (.sl (.sl (.int .i64)))], [(.val false, .bool, .deep)]⟩
noncomputable def spec_l05Ok.ctx : Ctx := ⟨tabOf tabl, [⟨87, spec_l05Simplex.sig, spec_l05Simplex.F⟩, ⟨88, spec_l05Before.sig, spec_l05Before.F⟩, ⟨89, spec_l05Find.sig, spec_l05Find.F⟩, ⟨90, spec_l05Drop.sig, spec_l05Drop.F⟩], [], [], [], []⟩
noncomputable def spec_l05Ok.cfg : Cfg := ⟨spec_l05Ok.ctx, [], [], fun id => match id with | 4 => ([0, 3], []) | 10 => ([0, 3, 4, 5], []) | _ => ([], []), fun _ => []⟩
noncomputable def spec_l05Ok.code : Code := (Go.Proofs.Tryz.f53).body.getD .skip
noncomputable def spec_l05Ok.fin := finK spec_l05Ok.ctx spec_l05Ok.sig [.tmp 2]
noncomputable def spec_l05Ok.F (d : List (List Int) × Unit) : Option ((Bool × Unit) × (Unit)) := anyK (runFn spec_l05Ok.cfg spec_l05Ok.fin spec_l05Ok.code (initSt spec_l05Ok.sig.ps d 65))
noncomputable def spec_l05Ok.l4 (k : Nat) (x2 : List (List Int)) (i3 : Int) : Option ((Bool × Unit) × (Unit)) :=
  Go.Vm.runT spec_l05Ok.cfg spec_l05Ok.fin k [.inLoop (sub [1, 1, 0, 1, 0, 0] spec_l05Ok.code), .inBlock 0, .code (sub [1, 1, 1] spec_l05Ok.code)]
    ⟨[.rptr false [⟨(.sl (.sl (.int .i64))), .sh, x2⟩], .dead, .dead, .val false [⟨(.int .i64), .sh, i3⟩]] ++ deads 61, []⟩
noncomputable def spec_l05Ok.l10 (k : Nat) (x6 : List (List Int)) (i7 : Int) (x8 : List Int) (i9 : Int) : Option ((Bool × Unit) × (Unit)) :=
  Go.Vm.runT spec_l05Ok.cfg spec_l05Ok.fin k [.inLoop (sub [1, 1, 0, 1, 0, 0, 1, 0, 0, 1, 1, 1, 0, 0] spec_l05Ok.code), .inBlock 2, .inBlock 1, .code (sub [1, 1, 0, 1, 0, 0, 1, 1] spec_l05Ok.code), .inLoop (sub [1, 1, 0, 1, 0, 0] spec_l05Ok.code), .inBlock 0, .code (sub [1, 1, 1] spec_l05Ok.code)]
    ⟨[.rptr false [⟨(.sl (.sl (.int .i64))), .sh, x6⟩], .dead, .dead, .val false [⟨(.int .i64), .sh, i7⟩], .val false [⟨(.sl (.int .i64)), .sh, x8⟩], .val false [⟨(.int .i64), .sh, i9⟩]] ++ deads 59, []⟩
theorem spec_l05Ok.l4_eq (k : Nat) (x2 : List (List Int)) (i3 : Int) : spec_l05Ok.l4 (k + 1) x2 i3 =
  if (decide (i3 < (x2.length : Int))) = true then
    if 0 ≤ i3 ∧ i3 < (x2.length : Int) then
      (spec_l05Simplex.F (x2.getD i3.toNat ([] : List Int), ())).bind fun r4 =>
        if (!(r4.1.1 : Bool)) = true then
          some ((false, ()), ())
        else
          if (decide (i3 > (0 : Int))) = true then
            if 0 ≤ (IntKind.i64.wrap (i3 - (1 : Int))) ∧ (IntKind.i64.wrap (i3 - (1 : Int))) < (x2.length : Int) then
              (spec_l05Before.F (x2.getD (IntKind.i64.wrap (i3 - (1 : Int))).toNat ([] : List Int), x2.getD i3.toNat ([] : List Int), ())).bind fun r5 =>
                if (!(r5.1.1 : Bool)) = true then
                  some ((false, ()), ())
                else
                  spec_l05Ok.l10 k x2 i3 (x2.getD i3.toNat ([] : List Int)) (0 : Int)
            else
              none
          else
            spec_l05Ok.l10 k x2 i3 (x2.getD i3.toNat ([] : List Int)) (0 : Int)
    else
      none
  else
    some ((true, ()), ()) := by kernel_rfl
theorem spec_l05Ok.l10_eq (k : Nat) (x6 : List (List Int)) (i7 : Int) (x8 : List Int) (i9 : Int) : spec_l05Ok.l10 (k + 1) x6 i7 x8 i9 =
  if (decide (i9 < (x8.length : Int))) = true then
    if (decide ((x8.length : Int) > (1 : Int))) = true then
      (spec_l05Drop.F (x8, i9, ())).bind fun r10 =>
        (spec_l05Find.F (x6, r10.1.1, ())).bind fun r11 =>
          if (decide ((r11.1.1 : Int) < (0 : Int))) = true then
            some ((false, ()), ())
          else
            spec_l05Ok.l10 k x6 i7 x8 (IntKind.i64.wrap (i9 + (1 : Int)))
    else
      spec_l05Ok.l4 k x6 (IntKind.i64.wrap (i7 + (1 : Int)))
  else
    spec_l05Ok.l4 k x6 (IntKind.i64.wrap (i7 + (1 : Int))) := by kernel_rfl
noncomputable def spec_l05Ok.T (k : Nat) (toArray_1 : List (List Int)) : Option ((Bool × Unit) × (Unit)) :=
  if (decide ((toArray_1.length : Int) > (48 : Int))) = true then
    some ((false, ()), ())
  else
    spec_l05Ok.l4 k toArray_1 (0 : Int)
theorem spec_l05Ok.run (k : Nat) (toArray_1 : List (List Int)) : runFn spec_l05Ok.cfg spec_l05Ok.fin spec_l05Ok.code (initSt spec_l05Ok.sig.ps (toArray_1, ()) 65) k = spec_l05Ok.T k toArray_1 := by kernel_rfl
theorem spec_l05Ok.of (toArray_1 : List (List Int)) {r : (Bool × Unit) × (Unit)} (h : Ev (fun k => spec_l05Ok.T k toArray_1) r) : spec_l05Ok.F (toArray_1, ()) = some r := Ev.run (fun k => spec_l05Ok.run k toArray_1) h
theorem spec_l05Ok.ok : CtxOK Go.Proofs.Tryz.prog spec_l05Ok.ctx := ⟨List.forall_mem_nil _, mixed_ok, tab_ok tab_good, List.forall_mem_cons.2 ⟨spec_l05Simplex.S, List.forall_mem_cons.2 ⟨spec_l05Before.S, List.forall_mem_cons.2 ⟨spec_l05Find.S, List.forall_mem_cons.2 ⟨spec_l05Drop.S, List.forall_mem_nil _⟩⟩⟩⟩, List.forall_mem_nil _, List.forall_mem_nil _⟩
theorem spec_l05Ok.S : Sound Go.Proofs.Tryz.prog ⟨53, spec_l05Ok.sig, spec_l05Ok.F⟩ := sound_any (fn := Go.Proofs.Tryz.f53) (code := spec_l05Ok.code) (g := spec_l05Ok.cfg) (res := [.tmp 2]) Go.Proofs.Tryz.func53 (by kernel_rfl) (by kernel_rfl) spec_l05Ok.ok (by kernel_rfl) (by kernel_rfl) (Nat.le_of_ble_eq_true (by kernel_rfl)) (by kernel_rfl)
/-! ### spec_l02Prime -/
noncomputable def spec_l02Prime.sig : Sig := ⟨[.val false (.int .i64)], [(.val false, .bool, .deep)]⟩
noncomputable def spec_l02Prime.ctx : Ctx := ⟨tabOf tabl, [⟨82, spec_l00In.sig, spec_l00In.F⟩], [], [], [], []⟩
noncomputable def spec_l02Prime.cfg : Cfg := ⟨spec_l02Prime.ctx, [], [], fun id => match id with | 4 => ([0, 3], []) | _ => ([], []), fun _ => []⟩
noncomputable def spec_l02Prime.code : Code := (Go.Proofs.Tryz.f91).body.getD .skip
noncomputable def spec_l02Prime.fin := finK spec_l02Prime.ctx spec_l02Prime.sig [.tmp 2]
noncomputable def spec_l02Prime.F (d : Int × Unit) : Option ((Bool × Unit) × (Unit)) := anyK (runFn spec_l02Prime.cfg spec_l02Prime.fin spec_l02Prime.code (initSt spec_l02Prime.sig.ps d 18))
noncomputable def spec_l02Prime.l4 (k : Nat) (i3 : Int) (i4 : Int) : Option ((Bool × Unit) × (Unit)) :=
  Go.Vm.runT spec_l02Prime.cfg spec_l02Prime.fin k [.inLoop (sub [1, 1, 0, 1, 0, 0] spec_l02Prime.code), .inBlock 0, .code (sub [1, 1, 1] spec_l02Prime.code)]
    ⟨[.val false [⟨(.int .i64), .sh, i3⟩], .dead, .dead, .val false [⟨(.int .i64), .sh, i4⟩]] ++ deads 14, []⟩
theorem spec_l02Prime.l4_eq (k : Nat) (i3 : Int) (i4 : Int) : spec_l02Prime.l4 (k + 1) i3 i4 =
  if (decide ((IntKind.i64.wrap (i4 * i4)) ≤ i3)) = true then
    if i4 = 0 then
      none
    else
      if ((i3.tmod i4) == (0 : Int)) = true then
        some ((false, ()), ())
      else
        spec_l02Prime.l4 k i3 (IntKind.i64.wrap (i4 + (1 : Int)))
  else
    some ((true, ()), ()) := by kernel_rfl
noncomputable def spec_l02Prime.T (k : Nat) (p_1 : Int) : Option ((Bool × Unit) × (Unit)) :=
  (spec_l00In.F (p_1, (2 : Int), (251 : Int), ())).bind fun r2 =>
    if (!(r2.1.1 : Bool)) = true then
      some ((false, ()), ())
    else
      spec_l02Prime.l4 k p_1 (2 : Int)
theorem spec_l02Prime.run (k : Nat) (p_1 : Int) : runFn spec_l02Prime.cfg spec_l02Prime.fin spec_l02Prime.code (initSt spec_l02Prime.sig.ps (p_1, ()) 18) k = spec_l02Prime.T k p_1 := by kernel_rfl
theorem spec_l02Prime.of (p_1 : Int) {r : (Bool × Unit) × (Unit)} (h : Ev (fun k => spec_l02Prime.T k p_1) r) : spec_l02Prime.F (p_1, ()) = some r := Ev.run (fun k => spec_l02Prime.run k p_1) h
theorem spec_l02Prime.ok : CtxOK Go.Proofs.Tryz.prog spec_l02Prime.ctx := ⟨List.forall_mem_nil _, mixed_ok, tab_ok tab_good, List.forall_mem_cons.2 ⟨spec_l00In.S, List.forall_mem_nil _⟩, List.forall_mem_nil _, List.forall_mem_nil _⟩
theorem spec_l02Prime.S : Sound Go.Proofs.Tryz.prog ⟨91, spec_l02Prime.sig, spec_l02Prime.F⟩ := sound_any (fn := Go.Proofs.Tryz.f91) (code := spec_l02Prime.code) (g := spec_l02Prime.cfg) (res := [.tmp 2]) Go.Proofs.Tryz.func91 (by kernel_rfl) (by kernel_rfl) spec_l02Prime.ok (by kernel_rfl) (by kernel_rfl) (Nat.le_of_ble_eq_true (by kernel_rfl)) (by kernel_rfl)
/-! ### spec_ValidPrime -/
noncomputable def spec_ValidPrime.sig : Sig := ⟨[.val false (.int .i64)], [(.val false, .bool, .deep)]⟩
noncomputable def spec_ValidPrime.ctx : Ctx := ⟨tabOf tabl, [⟨91, spec_l02Prime.sig, spec_l02Prime.F⟩], [], [], [], []⟩
noncomputable def spec_ValidPrime.cfg : Cfg := ⟨spec_ValidPrime.ctx, [], [], fun _ => ([], []), fun _ => []⟩
noncomputable def spec_ValidPrime.code : Code := (Go.Proofs.Tryz.f54).body.getD .skip
noncomputable def spec_ValidPrime.fin := finK spec_ValidPrime.ctx spec_ValidPrime.sig [.tmp 2]
noncomputable def spec_ValidPrime.F (d : Int × Unit) : Option ((Bool × Unit) × (Unit)) := anyK (runFn spec_ValidPrime.cfg spec_ValidPrime.fin spec_ValidPrime.code (initSt spec_ValidPrime.sig.ps d 5))
noncomputable def spec_ValidPrime.T (p_1 : Int) : Option ((Bool × Unit) × (Unit)) :=
  (spec_l02Prime.F (p_1, ())).bind fun r2 =>
    some (((r2.1.1 : Bool), ()), ())
theorem spec_ValidPrime.run (k : Nat) (p_1 : Int) : runFn spec_ValidPrime.cfg spec_ValidPrime.fin spec_ValidPrime.code (initSt spec_ValidPrime.sig.ps (p_1, ()) 5) k = spec_ValidPrime.T p_1 := by kernel_rfl
theorem spec_ValidPrime.eq (p_1 : Int) : spec_ValidPrime.F (p_1, ()) = spec_ValidPrime.T p_1 := (congrArg anyK (funext fun k => spec_ValidPrime.run k p_1)).trans (anyK_const _)
theorem spec_ValidPrime.ok : CtxOK Go.Proofs.Tryz.prog spec_ValidPrime.ctx := ⟨List.forall_mem_nil _, mixed_ok, tab_ok tab_good, List.forall_mem_cons.2 ⟨spec_l02Prime.S, List.forall_mem_nil _⟩, List.forall_mem_nil _, List.forall_mem_nil _⟩
theorem spec_ValidPrime.S : Sound Go.Proofs.Tryz.prog ⟨54, spec_ValidPrime.sig, spec_ValidPrime.F⟩ := sound_any (fn := Go.Proofs.Tryz.f54) (code := spec_ValidPrime.code) (g := spec_ValidPrime.cfg) (res := [.tmp 2]) Go.Proofs.Tryz.func54 (by kernel_rfl) (by kernel_rfl) spec_ValidPrime.ok (by kernel_rfl) (by kernel_rfl) (Nat.le_of_ble_eq_true (by kernel_rfl)) (by kernel_rfl)
/-! ### spec_l03Column -/
noncomputable def spec_l03Column.sig : Sig := ⟨[.val false (.sl (.int .i64)), .val false (.int .i64), .val false (.int .i64)], [(.val false, .bool, .deep)]⟩
noncomputable def spec_l03Column.ctx : Ctx := ⟨tabOf tabl, [⟨82, spec_l00In.sig, spec_l00In.F⟩], [], [], [], []⟩
noncomputable def spec_l03Column.cfg : Cfg := ⟨spec_l03Column.ctx, [], [], fun id => match id with | 2 => ([0, 1, 2, 7], []) | _ => ([], []), fun _ => []⟩
noncomputable def spec_l03Column.code : Code := (Go.Proofs.Tryz.f46).body.getD .skip
noncomputable def spec_l03Column.fin := finK spec_l03Column.ctx spec_l03Column.sig [.tmp 6]
noncomputable def spec_l03Column.F (d : List Int × Int × Int × Unit) : Option ((Bool × Unit) × (Unit)) := anyK (runFn spec_l03Column.cfg spec_l03Column.fin spec_l03Column.code (initSt spec_l03Column.sig.ps d 26))
noncomputable def spec_l03Column.l2 (k : Nat) (x4 : List Int) (i5 : Int) (i6 : Int) (i7 : Int) : Option ((Bool × Unit) × (Unit)) :=
  Go.Vm.runT spec_l03Column.cfg spec_l03Column.fin k [.inLoop (sub [1, 0, 1, 0, 0] spec_l03Column.code), .inBlock 0, .code (sub [1, 1] spec_l03Column.code)]
    ⟨[.val false [⟨(.sl (.int .i64)), .sh, x4⟩], .val false [⟨(.int .i64), .sh, i5⟩], .val false [⟨(.int .i64), .sh, i6⟩], .dead, .dead, .dead, .dead, .val false [⟨(.int .i64), .sh, i7⟩]] ++ deads 18, []⟩
theorem spec_l03Column.l2_eq (k : Nat) (x4 : List Int) (i5 : Int) (i6 : Int) (i7 : Int) : spec_l03Column.l2 (k + 1) x4 i5 i6 i7 =
  if (decide (i7 < (x4.length : Int))) = true then
    if 0 ≤ i7 ∧ i7 < (x4.length : Int) then
      (spec_l00In.F ((x4.getD i7.toNat 0 : Int), (0 : Int), IntKind.i64.wrap (i6 - (1 : Int)), ())).bind fun r8 =>
        if (!(r8.1.1 : Bool)) = true then
          some ((false, ()), ())
        else
          spec_l03Column.l2 k x4 i5 i6 (IntKind.i64.wrap (i7 + (1 : Int)))
    else
      none
  else
    some (((x4.length : Int) == i5, ()), ()) := by kernel_rfl
noncomputable def spec_l03Column.T (k : Nat) (v_1 : List Int) (n_2 : Int) (p_3 : Int) : Option ((Bool × Unit) × (Unit)) :=
  spec_l03Column.l2 k v_1 n_2 p_3 (0 : Int)
theorem spec_l03Column.run (k : Nat) (v_1 : List Int) (n_2 : Int) (p_3 : Int) : runFn spec_l03Column.cfg spec_l03Column.fin spec_l03Column.code (initSt spec_l03Column.sig.ps (v_1, n_2, p_3, ()) 26) k = spec_l03Column.T k v_1 n_2 p_3 := by kernel_rfl
theorem spec_l03Column.of (v_1 : List Int) (n_2 : Int) (p_3 : Int) {r : (Bool × Unit) × (Unit)} (h : Ev (fun k => spec_l03Column.T k v_1 n_2 p_3) r) : spec_l03Column.F (v_1, n_2, p_3, ()) = some r := Ev.run (fun k => spec_l03Column.run k v_1 n_2 p_3) h
theorem spec_l03Column.ok : CtxOK Go.Proofs.Tryz.prog spec_l03Column.ctx := ⟨List.forall_mem_nil _, mixed_ok, tab_ok tab_good, List.forall_mem_cons.2 ⟨spec_l00In.S, List.forall_mem_nil _⟩, List.forall_mem_nil _, List.forall_mem_nil _⟩
theorem spec_l03Column.S : Sound Go.Proofs.Tryz.prog ⟨46, spec_l03Column.sig, spec_l03Column.F⟩ := sound_any (fn := Go.Proofs.Tryz.f46) (code := spec_l03Column.code) (g := spec_l03Column.cfg) (res := [.tmp 6]) Go.Proofs.Tryz.func46 (by kernel_rfl) (by kernel_rfl) spec_l03Column.ok (by kernel_rfl) (by kernel_rfl) (Nat.le_of_ble_eq_true (by kernel_rfl)) (by kernel_rfl)
/-! ### spec_l05Of -/
noncomputable def spec_l05Of.sig : Sig := ⟨[.rptr (.sl (.sl (.int .i64))), .val false (.int .i64)], [(.val false, (.sl (.int .i64)), .deep)]⟩
noncomputable def spec_l05Of.ctx : Ctx := ⟨tabOf tabl, [], [], [], [], []⟩
noncomputable def spec_l05Of.cfg : Cfg := ⟨spec_l05Of.ctx, [], [], fun id => match id with | 3 => ([0, 1, 5, 6], [20]) | _ => ([], []), fun _ => []⟩
noncomputable def spec_l05Of.code : Code := (Go.Proofs.Tryz.f110).body.getD .skip
noncomputable def spec_l05Of.fin := finK spec_l05Of.ctx spec_l05Of.sig [.tmp 4]
noncomputable def spec_l05Of.F (d : List (List Int) × Int × Unit) : Option ((List Int × Unit) × (Unit)) := anyK (runFn spec_l05Of.cfg spec_l05Of.fin spec_l05Of.code (initSt spec_l05Of.sig.ps d 33))
noncomputable def spec_l05Of.l3 (k : Nat) (x3 : List (List Int)) (i4 : Int) (i5 : Int) (x6 : List Int) : Option ((List Int × Unit) × (Unit)) :=
  Go.Vm.runT spec_l05Of.cfg spec_l05Of.fin k [.inLoop (sub [1, 1, 0, 1, 0, 0] spec_l05Of.code), .inBlock 0, .code (sub [1, 1, 1] spec_l05Of.code)]
    ⟨[.rptr false [⟨(.sl (.sl (.int .i64))), .sh, x3⟩], .val false [⟨(.int .i64), .sh, i4⟩], .dead, .dead, .dead, .view 20 (.root 0) 1 false, .val false [⟨(.int .i64), .sh, i5⟩]] ++ deads 26, [(20, ⟨false, [⟨(.sl (.int .i64)), .deep, x6⟩]⟩)]⟩
theorem spec_l05Of.l3_eq (k : Nat) (x3 : List (List Int)) (i4 : Int) (i5 : Int) (x6 : List Int) : spec_l05Of.l3 (k + 1) x3 i4 i5 x6 =
  if (decide (i5 < (x3.length : Int))) = true then
    if 0 ≤ i5 ∧ i5 < (x3.length : Int) then
      if (((x3.getD i5.toNat ([] : List Int)).length : Int) == (IntKind.i64.wrap (i4 + (1 : Int)))) = true then
        if x6.length + ([i5] : List Int).length ≤ bigA then
          spec_l05Of.l3 k x3 i4 (IntKind.i64.wrap (i5 + (1 : Int))) (x6 ++ ([i5]))
        else
          none
      else
        spec_l05Of.l3 k x3 i4 (IntKind.i64.wrap (i5 + (1 : Int))) x6
    else
      none
  else
    some ((x6, ()), ()) := by kernel_rfl
noncomputable def spec_l05Of.T (k : Nat) (c_1 : List (List Int)) (dimension_2 : Int) : Option ((List Int × Unit) × (Unit)) :=
  spec_l05Of.l3 k c_1 dimension_2 (0 : Int) ([] : List Int)
theorem spec_l05Of.run (k : Nat) (c_1 : List (List Int)) (dimension_2 : Int) : runFn spec_l05Of.cfg spec_l05Of.fin spec_l05Of.code (initSt spec_l05Of.sig.ps (c_1, dimension_2, ()) 33) k = spec_l05Of.T k c_1 dimension_2 := by kernel_rfl
theorem spec_l05Of.of (c_1 : List (List Int)) (dimension_2 : Int) {r : (List Int × Unit) × (Unit)} (h : Ev (fun k => spec_l05Of.T k c_1 dimension_2) r) : spec_l05Of.F (c_1, dimension_2, ()) = some r := Ev.run (fun k => spec_l05Of.run k c_1 dimension_2) h
theorem spec_l05Of.ok : CtxOK Go.Proofs.Tryz.prog spec_l05Of.ctx := ⟨List.forall_mem_nil _, mixed_ok, tab_ok tab_good, List.forall_mem_nil _, List.forall_mem_nil _, List.forall_mem_nil _⟩
theorem spec_l05Of.S : Sound Go.Proofs.Tryz.prog ⟨110, spec_l05Of.sig, spec_l05Of.F⟩ := sound_any (fn := Go.Proofs.Tryz.f110) (code := spec_l05Of.code) (g := spec_l05Of.cfg) (res := [.tmp 4]) Go.Proofs.Tryz.func110 (by kernel_rfl) (by kernel_rfl) spec_l05Of.ok (by kernel_rfl) (by kernel_rfl) (Nat.le_of_ble_eq_true (by kernel_rfl)) (by kernel_rfl)
/-! ### spec_l09Sum -/
noncomputable def spec_l09Sum.sig : Sig := ⟨[.rptr (.sl (.sl (.int .i64))), .val false (.sl (.int .i64)), .val false (.int .i64)], [(.val false, (.int .i64), .deep)]⟩
noncomputable def spec_l09Sum.ctx : Ctx := ⟨tabOf tabl, [⟨110, spec_l05Of.sig, spec_l05Of.F⟩], [], [], [], []⟩
noncomputable def spec_l09Sum.cfg : Cfg := ⟨spec_l09Sum.ctx, [], [], fun id => match id with | 4 => ([1, 7, 8, 9], [28]) | _ => ([], []), fun _ => []⟩
noncomputable def spec_l09Sum.code : Code := (Go.Proofs.Tryz.f81).body.getD .skip
noncomputable def spec_l09Sum.fin := finK spec_l09Sum.ctx spec_l09Sum.sig [.tmp 6]
noncomputable def spec_l09Sum.F (d : List (List Int) × List Int × Int × Unit) : Option ((Int × Unit) × (Unit)) := anyK (runFn spec_l09Sum.cfg spec_l09Sum.fin spec_l09Sum.code (initSt spec_l09Sum.sig.ps d 29))
noncomputable def spec_l09Sum.l4 (k : Nat) (x5 : List Int) (i6 : Int) (i7 : Int) (x8 : List Int) : Option ((Int × Unit) × (Unit)) :=
  Go.Vm.runT spec_l09Sum.cfg spec_l09Sum.fin k [.inLoop (sub [1, 1, 1, 0, 1, 0, 0] spec_l09Sum.code), .inBlock 0, .code (sub [1, 1, 1, 1] spec_l09Sum.code)]
    ⟨[.dead, .val false [⟨(.sl (.int .i64)), .sh, x5⟩], .dead, .dead, .dead, .dead, .dead, .view 28 (.root 0) 1 false, .val false [⟨(.int .i64), .sh, i6⟩], .val false [⟨(.int .i64), .sh, i7⟩]] ++ deads 19, [(28, ⟨false, [⟨(.sl (.int .i64)), .deep, x8⟩]⟩)]⟩
theorem spec_l09Sum.l4_eq (k : Nat) (x5 : List Int) (i6 : Int) (i7 : Int) (x8 : List Int) : spec_l09Sum.l4 (k + 1) x5 i6 i7 x8 =
  if (decide (i7 < (x8.length : Int))) = true then
    if 0 ≤ i7 ∧ i7 < (x8.length : Int) then
      if 0 ≤ (x8.getD i7.toNat 0 : Int) ∧ (x8.getD i7.toNat 0 : Int) < (x5.length : Int) then
        spec_l09Sum.l4 k x5 (IntKind.i64.wrap (i6 + (x5.getD (x8.getD i7.toNat 0 : Int).toNat 0))) (IntKind.i64.wrap (i7 + (1 : Int))) x8
      else
        none
    else
      none
  else
    some ((i6, ()), ()) := by kernel_rfl
noncomputable def spec_l09Sum.T (k : Nat) (c_1 : List (List Int)) (stalks_2 : List Int) (k_3 : Int) : Option ((Int × Unit) × (Unit)) :=
  (spec_l05Of.F (c_1, k_3, ())).bind fun r4 =>
    spec_l09Sum.l4 k stalks_2 (0 : Int) (0 : Int) r4.1.1
theorem spec_l09Sum.run (k : Nat) (c_1 : List (List Int)) (stalks_2 : List Int) (k_3 : Int) : runFn spec_l09Sum.cfg spec_l09Sum.fin spec_l09Sum.code (initSt spec_l09Sum.sig.ps (c_1, stalks_2, k_3, ()) 29) k = spec_l09Sum.T k c_1 stalks_2 k_3 := by kernel_rfl
theorem spec_l09Sum.of (c_1 : List (List Int)) (stalks_2 : List Int) (k_3 : Int) {r : (Int × Unit) × (Unit)} (h : Ev (fun k => spec_l09Sum.T k c_1 stalks_2 k_3) r) : spec_l09Sum.F (c_1, stalks_2, k_3, ()) = some r := Ev.run (fun k => spec_l09Sum.run k c_1 stalks_2 k_3) h
theorem spec_l09Sum.ok : CtxOK Go.Proofs.Tryz.prog spec_l09Sum.ctx := ⟨List.forall_mem_nil _, mixed_ok, tab_ok tab_good, List.forall_mem_cons.2 ⟨spec_l05Of.S, List.forall_mem_nil _⟩, List.forall_mem_nil _, List.forall_mem_nil _⟩
theorem spec_l09Sum.S : Sound Go.Proofs.Tryz.prog ⟨81, spec_l09Sum.sig, spec_l09Sum.F⟩ := sound_any (fn := Go.Proofs.Tryz.f81) (code := spec_l09Sum.code) (g := spec_l09Sum.cfg) (res := [.tmp 6]) Go.Proofs.Tryz.func81 (by kernel_rfl) (by kernel_rfl) spec_l09Sum.ok (by kernel_rfl) (by kernel_rfl) (Nat.le_of_ble_eq_true (by kernel_rfl)) (by kernel_rfl)
/-! ### spec_l09Stalks -/
noncomputable def spec_l09Stalks.sig : Sig := ⟨[.rptr (.sl (.sl (.int .i64))), .val false (.sl (.int .i64))], [(.val false, .bool, .deep)]⟩
noncomputable def spec_l09Stalks.ctx : Ctx := ⟨tabOf tabl, [⟨46, spec_l03Column.sig, spec_l03Column.F⟩, ⟨81, spec_l09Sum.sig, spec_l09Sum.F⟩], [], [], [], []⟩
noncomputable def spec_l09Stalks.cfg : Cfg := ⟨spec_l09Stalks.ctx, [], [], fun id => match id with | 4 => ([0, 1, 5], []) | _ => ([], []), fun _ => []⟩
noncomputable def spec_l09Stalks.code : Code := (Go.Proofs.Tryz.f55).body.getD .skip
noncomputable def spec_l09Stalks.fin := finK spec_l09Stalks.ctx spec_l09Stalks.sig [.tmp 4]
noncomputable def spec_l09Stalks.F (d : List (List Int) × List Int × Unit) : Option ((Bool × Unit) × (Unit)) := anyK (runFn spec_l09Stalks.cfg spec_l09Stalks.fin spec_l09Stalks.code (initSt spec_l09Stalks.sig.ps d 23))
noncomputable def spec_l09Stalks.l4 (k : Nat) (x4 : List (List Int)) (x5 : List Int) (i6 : Int) : Option ((Bool × Unit) × (Unit)) :=
  Go.Vm.runT spec_l09Stalks.cfg spec_l09Stalks.fin k [.inLoop (sub [1, 1, 0, 1, 0, 0] spec_l09Stalks.code), .inBlock 0, .code (sub [1, 1, 1] spec_l09Stalks.code)]
    ⟨[.rptr false [⟨(.sl (.sl (.int .i64))), .sh, x4⟩], .val false [⟨(.sl (.int .i64)), .sh, x5⟩], .dead, .dead, .dead, .val false [⟨(.int .i64), .sh, i6⟩]] ++ deads 17, []⟩
theorem spec_l09Stalks.l4_eq (k : Nat) (x4 : List (List Int)) (x5 : List Int) (i6 : Int) : spec_l09Stalks.l4 (k + 1) x4 x5 i6 =
  if (decide (i6 ≤ (3 : Int))) = true then
    (spec_l09Sum.F (x4, x5, i6, ())).bind fun r7 =>
      if (decide ((r7.1.1 : Int) > (32 : Int))) = true then
        some ((false, ()), ())
      else
        spec_l09Stalks.l4 k x4 x5 (IntKind.i64.wrap (i6 + (1 : Int)))
  else
    some ((true, ()), ()) := by kernel_rfl
noncomputable def spec_l09Stalks.T (k : Nat) (c_1 : List (List Int)) (stalks_2 : List Int) : Option ((Bool × Unit) × (Unit)) :=
  (spec_l03Column.F (stalks_2, (c_1.length : Int), (4 : Int), ())).bind fun r3 =>
    if (!(r3.1.1 : Bool)) = true then
      some ((false, ()), ())
    else
      spec_l09Stalks.l4 k c_1 stalks_2 (0 : Int)
theorem spec_l09Stalks.run (k : Nat) (c_1 : List (List Int)) (stalks_2 : List Int) : runFn spec_l09Stalks.cfg spec_l09Stalks.fin spec_l09Stalks.code (initSt spec_l09Stalks.sig.ps (c_1, stalks_2, ()) 23) k = spec_l09Stalks.T k c_1 stalks_2 := by kernel_rfl
theorem spec_l09Stalks.of (c_1 : List (List Int)) (stalks_2 : List Int) {r : (Bool × Unit) × (Unit)} (h : Ev (fun k => spec_l09Stalks.T k c_1 stalks_2) r) : spec_l09Stalks.F (c_1, stalks_2, ()) = some r := Ev.run (fun k => spec_l09Stalks.run k c_1 stalks_2) h
theorem spec_l09Stalks.ok : CtxOK Go.Proofs.Tryz.prog spec_l09Stalks.ctx := ⟨List.forall_mem_nil _, mixed_ok, tab_ok tab_good, List.forall_mem_cons.2 ⟨spec_l03Column.S, List.forall_mem_cons.2 ⟨spec_l09Sum.S, List.forall_mem_nil _⟩⟩, List.forall_mem_nil _, List.forall_mem_nil _⟩
theorem spec_l09Stalks.S : Sound Go.Proofs.Tryz.prog ⟨55, spec_l09Stalks.sig, spec_l09Stalks.F⟩ := sound_any (fn := Go.Proofs.Tryz.f55) (code := spec_l09Stalks.code) (g := spec_l09Stalks.cfg) (res := [.tmp 4]) Go.Proofs.Tryz.func55 (by kernel_rfl) (by kernel_rfl) spec_l09Stalks.ok (by kernel_rfl) (by kernel_rfl) (Nat.le_of_ble_eq_true (by kernel_rfl)) (by kernel_rfl)
/-! ### spec_l09Place -/
noncomputable def spec_l09Place.sig : Sig := ⟨[.rptr (.sl (.sl (.int .i64))), .val false (.int .i64), .val false (.int .i64)], [(.val false, (.int .i64), .deep)]⟩
noncomputable def spec_l09Place.ctx : Ctx := ⟨tabOf tabl, [], [], [], [], []⟩
noncomputable def spec_l09Place.cfg : Cfg := ⟨spec_l09Place.ctx, [], [], fun id => match id with | 3 => ([0, 1, 2, 7, 8], []) | _ => ([], []), fun _ => []⟩
noncomputable def spec_l09Place.code : Code := (Go.Proofs.Tryz.f58).body.getD .skip
noncomputable def spec_l09Place.fin := finK spec_l09Place.ctx spec_l09Place.sig [.tmp 6]
noncomputable def spec_l09Place.F (d : List (List Int) × Int × Int × Unit) : Option ((Int × Unit) × (Unit)) := anyK (runFn spec_l09Place.cfg spec_l09Place.fin spec_l09Place.code (initSt spec_l09Place.sig.ps d 36))
noncomputable def spec_l09Place.l3 (k : Nat) (x4 : List (List Int)) (i5 : Int) (i6 : Int) (i7 : Int) (i8 : Int) : Option ((Int × Unit) × (Unit)) :=
  Go.Vm.runT spec_l09Place.cfg spec_l09Place.fin k [.inLoop (sub [1, 1, 0, 1, 0, 0] spec_l09Place.code), .inBlock 0, .code (sub [1, 1, 1] spec_l09Place.code)]
    ⟨[.rptr false [⟨(.sl (.sl (.int .i64))), .sh, x4⟩], .val false [⟨(.int .i64), .sh, i5⟩], .val false [⟨(.int .i64), .sh, i6⟩], .dead, .dead, .dead, .dead, .val false [⟨(.int .i64), .sh, i7⟩], .val false [⟨(.int .i64), .sh, i8⟩]] ++ deads 27, []⟩
theorem spec_l09Place.l3_eq (k : Nat) (x4 : List (List Int)) (i5 : Int) (i6 : Int) (i7 : Int) (i8 : Int) : spec_l09Place.l3 (k + 1) x4 i5 i6 i7 i8 =
  if (decide (i8 < i5)) = true then
    if 0 ≤ i8 ∧ i8 < (x4.length : Int) then
      if (decide (((x4.getD i8.toNat ([] : List Int)).length : Int) > (1 : Int))) = true then
        if 0 ≤ i8 ∧ i8 < (x4.length : Int) then
          spec_l09Place.l3 k x4 i5 i6 (IntKind.i64.wrap (i7 + ((x4.getD i8.toNat ([] : List Int)).length : Int))) (IntKind.i64.wrap (i8 + (1 : Int)))
        else
          none
      else
        spec_l09Place.l3 k x4 i5 i6 i7 (IntKind.i64.wrap (i8 + (1 : Int)))
    else
      none
  else
    some ((IntKind.i64.wrap (i7 + i6), ()), ()) := by kernel_rfl
noncomputable def spec_l09Place.T (k : Nat) (c_1 : List (List Int)) (simplex_2 : Int) (i_3 : Int) : Option ((Int × Unit) × (Unit)) :=
  spec_l09Place.l3 k c_1 simplex_2 i_3 (0 : Int) (0 : Int)
theorem spec_l09Place.run (k : Nat) (c_1 : List (List Int)) (simplex_2 : Int) (i_3 : Int) : runFn spec_l09Place.cfg spec_l09Place.fin spec_l09Place.code (initSt spec_l09Place.sig.ps (c_1, simplex_2, i_3, ()) 36) k = spec_l09Place.T k c_1 simplex_2 i_3 := by kernel_rfl
theorem spec_l09Place.of (c_1 : List (List Int)) (simplex_2 : Int) (i_3 : Int) {r : (Int × Unit) × (Unit)} (h : Ev (fun k => spec_l09Place.T k c_1 simplex_2 i_3) r) : spec_l09Place.F (c_1, simplex_2, i_3, ()) = some r := Ev.run (fun k => spec_l09Place.run k c_1 simplex_2 i_3) h
theorem spec_l09Place.ok : CtxOK Go.Proofs.Tryz.prog spec_l09Place.ctx := ⟨List.forall_mem_nil _, mixed_ok, tab_ok tab_good, List.forall_mem_nil _, List.forall_mem_nil _, List.forall_mem_nil _⟩
theorem spec_l09Place.S : Sound Go.Proofs.Tryz.prog ⟨58, spec_l09Place.sig, spec_l09Place.F⟩ := sound_any (fn := Go.Proofs.Tryz.f58) (code := spec_l09Place.code) (g := spec_l09Place.cfg) (res := [.tmp 6]) Go.Proofs.Tryz.func58 (by kernel_rfl) (by kernel_rfl) spec_l09Place.ok (by kernel_rfl) (by kernel_rfl) (Nat.le_of_ble_eq_true (by kernel_rfl)) (by kernel_rfl)
/-! ### spec_l09Count -/
noncomputable def spec_l09Count.sig : Sig := ⟨[.rptr (.sl (.sl (.int .i64)))], [(.val false, (.int .i64), .deep)]⟩
noncomputable def spec_l09Count.ctx : Ctx := ⟨tabOf tabl, [⟨58, spec_l09Place.sig, spec_l09Place.F⟩], [], [], [], []⟩
noncomputable def spec_l09Count.cfg : Cfg := ⟨spec_l09Count.ctx, [], [], fun _ => ([], []), fun _ => []⟩
noncomputable def spec_l09Count.code : Code := (Go.Proofs.Tryz.f56).body.getD .skip
noncomputable def spec_l09Count.fin := finK spec_l09Count.ctx spec_l09Count.sig [.tmp 2]
noncomputable def spec_l09Count.F (d : List (List Int) × Unit) : Option ((Int × Unit) × (Unit)) := anyK (runFn spec_l09Count.cfg spec_l09Count.fin spec_l09Count.code (initSt spec_l09Count.sig.ps d 10))
noncomputable def spec_l09Count.T (c_1 : List (List Int)) : Option ((Int × Unit) × (Unit)) :=
  (spec_l09Place.F (c_1, (c_1.length : Int), (0 : Int), ())).bind fun r2 =>
    some (((r2.1.1 : Int), ()), ())
theorem spec_l09Count.run (k : Nat) (c_1 : List (List Int)) : runFn spec_l09Count.cfg spec_l09Count.fin spec_l09Count.code (initSt spec_l09Count.sig.ps (c_1, ()) 10) k = spec_l09Count.T c_1 := by kernel_rfl
theorem spec_l09Count.eq (c_1 : List (List Int)) : spec_l09Count.F (c_1, ()) = spec_l09Count.T c_1 := (congrArg anyK (funext fun k => spec_l09Count.run k c_1)).trans (anyK_const _)
theorem spec_l09Count.ok : CtxOK Go.Proofs.Tryz.prog spec_l09Count.ctx := ⟨List.forall_mem_nil _, mixed_ok, tab_ok tab_good, List.forall_mem_cons.2 ⟨spec_l09Place.S, List.forall_mem_nil _⟩, List.forall_mem_nil _, List.forall_mem_nil _⟩
theorem spec_l09Count.S : Sound Go.Proofs.Tryz.prog ⟨56, spec_l09Count.sig, spec_l09Count.F⟩ := sound_any (fn := Go.Proofs.Tryz.f56) (code := spec_l09Count.code) (g := spec_l09Count.cfg) (res := [.tmp 2]) Go.Proofs.Tryz.func56 (by kernel_rfl) (by kernel_rfl) spec_l09Count.ok (by kernel_rfl) (by kernel_rfl) (Nat.le_of_ble_eq_true (by kernel_rfl)) (by kernel_rfl)
/-! ### spec_l03Ok -/
noncomputable def spec_l03Ok.sig : Sig := ⟨[.rptr TMatrix], [(.val false, .bool, .deep)]⟩
noncomputable def spec_l03Ok.ctx : Ctx := ⟨tabOf tabl, [⟨46, spec_l03Column.sig, spec_l03Column.F⟩, ⟨54, spec_ValidPrime.sig, spec_ValidPrime.F⟩, ⟨82, spec_l00In.sig, spec_l00In.F⟩], [], [], [], []⟩
noncomputable def spec_l03Ok.cfg : Cfg := ⟨spec_l03Ok.ctx, [], [], fun _ => ([], []), fun _ => []⟩
noncomputable def spec_l03Ok.code : Code := (Go.Proofs.Tryz.f73).body.getD .skip
noncomputable def spec_l03Ok.fin := finK spec_l03Ok.ctx spec_l03Ok.sig [.tmp 2]
noncomputable def spec_l03Ok.F (d : (Int × Int × Int × List Int) × Unit) : Option ((Bool × Unit) × (Unit)) := anyK (runFn spec_l03Ok.cfg spec_l03Ok.fin spec_l03Ok.code (initSt spec_l03Ok.sig.ps d 42))
noncomputable def spec_l03Ok.T (m_1 : Int) (m_2 : Int) (m_3 : Int) (m_4 : List Int) : Option ((Bool × Unit) × (Unit)) :=
  (spec_ValidPrime.F (m_1, ())).bind fun r5 =>
    if (r5.1.1 : Bool) = true then
      (spec_l00In.F (m_2, (0 : Int), (32 : Int), ())).bind fun r6 =>
        if (r6.1.1 : Bool) = true then
          (spec_l00In.F (m_3, (0 : Int), (32 : Int), ())).bind fun r7 =>
            if (r7.1.1 : Bool) = true then
              (spec_l03Column.F (m_4, IntKind.i64.wrap (m_2 * m_3), m_1, ())).bind fun r8 =>
                some (((r8.1.1 : Bool), ()), ())
            else
              some ((false, ()), ())
        else
          some ((false, ()), ())
    else
      some ((false, ()), ())
theorem spec_l03Ok.run (k : Nat) (m_1 : Int) (m_2 : Int) (m_3 : Int) (m_4 : List Int) : runFn spec_l03Ok.cfg spec_l03Ok.fin spec_l03Ok.code (initSt spec_l03Ok.sig.ps ((m_1, (m_2, (m_3, m_4))), ()) 42) k = spec_l03Ok.T m_1 m_2 m_3 m_4 := by kernel_rfl
theorem spec_l03Ok.eq (m_1 : Int) (m_2 : Int) (m_3 : Int) (m_4 : List Int) : spec_l03Ok.F ((m_1, (m_2, (m_3, m_4))), ()) = spec_l03Ok.T m_1 m_2 m_3 m_4 := (congrArg anyK (funext fun k => spec_l03Ok.run k m_1 m_2 m_3 m_4)).trans (anyK_const _)
theorem spec_l03Ok.ok : CtxOK Go.Proofs.Tryz.prog spec_l03Ok.ctx := ⟨List.forall_mem_nil _, mixed_ok, tab_ok tab_good, List.forall_mem_cons.2 ⟨spec_l03Column.S, List.forall_mem_cons.2 ⟨spec_ValidPrime.S, List.forall_mem_cons.2 ⟨spec_l00In.S, List.forall_mem_nil _⟩⟩⟩, List.forall_mem_nil _, List.forall_mem_nil _⟩
theorem spec_l03Ok.S : Sound Go.Proofs.Tryz.prog ⟨73, spec_l03Ok.sig, spec_l03Ok.F⟩ := sound_any (fn := Go.Proofs.Tryz.f73) (code := spec_l03Ok.code) (g := spec_l03Ok.cfg) (res := [.tmp 2]) Go.Proofs.Tryz.func73 (by kernel_rfl) (by kernel_rfl) spec_l03Ok.ok (by kernel_rfl) (by kernel_rfl) (Nat.le_of_ble_eq_true (by kernel_rfl)) (by kernel_rfl)
/-! ### spec_l05Faces -/
noncomputable def spec_l05Faces.sig : Sig := ⟨[.rptr (.sl (.sl (.int .i64))), .val false (.int .i64)], [(.val false, (.sl (.int .i64)), .deep)]⟩
noncomputable def spec_l05Faces.ctx : Ctx := ⟨tabOf tabl, [⟨89, spec_l05Find.sig, spec_l05Find.F⟩, ⟨90, spec_l05Drop.sig, spec_l05Drop.F⟩], [], [], [], []⟩
noncomputable def spec_l05Faces.cfg : Cfg := ⟨spec_l05Faces.ctx, [], [], fun id => match id with | 4 => ([0, 5, 6, 7], [24]) | _ => ([], []), fun _ => []⟩
noncomputable def spec_l05Faces.code : Code := (Go.Proofs.Tryz.f92).body.getD .skip
noncomputable def spec_l05Faces.fin := finK spec_l05Faces.ctx spec_l05Faces.sig [.tmp 4]
noncomputable def spec_l05Faces.F (d : List (List Int) × Int × Unit) : Option ((List Int × Unit) × (Unit)) := anyK (runFn spec_l05Faces.cfg spec_l05Faces.fin spec_l05Faces.code (initSt spec_l05Faces.sig.ps d 36))
noncomputable def spec_l05Faces.l4 (k : Nat) (x3 : List (List Int)) (x4 : List Int) (i5 : Int) (x6 : List Int) : Option ((List Int × Unit) × (Unit)) :=
  Go.Vm.runT spec_l05Faces.cfg spec_l05Faces.fin k [.inLoop (sub [1, 1, 1, 0, 1, 0, 0] spec_l05Faces.code), .inBlock 0, .code (sub [1, 1, 1, 1] spec_l05Faces.code)]
    ⟨[.rptr false [⟨(.sl (.sl (.int .i64))), .sh, x3⟩], .dead, .dead, .dead, .dead, .val false [⟨(.sl (.int .i64)), .sh, x4⟩], .view 24 (.root 0) 1 false, .val false [⟨(.int .i64), .sh, i5⟩]] ++ deads 28, [(24, ⟨false, [⟨(.sl (.int .i64)), .deep, x6⟩]⟩)]⟩
theorem spec_l05Faces.l4_eq (k : Nat) (x3 : List (List Int)) (x4 : List Int) (i5 : Int) (x6 : List Int) : spec_l05Faces.l4 (k + 1) x3 x4 i5 x6 =
  if (decide (i5 < (x4.length : Int))) = true then
    if (decide ((x4.length : Int) > (1 : Int))) = true then
      (spec_l05Drop.F (x4, i5, ())).bind fun r7 =>
        (spec_l05Find.F (x3, r7.1.1, ())).bind fun r8 =>
          if x6.length + ([(r8.1.1 : Int)] : List Int).length ≤ bigA then
            spec_l05Faces.l4 k x3 x4 (IntKind.i64.wrap (i5 + (1 : Int))) (x6 ++ ([(r8.1.1 : Int)]))
          else
            none
    else
      some ((x6, ()), ())
  else
    some ((x6, ()), ()) := by kernel_rfl
noncomputable def spec_l05Faces.T (k : Nat) (c_1 : List (List Int)) (k_2 : Int) : Option ((List Int × Unit) × (Unit)) :=
  if 0 ≤ k_2 ∧ k_2 < (c_1.length : Int) then
    spec_l05Faces.l4 k c_1 (c_1.getD k_2.toNat ([] : List Int)) (0 : Int) ([] : List Int)
  else
    none
theorem spec_l05Faces.run (k : Nat) (c_1 : List (List Int)) (k_2 : Int) : runFn spec_l05Faces.cfg spec_l05Faces.fin spec_l05Faces.code (initSt spec_l05Faces.sig.ps (c_1, k_2, ()) 36) k = spec_l05Faces.T k c_1 k_2 := by kernel_rfl
theorem spec_l05Faces.of (c_1 : List (List Int)) (k_2 : Int) {r : (List Int × Unit) × (Unit)} (h : Ev (fun k => spec_l05Faces.T k c_1 k_2) r) : spec_l05Faces.F (c_1, k_2, ()) = some r := Ev.run (fun k => spec_l05Faces.run k c_1 k_2) h
theorem spec_l05Faces.ok : CtxOK Go.Proofs.Tryz.prog spec_l05Faces.ctx := ⟨List.forall_mem_nil _, mixed_ok, tab_ok tab_good, List.forall_mem_cons.2 ⟨spec_l05Find.S, List.forall_mem_cons.2 ⟨spec_l05Drop.S, List.forall_mem_nil _⟩⟩, List.forall_mem_nil _, List.forall_mem_nil _⟩
theorem spec_l05Faces.S : Sound Go.Proofs.Tryz.prog ⟨92, spec_l05Faces.sig, spec_l05Faces.F⟩ := sound_any (fn := Go.Proofs.Tryz.f92) (code := spec_l05Faces.code) (g := spec_l05Faces.cfg) (res := [.tmp 4]) Go.Proofs.Tryz.func92 (by kernel_rfl) (by kernel_rfl) spec_l05Faces.ok (by kernel_rfl) (by kernel_rfl) (Nat.le_of_ble_eq_true (by kernel_rfl)) (by kernel_rfl)
/-! ### spec_l09Map -/
noncomputable def spec_l09Map.sig : Sig := ⟨[.rptr TSheaf, .val false (.int .i64), .val false (.int .i64), .rptr TMatrix], [(.val false, .bool, .deep)]⟩
noncomputable def spec_l09Map.ctx : Ctx := ⟨tabOf tabl, [⟨73, spec_l03Ok.sig, spec_l03Ok.F⟩, ⟨92, spec_l05Faces.sig, spec_l05Faces.F⟩], [], [], [], []⟩
noncomputable def spec_l09Map.cfg : Cfg := ⟨spec_l09Map.ctx, [], [], fun _ => ([], []), fun _ => []⟩
noncomputable def spec_l09Map.code : Code := (Go.Proofs.Tryz.f57).body.getD .skip
noncomputable def spec_l09Map.fin := finK spec_l09Map.ctx spec_l09Map.sig [.tmp 8]
noncomputable def spec_l09Map.F (d : (List (List Int) × Int × List Int × List (Int × Int × Int × List Int)) × Int × Int × (Int × Int × Int × List Int) × Unit) : Option ((Bool × Unit) × (Unit)) := anyK (runFn spec_l09Map.cfg spec_l09Map.fin spec_l09Map.code (initSt spec_l09Map.sig.ps d 59))
noncomputable def spec_l09Map.T (s_1 : List (List Int)) (s_2 : Int) (s_3 : List Int) (s_4 : List (Int × Int × Int × List Int)) (simplex_5 : Int) (i_6 : Int) (m_7 : Int) (m_8 : Int) (m_9 : Int) (m_10 : List Int) : Option ((Bool × Unit) × (Unit)) :=
  (spec_l05Faces.F (s_1, simplex_5, ())).bind fun r11 =>
    if 0 ≤ i_6 ∧ i_6 < (r11.1.1.length : Int) then
      (spec_l03Ok.F ((m_7, (m_8, (m_9, m_10))), ())).bind fun r12 =>
        if (r12.1.1 : Bool) = true then
          if (m_7 == s_2) = true then
            if 0 ≤ simplex_5 ∧ simplex_5 < (s_3.length : Int) then
              if (m_8 == (s_3.getD simplex_5.toNat 0 : Int)) = true then
                if 0 ≤ (r11.1.1.getD i_6.toNat 0 : Int) ∧ (r11.1.1.getD i_6.toNat 0 : Int) < (s_3.length : Int) then
                  some ((m_9 == (s_3.getD (r11.1.1.getD i_6.toNat 0 : Int).toNat 0), ()), ())
                else
                  none
              else
                some ((false, ()), ())
            else
              none
          else
            some ((false, ()), ())
        else
          some ((false, ()), ())
    else
      none
theorem spec_l09Map.run (k : Nat) (s_1 : List (List Int)) (s_2 : Int) (s_3 : List Int) (s_4 : List (Int × Int × Int × List Int)) (simplex_5 : Int) (i_6 : Int) (m_7 : Int) (m_8 : Int) (m_9 : Int) (m_10 : List Int) : runFn spec_l09Map.cfg spec_l09Map.fin spec_l09Map.code (initSt spec_l09Map.sig.ps ((s_1, (s_2, (s_3, s_4))), simplex_5, i_6, (m_7, (m_8, (m_9, m_10))), ()) 59) k = spec_l09Map.T s_1 s_2 s_3 s_4 simplex_5 i_6 m_7 m_8 m_9 m_10 := by kernel_rfl
theorem spec_l09Map.eq (s_1 : List (List Int)) (s_2 : Int) (s_3 : List Int) (s_4 : List (Int × Int × Int × List Int)) (simplex_5 : Int) (i_6 : Int) (m_7 : Int) (m_8 : Int) (m_9 : Int) (m_10 : List Int) : spec_l09Map.F ((s_1, (s_2, (s_3, s_4))), simplex_5, i_6, (m_7, (m_8, (m_9, m_10))), ()) = spec_l09Map.T s_1 s_2 s_3 s_4 simplex_5 i_6 m_7 m_8 m_9 m_10 := (congrArg anyK (funext fun k => spec_l09Map.run k s_1 s_2 s_3 s_4 simplex_5 i_6 m_7 m_8 m_9 m_10)).trans (anyK_const _)
theorem spec_l09Map.ok : CtxOK Go.Proofs.Tryz.prog spec_l09Map.ctx := ⟨List.forall_mem_nil _, mixed_ok, tab_ok tab_good, List.forall_mem_cons.2 ⟨spec_l03Ok.S, List.forall_mem_cons.2 ⟨spec_l05Faces.S, List.forall_mem_nil _⟩⟩, List.forall_mem_nil _, List.forall_mem_nil _⟩
theorem spec_l09Map.S : Sound Go.Proofs.Tryz.prog ⟨57, spec_l09Map.sig, spec_l09Map.F⟩ := sound_any (fn := Go.Proofs.Tryz.f57) (code := spec_l09Map.code) (g := spec_l09Map.cfg) (res := [.tmp 8]) Go.Proofs.Tryz.func57 (by kernel_rfl) (by kernel_rfl) spec_l09Map.ok (by kernel_rfl) (by kernel_rfl) (Nat.le_of_ble_eq_true (by kernel_rfl)) (by kernel_rfl)
/-! ### spec_l09Ok -/
noncomputable def spec_l09Ok.sig : Sig := ⟨[.rptr TSheaf], [(.val false, .bool, .deep)]⟩
noncomputable def spec_l09Ok.ctx : Ctx := ⟨tabOf tabl, [⟨53, spec_l05Ok.sig, spec_l05Ok.F⟩, ⟨54, spec_ValidPrime.sig, spec_ValidPrime.F⟩, ⟨55, spec_l09Stalks.sig, spec_l09Stalks.F⟩, ⟨56, spec_l09Count.sig, spec_l09Count.F⟩, ⟨57, spec_l09Map.sig, spec_l09Map.F⟩, ⟨58, spec_l09Place.sig, spec_l09Place.F⟩], [], [], [], []⟩
noncomputable def spec_l09Ok.cfg : Cfg := ⟨spec_l09Ok.ctx, [], [], fun id => match id with | 4 => ([0, 3], []) | 7 => ([0, 3, 4], []) | _ => ([], []), fun _ => []⟩
noncomputable def spec_l09Ok.code : Code := (Go.Proofs.Tryz.f27).body.getD .skip
noncomputable def spec_l09Ok.fin := finK spec_l09Ok.ctx spec_l09Ok.sig [.tmp 2]
noncomputable def spec_l09Ok.F (d : (List (List Int) × Int × List Int × List (Int × Int × Int × List Int)) × Unit) : Option ((Bool × Unit) × (Unit)) := anyK (runFn spec_l09Ok.cfg spec_l09Ok.fin spec_l09Ok.code (initSt spec_l09Ok.sig.ps d 92))
noncomputable def spec_l09Ok.l4 (k : Nat) (x9 : List (List Int)) (i10 : Int) (x11 : List Int) (x12 : List (Int × Int × Int × List Int)) (i13 : Int) : Option ((Bool × Unit) × (Unit)) :=
  Go.Vm.runT spec_l09Ok.cfg spec_l09Ok.fin k [.inLoop (sub [1, 1, 0, 1, 0, 0] spec_l09Ok.code), .inBlock 0, .code (sub [1, 1, 1] spec_l09Ok.code)]
    ⟨[.rptr false [⟨(.sl (.sl (.int .i64))), .sh, x9⟩, ⟨(.int .i64), .sh, i10⟩, ⟨(.sl (.int .i64)), .sh, x11⟩, ⟨(.sl TMatrix), .sh, x12⟩], .dead, .dead, .val false [⟨(.int .i64), .sh, i13⟩]] ++ deads 88, []⟩
noncomputable def spec_l09Ok.l7 (k : Nat) (x14 : List (List Int)) (i15 : Int) (x16 : List Int) (x17 : List (Int × Int × Int × List Int)) (i18 : Int) (i19 : Int) : Option ((Bool × Unit) × (Unit)) :=
  Go.Vm.runT spec_l09Ok.cfg spec_l09Ok.fin k [.inLoop (sub [1, 1, 0, 1, 0, 0, 1, 0, 0, 1, 0, 0] spec_l09Ok.code), .inBlock 2, .inBlock 1, .code (sub [1, 1, 0, 1, 0, 0, 1, 1] spec_l09Ok.code), .inLoop (sub [1, 1, 0, 1, 0, 0] spec_l09Ok.code), .inBlock 0, .code (sub [1, 1, 1] spec_l09Ok.code)]
    ⟨[.rptr false [⟨(.sl (.sl (.int .i64))), .sh, x14⟩, ⟨(.int .i64), .sh, i15⟩, ⟨(.sl (.int .i64)), .sh, x16⟩, ⟨(.sl TMatrix), .sh, x17⟩], .dead, .dead, .val false [⟨(.int .i64), .sh, i18⟩], .val false [⟨(.int .i64), .sh, i19⟩]] ++ deads 87, []⟩
theorem spec_l09Ok.l4_eq (k : Nat) (x9 : List (List Int)) (i10 : Int) (x11 : List Int) (x12 : List (Int × Int × Int × List Int)) (i13 : Int) : spec_l09Ok.l4 (k + 1) x9 i10 x11 x12 i13 =
  if (decide (i13 < (x9.length : Int))) = true then
    spec_l09Ok.l7 k x9 i10 x11 x12 i13 (0 : Int)
  else
    some ((true, ()), ()) := by kernel_rfl
theorem spec_l09Ok.l7_eq (k : Nat) (x14 : List (List Int)) (i15 : Int) (x16 : List Int) (x17 : List (Int × Int × Int × List Int)) (i18 : Int) (i19 : Int) : spec_l09Ok.l7 (k + 1) x14 i15 x16 x17 i18 i19 =
  if 0 ≤ i18 ∧ i18 < (x14.length : Int) then
    if (decide (i19 < ((x14.getD i18.toNat ([] : List Int)).length : Int))) = true then
      if 0 ≤ i18 ∧ i18 < (x14.length : Int) then
        if (decide (((x14.getD i18.toNat ([] : List Int)).length : Int) > (1 : Int))) = true then
          (spec_l09Place.F (x14, i18, i19, ())).bind fun r20 =>
            if 0 ≤ (r20.1.1 : Int) ∧ (r20.1.1 : Int) < (x17.length : Int) then
              (spec_l09Map.F ((x14, (i15, (x16, x17))), i18, i19, x17.getD (r20.1.1 : Int).toNat (0, 0, 0, ([] : List Int)), ())).bind fun r21 =>
                if (!(r21.1.1 : Bool)) = true then
                  some ((false, ()), ())
                else
                  spec_l09Ok.l7 k x14 i15 x16 x17 i18 (IntKind.i64.wrap (i19 + (1 : Int)))
            else
              none
        else
          spec_l09Ok.l4 k x14 i15 x16 x17 (IntKind.i64.wrap (i18 + (1 : Int)))
      else
        none
    else
      spec_l09Ok.l4 k x14 i15 x16 x17 (IntKind.i64.wrap (i18 + (1 : Int)))
  else
    none := by kernel_rfl
noncomputable def spec_l09Ok.T (k : Nat) (toArray_1 : List (List Int)) (toArray_2 : Int) (toArray_3 : List Int) (toArray_4 : List (Int × Int × Int × List Int)) : Option ((Bool × Unit) × (Unit)) :=
  (spec_l05Ok.F (toArray_1, ())).bind fun r5 =>
    if (!(r5.1.1 : Bool)) = true then
      some ((false, ()), ())
    else
      (spec_ValidPrime.F (toArray_2, ())).bind fun r6 =>
        if (!(r6.1.1 : Bool)) = true then
          some ((false, ()), ())
        else
          (spec_l09Stalks.F (toArray_1, toArray_3, ())).bind fun r7 =>
            if (!(r7.1.1 : Bool)) = true then
              some ((false, ()), ())
            else
              (spec_l09Count.F (toArray_1, ())).bind fun r8 =>
                if ((toArray_4.length : Int) != (r8.1.1 : Int)) = true then
                  some ((false, ()), ())
                else
                  spec_l09Ok.l4 k toArray_1 toArray_2 toArray_3 toArray_4 (0 : Int)
theorem spec_l09Ok.run (k : Nat) (toArray_1 : List (List Int)) (toArray_2 : Int) (toArray_3 : List Int) (toArray_4 : List (Int × Int × Int × List Int)) : runFn spec_l09Ok.cfg spec_l09Ok.fin spec_l09Ok.code (initSt spec_l09Ok.sig.ps ((toArray_1, (toArray_2, (toArray_3, toArray_4))), ()) 92) k = spec_l09Ok.T k toArray_1 toArray_2 toArray_3 toArray_4 := by kernel_rfl
theorem spec_l09Ok.of (toArray_1 : List (List Int)) (toArray_2 : Int) (toArray_3 : List Int) (toArray_4 : List (Int × Int × Int × List Int)) {r : (Bool × Unit) × (Unit)} (h : Ev (fun k => spec_l09Ok.T k toArray_1 toArray_2 toArray_3 toArray_4) r) : spec_l09Ok.F ((toArray_1, (toArray_2, (toArray_3, toArray_4))), ()) = some r := Ev.run (fun k => spec_l09Ok.run k toArray_1 toArray_2 toArray_3 toArray_4) h
theorem spec_l09Ok.ok : CtxOK Go.Proofs.Tryz.prog spec_l09Ok.ctx := ⟨List.forall_mem_nil _, mixed_ok, tab_ok tab_good, List.forall_mem_cons.2 ⟨spec_l05Ok.S, List.forall_mem_cons.2 ⟨spec_ValidPrime.S, List.forall_mem_cons.2 ⟨spec_l09Stalks.S, List.forall_mem_cons.2 ⟨spec_l09Count.S, List.forall_mem_cons.2 ⟨spec_l09Map.S, List.forall_mem_cons.2 ⟨spec_l09Place.S, List.forall_mem_nil _⟩⟩⟩⟩⟩⟩, List.forall_mem_nil _, List.forall_mem_nil _⟩
theorem spec_l09Ok.S : Sound Go.Proofs.Tryz.prog ⟨27, spec_l09Ok.sig, spec_l09Ok.F⟩ := sound_any (fn := Go.Proofs.Tryz.f27) (code := spec_l09Ok.code) (g := spec_l09Ok.cfg) (res := [.tmp 2]) Go.Proofs.Tryz.func27 (by kernel_rfl) (by kernel_rfl) spec_l09Ok.ok (by kernel_rfl) (by kernel_rfl) (Nat.le_of_ble_eq_true (by kernel_rfl)) (by kernel_rfl)
/-! ### spec_l05Skeleton -/
noncomputable def spec_l05Skeleton.sig : Sig := ⟨[.rptr (.sl (.sl (.int .i64))), .val false (.int .i64)], [(.val true, (.sl (.sl (.int .i64))), .deep)]⟩
noncomputable def spec_l05Skeleton.ctx : Ctx := ⟨tabOf tabl, [⟨60, spec_l00Own.sig, spec_l00Own.F⟩], [], [], [], []⟩
noncomputable def spec_l05Skeleton.cfg : Cfg := ⟨spec_l05Skeleton.ctx, [], [], fun id => match id with | 3 => ([0, 1, 4, 5, 6], [16, 20]) | _ => ([], []), fun _ => []⟩
noncomputable def spec_l05Skeleton.code : Code := (Go.Proofs.Tryz.f59).body.getD .skip
noncomputable def spec_l05Skeleton.fin := finK spec_l05Skeleton.ctx spec_l05Skeleton.sig [.cell 4 30]
noncomputable def spec_l05Skeleton.F (d : List (List Int) × Int × Unit) : Option ((List (List Int) × Unit) × (Unit)) := anyK (runFn spec_l05Skeleton.cfg spec_l05Skeleton.fin spec_l05Skeleton.code (initSt spec_l05Skeleton.sig.ps d 43))
noncomputable def spec_l05Skeleton.l3 (k : Nat) (x3 : List (List Int)) (i4 : Int) (i5 : Int) (x6 : List (List Int)) (x7 : List (List Int)) : Option ((List (List Int) × Unit) × (Unit)) :=
  Go.Vm.runT spec_l05Skeleton.cfg spec_l05Skeleton.fin k [.inLoop (sub [1, 1, 0, 1, 0, 0] spec_l05Skeleton.code), .inBlock 0, .code (sub [1, 1, 1] spec_l05Skeleton.code)]
    ⟨[.rptr false [⟨(.sl (.sl (.int .i64))), .sh, x3⟩], .val false [⟨(.int .i64), .sh, i4⟩], .dead, .dead, .ref 16 (.root 0), .ref 20 (.root 0), .val false [⟨(.int .i64), .sh, i5⟩]] ++ deads 36, [(16, ⟨true, [⟨(.sl (.sl (.int .i64))), .deep, x6⟩]⟩), (20, ⟨true, [⟨(.sl (.sl (.int .i64))), .deep, x7⟩]⟩)]⟩
theorem spec_l05Skeleton.l3_eq (k : Nat) (x3 : List (List Int)) (i4 : Int) (i5 : Int) (x6 : List (List Int)) (x7 : List (List Int)) : spec_l05Skeleton.l3 (k + 1) x3 i4 i5 x6 x7 =
  if (decide (i5 < (x3.length : Int))) = true then
    if 0 ≤ i5 ∧ i5 < (x3.length : Int) then
      if (decide (((x3.getD i5.toNat ([] : List Int)).length : Int) ≤ (IntKind.i64.wrap (i4 + (1 : Int))))) = true then
        if 0 ≤ i5 ∧ i5 < (x3.length : Int) then
          (spec_l00Own.F (x3.getD i5.toNat ([] : List Int), ())).bind fun r8 =>
            if x7.length + ([r8.1.1] : List (List Int)).length ≤ bigA then
              spec_l05Skeleton.l3 k x3 i4 (IntKind.i64.wrap (i5 + (1 : Int))) x6 (x7 ++ ([r8.1.1]))
            else
              none
        else
          none
      else
        spec_l05Skeleton.l3 k x3 i4 (IntKind.i64.wrap (i5 + (1 : Int))) x6 x7
    else
      none
  else
    some ((x7, ()), ()) := by kernel_rfl
noncomputable def spec_l05Skeleton.T (k : Nat) (c_1 : List (List Int)) (dimension_2 : Int) : Option ((List (List Int) × Unit) × (Unit)) :=
  spec_l05Skeleton.l3 k c_1 dimension_2 (0 : Int) ([] : List (List Int)) ([] : List (List Int))
theorem spec_l05Skeleton.run (k : Nat) (c_1 : List (List Int)) (dimension_2 : Int) : runFn spec_l05Skeleton.cfg spec_l05Skeleton.fin spec_l05Skeleton.code (initSt spec_l05Skeleton.sig.ps (c_1, dimension_2, ()) 43) k = spec_l05Skeleton.T k c_1 dimension_2 := by kernel_rfl
theorem spec_l05Skeleton.of (c_1 : List (List Int)) (dimension_2 : Int) {r : (List (List Int) × Unit) × (Unit)} (h : Ev (fun k => spec_l05Skeleton.T k c_1 dimension_2) r) : spec_l05Skeleton.F (c_1, dimension_2, ()) = some r := Ev.run (fun k => spec_l05Skeleton.run k c_1 dimension_2) h
theorem spec_l05Skeleton.ok : CtxOK Go.Proofs.Tryz.prog spec_l05Skeleton.ctx := ⟨List.forall_mem_nil _, mixed_ok, tab_ok tab_good, List.forall_mem_cons.2 ⟨spec_l00Own.S, List.forall_mem_nil _⟩, List.forall_mem_nil _, List.forall_mem_nil _⟩
theorem spec_l05Skeleton.S : Sound Go.Proofs.Tryz.prog ⟨59, spec_l05Skeleton.sig, spec_l05Skeleton.F⟩ := sound_any (fn := Go.Proofs.Tryz.f59) (code := spec_l05Skeleton.code) (g := spec_l05Skeleton.cfg) (res := [.cell 4 30]) Go.Proofs.Tryz.func59 (by kernel_rfl) (by kernel_rfl) spec_l05Skeleton.ok (by kernel_rfl) (by kernel_rfl) (Nat.le_of_ble_eq_true (by kernel_rfl)) (by kernel_rfl)
/-! ### spec_l03Zero -/
noncomputable def spec_l03Zero.sig : Sig := ⟨[.val false (.int .i64), .val false (.int .i64), .val false (.int .i64)], [(.val true, TMatrix, .deep)]⟩
noncomputable def spec_l03Zero.ctx : Ctx := ⟨tabOf tabl, [], [], [], [], []⟩
noncomputable def spec_l03Zero.cfg : Cfg := ⟨spec_l03Zero.ctx, [], [], fun _ => ([], []), fun _ => []⟩
noncomputable def spec_l03Zero.code : Code := (Go.Proofs.Tryz.f93).body.getD .skip
noncomputable def spec_l03Zero.fin := finK spec_l03Zero.ctx spec_l03Zero.sig [.cell 6 89]
noncomputable def spec_l03Zero.F (d : Int × Int × Int × Unit) : Option (((Int × Int × Int × List Int) × Unit) × (Unit)) := anyK (runFn spec_l03Zero.cfg spec_l03Zero.fin spec_l03Zero.code (initSt spec_l03Zero.sig.ps d 15))
noncomputable def spec_l03Zero.T (p_1 : Int) (rows_2 : Int) (columns_3 : Int) : Option (((Int × Int × Int × List Int) × Unit) × (Unit)) :=
  if 0 ≤ (IntKind.i64.wrap (rows_2 * columns_3)) ∧ (IntKind.i64.wrap (rows_2 * columns_3)) ≤ (bigN : Int) then
    some (((p_1, (rows_2, (columns_3, List.replicate (IntKind.i64.wrap (rows_2 * columns_3)).toNat 0))), ()), ())
  else
    none
theorem spec_l03Zero.run (k : Nat) (p_1 : Int) (rows_2 : Int) (columns_3 : Int) : runFn spec_l03Zero.cfg spec_l03Zero.fin spec_l03Zero.code (initSt spec_l03Zero.sig.ps (p_1, rows_2, columns_3, ()) 15) k = spec_l03Zero.T p_1 rows_2 columns_3 := by kernel_rfl
theorem spec_l03Zero.eq (p_1 : Int) (rows_2 : Int) (columns_3 : Int) : spec_l03Zero.F (p_1, rows_2, columns_3, ()) = spec_l03Zero.T p_1 rows_2 columns_3 := (congrArg anyK (funext fun k => spec_l03Zero.run k p_1 rows_2 columns_3)).trans (anyK_const _)
theorem spec_l03Zero.ok : CtxOK Go.Proofs.Tryz.prog spec_l03Zero.ctx := ⟨List.forall_mem_nil _, mixed_ok, tab_ok tab_good, List.forall_mem_nil _, List.forall_mem_nil _, List.forall_mem_nil _⟩
theorem spec_l03Zero.S : Sound Go.Proofs.Tryz.prog ⟨93, spec_l03Zero.sig, spec_l03Zero.F⟩ := sound_any (fn := Go.Proofs.Tryz.f93) (code := spec_l03Zero.code) (g := spec_l03Zero.cfg) (res := [.cell 6 89]) Go.Proofs.Tryz.func93 (by kernel_rfl) (by kernel_rfl) spec_l03Zero.ok (by kernel_rfl) (by kernel_rfl) (Nat.le_of_ble_eq_true (by kernel_rfl)) (by kernel_rfl)
/-! ### spec_l03Turned -/
noncomputable def spec_l03Turned.sig : Sig := ⟨[.rptr TMatrix], [(.val true, TMatrix, .deep)]⟩
noncomputable def spec_l03Turned.ctx : Ctx := ⟨tabOf tabl, [⟨93, spec_l03Zero.sig, spec_l03Zero.F⟩], [], [], [], []⟩
noncomputable def spec_l03Turned.cfg : Cfg := ⟨spec_l03Turned.ctx, [], [], fun id => match id with | 3 => ([0, 2, 3, 4], [8, 12]) | 6 => ([0, 2, 3, 4, 5], [8, 12]) | _ => ([], []), fun _ => []⟩
noncomputable def spec_l03Turned.code : Code := (Go.Proofs.Tryz.f61).body.getD .skip
noncomputable def spec_l03Turned.fin := finK spec_l03Turned.ctx spec_l03Turned.sig [.cell 2 89]
noncomputable def spec_l03Turned.F (d : (Int × Int × Int × List Int) × Unit) : Option (((Int × Int × Int × List Int) × Unit) × (Unit)) := anyK (runFn spec_l03Turned.cfg spec_l03Turned.fin spec_l03Turned.code (initSt spec_l03Turned.sig.ps d 61))
noncomputable def spec_l03Turned.l3 (k : Nat) (i6 : Int) (i7 : Int) (i8 : Int) (x9 : List Int) (i10 : Int) (i11 : Int) (i12 : Int) (i13 : Int) (x14 : List Int) (i15 : Int) (i16 : Int) (i17 : Int) (x18 : List Int) : Option (((Int × Int × Int × List Int) × Unit) × (Unit)) :=
  Go.Vm.runT spec_l03Turned.cfg spec_l03Turned.fin k [.inLoop (sub [1, 1, 0, 1, 0, 0] spec_l03Turned.code), .inBlock 0, .code (sub [1, 1, 1] spec_l03Turned.code)]
    ⟨[.rptr false [⟨(.int .i64), .sh, i6⟩, ⟨(.int .i64), .sh, i7⟩, ⟨(.int .i64), .sh, i8⟩, ⟨(.sl (.int .i64)), .sh, x9⟩], .dead, .ref 8 (.root 0), .ref 12 (.root 0), .val false [⟨(.int .i64), .sh, i10⟩]] ++ deads 56, [(8, ⟨true, [⟨(.int .i64), .sh, i11⟩, ⟨(.int .i64), .sh, i12⟩, ⟨(.int .i64), .sh, i13⟩, ⟨(.sl (.int .i64)), .deep, x14⟩]⟩), (12, ⟨true, [⟨(.int .i64), .sh, i15⟩, ⟨(.int .i64), .sh, i16⟩, ⟨(.int .i64), .sh, i17⟩, ⟨(.sl (.int .i64)), .deep, x18⟩]⟩)]⟩
noncomputable def spec_l03Turned.l6 (k : Nat) (i19 : Int) (i20 : Int) (i21 : Int) (x22 : List Int) (i23 : Int) (i24 : Int) (i25 : Int) (i26 : Int) (i27 : Int) (x28 : List Int) (i29 : Int) (i30 : Int) (i31 : Int) (x32 : List Int) : Option (((Int × Int × Int × List Int) × Unit) × (Unit)) :=
  Go.Vm.runT spec_l03Turned.cfg spec_l03Turned.fin k [.inLoop (sub [1, 1, 0, 1, 0, 0, 1, 0, 0, 1, 0, 0] spec_l03Turned.code), .inBlock 2, .inBlock 1, .code (sub [1, 1, 0, 1, 0, 0, 1, 1] spec_l03Turned.code), .inLoop (sub [1, 1, 0, 1, 0, 0] spec_l03Turned.code), .inBlock 0, .code (sub [1, 1, 1] spec_l03Turned.code)]
    ⟨[.rptr false [⟨(.int .i64), .sh, i19⟩, ⟨(.int .i64), .sh, i20⟩, ⟨(.int .i64), .sh, i21⟩, ⟨(.sl (.int .i64)), .sh, x22⟩], .dead, .ref 8 (.root 0), .ref 12 (.root 0), .val false [⟨(.int .i64), .sh, i23⟩], .val false [⟨(.int .i64), .sh, i24⟩]] ++ deads 55, [(8, ⟨true, [⟨(.int .i64), .sh, i25⟩, ⟨(.int .i64), .sh, i26⟩, ⟨(.int .i64), .sh, i27⟩, ⟨(.sl (.int .i64)), .deep, x28⟩]⟩), (12, ⟨true, [⟨(.int .i64), .sh, i29⟩, ⟨(.int .i64), .sh, i30⟩, ⟨(.int .i64), .sh, i31⟩, ⟨(.sl (.int .i64)), .deep, x32⟩]⟩)]⟩
theorem spec_l03Turned.l3_eq (k : Nat) (i6 : Int) (i7 : Int) (i8 : Int) (x9 : List Int) (i10 : Int) (i11 : Int) (i12 : Int) (i13 : Int) (x14 : List Int) (i15 : Int) (i16 : Int) (i17 : Int) (x18 : List Int) : spec_l03Turned.l3 (k + 1) i6 i7 i8 x9 i10 i11 i12 i13 x14 i15 i16 i17 x18 =
  if (decide (i10 < i7)) = true then
    spec_l03Turned.l6 k i6 i7 i8 x9 i10 (0 : Int) i11 i12 i13 x14 i15 i16 i17 x18
  else
    some (((i15, (i16, (i17, x18))), ()), ()) := by kernel_rfl
theorem spec_l03Turned.l6_eq (k : Nat) (i19 : Int) (i20 : Int) (i21 : Int) (x22 : List Int) (i23 : Int) (i24 : Int) (i25 : Int) (i26 : Int) (i27 : Int) (x28 : List Int) (i29 : Int) (i30 : Int) (i31 : Int) (x32 : List Int) : spec_l03Turned.l6 (k + 1) i19 i20 i21 x22 i23 i24 i25 i26 i27 x28 i29 i30 i31 x32 =
  if (decide (i24 < i21)) = true then
    if 0 ≤ (IntKind.i64.wrap ((IntKind.i64.wrap (i23 * i21)) + i24)) ∧ (IntKind.i64.wrap ((IntKind.i64.wrap (i23 * i21)) + i24)) < (x22.length : Int) then
      if 0 ≤ (IntKind.i64.wrap ((IntKind.i64.wrap (i24 * i20)) + i23)) ∧ (IntKind.i64.wrap ((IntKind.i64.wrap (i24 * i20)) + i23)) < (x32.length : Int) then
        let y33 : List Int := x32.set (IntKind.i64.wrap ((IntKind.i64.wrap (i24 * i20)) + i23)).toNat (x22.getD (IntKind.i64.wrap ((IntKind.i64.wrap (i23 * i21)) + i24)).toNat 0 : Int)
        spec_l03Turned.l6 k i19 i20 i21 x22 i23 (IntKind.i64.wrap (i24 + (1 : Int))) i25 i26 i27 x28 i29 i30 i31 y33
      else
        none
    else
      none
  else
    spec_l03Turned.l3 k i19 i20 i21 x22 (IntKind.i64.wrap (i23 + (1 : Int))) i25 i26 i27 x28 i29 i30 i31 x32 := by kernel_rfl
noncomputable def spec_l03Turned.T (k : Nat) (m_1 : Int) (m_2 : Int) (m_3 : Int) (m_4 : List Int) : Option (((Int × Int × Int × List Int) × Unit) × (Unit)) :=
  (spec_l03Zero.F (m_1, m_3, m_2, ())).bind fun r5 =>
    spec_l03Turned.l3 k m_1 m_2 m_3 m_4 (0 : Int) 0 0 0 ([]) (r5.1.1.1 : Int) (r5.1.1.2.1 : Int) (r5.1.1.2.2.1 : Int) r5.1.1.2.2.2
theorem spec_l03Turned.run (k : Nat) (m_1 : Int) (m_2 : Int) (m_3 : Int) (m_4 : List Int) : runFn spec_l03Turned.cfg spec_l03Turned.fin spec_l03Turned.code (initSt spec_l03Turned.sig.ps ((m_1, (m_2, (m_3, m_4))), ()) 61) k = spec_l03Turned.T k m_1 m_2 m_3 m_4 := by kernel_rfl
theorem spec_l03Turned.of (m_1 : Int) (m_2 : Int) (m_3 : Int) (m_4 : List Int) {r : ((Int × Int × Int × List Int) × Unit) × (Unit)} (h : Ev (fun k => spec_l03Turned.T k m_1 m_2 m_3 m_4) r) : spec_l03Turned.F ((m_1, (m_2, (m_3, m_4))), ()) = some r := Ev.run (fun k => spec_l03Turned.run k m_1 m_2 m_3 m_4) h
theorem spec_l03Turned.ok : CtxOK Go.Proofs.Tryz.prog spec_l03Turned.ctx := ⟨List.forall_mem_nil _, mixed_ok, tab_ok tab_good, List.forall_mem_cons.2 ⟨spec_l03Zero.S, List.forall_mem_nil _⟩, List.forall_mem_nil _, List.forall_mem_nil _⟩
theorem spec_l03Turned.S : Sound Go.Proofs.Tryz.prog ⟨61, spec_l03Turned.sig, spec_l03Turned.F⟩ := sound_any (fn := Go.Proofs.Tryz.f61) (code := spec_l03Turned.code) (g := spec_l03Turned.cfg) (res := [.cell 2 89]) Go.Proofs.Tryz.func61 (by kernel_rfl) (by kernel_rfl) spec_l03Turned.ok (by kernel_rfl) (by kernel_rfl) (Nat.le_of_ble_eq_true (by kernel_rfl)) (by kernel_rfl)
/-! ### spec_l15Back -/
noncomputable def spec_l15Back.sig : Sig := ⟨[.rptr TSheaf], [(.val true, TSheaf, .deep)]⟩
noncomputable def spec_l15Back.ctx : Ctx := ⟨tabOf tabl, [⟨59, spec_l05Skeleton.sig, spec_l05Skeleton.F⟩, ⟨60, spec_l00Own.sig, spec_l00Own.F⟩, ⟨61, spec_l03Turned.sig, spec_l03Turned.F⟩], [], [], [], [18]⟩
noncomputable def spec_l15Back.cfg : Cfg := ⟨spec_l15Back.ctx, [], [], fun id => match id with | 3 => ([0, 2, 3, 4], [8, 12]) | _ => ([], []), fun _ => []⟩
noncomputable def spec_l15Back.code : Code := (Go.Proofs.Tryz.f42).body.getD .skip
noncomputable def spec_l15Back.fin := finK spec_l15Back.ctx spec_l15Back.sig [.cell 2 36]
noncomputable def spec_l15Back.F (d : (List (List Int) × Int × List Int × List (Int × Int × Int × List Int)) × Unit) : Option (((List (List Int) × Int × List Int × List (Int × Int × Int × List Int)) × Unit) × (Unit)) := anyK (runFn spec_l15Back.cfg spec_l15Back.fin spec_l15Back.code (initSt spec_l15Back.sig.ps d 42))
noncomputable def spec_l15Back.l3 (k : Nat) (x7 : List (List Int)) (i8 : Int) (x9 : List Int) (x10 : List (Int × Int × Int × List Int)) (i11 : Int) (x12 : List (List Int)) (i13 : Int) (x14 : List Int) (x15 : List (Int × Int × Int × List Int)) (x16 : List (List Int)) (i17 : Int) (x18 : List Int) (x19 : List (Int × Int × Int × List Int)) : Option (((List (List Int) × Int × List Int × List (Int × Int × Int × List Int)) × Unit) × (Unit)) :=
  Go.Vm.runT spec_l15Back.cfg spec_l15Back.fin k [.inLoop (sub [1, 1, 0, 1, 0, 0] spec_l15Back.code), .inBlock 0, .code (sub [1, 1, 1] spec_l15Back.code)]
    ⟨[.rptr false [⟨(.sl (.sl (.int .i64))), .sh, x7⟩, ⟨(.int .i64), .sh, i8⟩, ⟨(.sl (.int .i64)), .sh, x9⟩, ⟨(.sl TMatrix), .sh, x10⟩], .dead, .ref 8 (.root 0), .ref 12 (.root 0), .val false [⟨(.int .i64), .sh, i11⟩]] ++ deads 37, [(8, ⟨true, [⟨(.sl (.sl (.int .i64))), .deep, x12⟩, ⟨(.int .i64), .sh, i13⟩, ⟨(.sl (.int .i64)), .deep, x14⟩, ⟨(.sl TMatrix), .deep, x15⟩]⟩), (12, ⟨true, [⟨(.sl (.sl (.int .i64))), .deep, x16⟩, ⟨(.int .i64), .sh, i17⟩, ⟨(.sl (.int .i64)), .deep, x18⟩, ⟨(.sl TMatrix), .deep, x19⟩]⟩)]⟩
theorem spec_l15Back.l3_eq (k : Nat) (x7 : List (List Int)) (i8 : Int) (x9 : List Int) (x10 : List (Int × Int × Int × List Int)) (i11 : Int) (x12 : List (List Int)) (i13 : Int) (x14 : List Int) (x15 : List (Int × Int × Int × List Int)) (x16 : List (List Int)) (i17 : Int) (x18 : List Int) (x19 : List (Int × Int × Int × List Int)) : spec_l15Back.l3 (k + 1) x7 i8 x9 x10 i11 x12 i13 x14 x15 x16 i17 x18 x19 =
  if (decide (i11 < (x10.length : Int))) = true then
    if 0 ≤ i11 ∧ i11 < (x10.length : Int) then
      (spec_l03Turned.F (x10.getD i11.toNat (0, 0, 0, ([] : List Int)), ())).bind fun r20 =>
        if x19.length + ([r20.1.1] : List (Int × Int × Int × List Int)).length ≤ bigA then
          spec_l15Back.l3 k x7 i8 x9 x10 (IntKind.i64.wrap (i11 + (1 : Int))) x12 i13 x14 x15 x16 i17 x18 (x19 ++ ([r20.1.1]))
        else
          none
    else
      none
  else
    some (((x16, (i17, (x18, x19))), ()), ()) := by kernel_rfl
noncomputable def spec_l15Back.T (k : Nat) (t_1 : List (List Int)) (t_2 : Int) (t_3 : List Int) (t_4 : List (Int × Int × Int × List Int)) : Option (((List (List Int) × Int × List Int × List (Int × Int × Int × List Int)) × Unit) × (Unit)) :=
  (spec_l05Skeleton.F (t_1, (3 : Int), ())).bind fun r5 =>
    (spec_l00Own.F (t_3, ())).bind fun r6 =>
      spec_l15Back.l3 k t_1 t_2 t_3 t_4 (0 : Int) ([]) 0 ([]) ([]) r5.1.1 t_2 r6.1.1 ([])
theorem spec_l15Back.run (k : Nat) (t_1 : List (List Int)) (t_2 : Int) (t_3 : List Int) (t_4 : List (Int × Int × Int × List Int)) : runFn spec_l15Back.cfg spec_l15Back.fin spec_l15Back.code (initSt spec_l15Back.sig.ps ((t_1, (t_2, (t_3, t_4))), ()) 42) k = spec_l15Back.T k t_1 t_2 t_3 t_4 := by kernel_rfl
theorem spec_l15Back.of (t_1 : List (List Int)) (t_2 : Int) (t_3 : List Int) (t_4 : List (Int × Int × Int × List Int)) {r : ((List (List Int) × Int × List Int × List (Int × Int × Int × List Int)) × Unit) × (Unit)} (h : Ev (fun k => spec_l15Back.T k t_1 t_2 t_3 t_4) r) : spec_l15Back.F ((t_1, (t_2, (t_3, t_4))), ()) = some r := Ev.run (fun k => spec_l15Back.run k t_1 t_2 t_3 t_4) h
theorem spec_l15Back.ok : CtxOK Go.Proofs.Tryz.prog spec_l15Back.ctx := ⟨List.forall_mem_nil _, mixed_ok, tab_ok tab_good, List.forall_mem_cons.2 ⟨spec_l05Skeleton.S, List.forall_mem_cons.2 ⟨spec_l00Own.S, List.forall_mem_cons.2 ⟨spec_l03Turned.S, List.forall_mem_nil _⟩⟩⟩, List.forall_mem_nil _, List.forall_mem_nil _⟩
theorem spec_l15Back.S : Sound Go.Proofs.Tryz.prog ⟨42, spec_l15Back.sig, spec_l15Back.F⟩ := sound_any (fn := Go.Proofs.Tryz.f42) (code := spec_l15Back.code) (g := spec_l15Back.cfg) (res := [.cell 2 36]) Go.Proofs.Tryz.func42 (by kernel_rfl) (by kernel_rfl) spec_l15Back.ok (by kernel_rfl) (by kernel_rfl) (Nat.le_of_ble_eq_true (by kernel_rfl)) (by kernel_rfl)
/-! ### spec_l15Ok -/
noncomputable def spec_l15Ok.sig : Sig := ⟨[.rptr TSheaf], [(.val false, .bool, .deep)]⟩
noncomputable def spec_l15Ok.ctx : Ctx := ⟨tabOf tabl, [⟨27, spec_l09Ok.sig, spec_l09Ok.F⟩, ⟨42, spec_l15Back.sig, spec_l15Back.F⟩, ⟨53, spec_l05Ok.sig, spec_l05Ok.F⟩, ⟨73, spec_l03Ok.sig, spec_l03Ok.F⟩], [], [], [], []⟩
noncomputable def spec_l15Ok.cfg : Cfg := ⟨spec_l15Ok.ctx, [], [], fun id => match id with | 4 => ([0, 3], []) | _ => ([], []), fun _ => []⟩
noncomputable def spec_l15Ok.code : Code := (Go.Proofs.Tryz.f41).body.getD .skip
noncomputable def spec_l15Ok.fin := finK spec_l15Ok.ctx spec_l15Ok.sig [.tmp 2]
noncomputable def spec_l15Ok.F (d : (List (List Int) × Int × List Int × List (Int × Int × Int × List Int)) × Unit) : Option ((Bool × Unit) × (Unit)) := anyK (runFn spec_l15Ok.cfg spec_l15Ok.fin spec_l15Ok.code (initSt spec_l15Ok.sig.ps d 30))
noncomputable def spec_l15Ok.l4 (k : Nat) (x6 : List (List Int)) (i7 : Int) (x8 : List Int) (x9 : List (Int × Int × Int × List Int)) (i10 : Int) : Option ((Bool × Unit) × (Unit)) :=
  Go.Vm.runT spec_l15Ok.cfg spec_l15Ok.fin k [.inLoop (sub [1, 1, 0, 1, 0, 0] spec_l15Ok.code), .inBlock 0, .code (sub [1, 1, 1] spec_l15Ok.code)]
    ⟨[.rptr false [⟨(.sl (.sl (.int .i64))), .sh, x6⟩, ⟨(.int .i64), .sh, i7⟩, ⟨(.sl (.int .i64)), .sh, x8⟩, ⟨(.sl TMatrix), .sh, x9⟩], .dead, .dead, .val false [⟨(.int .i64), .sh, i10⟩]] ++ deads 26, []⟩
theorem spec_l15Ok.l4_eq (k : Nat) (x6 : List (List Int)) (i7 : Int) (x8 : List Int) (x9 : List (Int × Int × Int × List Int)) (i10 : Int) : spec_l15Ok.l4 (k + 1) x6 i7 x8 x9 i10 =
  if (decide (i10 < (x9.length : Int))) = true then
    if 0 ≤ i10 ∧ i10 < (x9.length : Int) then
      (spec_l03Ok.F (x9.getD i10.toNat (0, 0, 0, ([] : List Int)), ())).bind fun r11 =>
        if (!(r11.1.1 : Bool)) = true then
          some ((false, ()), ())
        else
          spec_l15Ok.l4 k x6 i7 x8 x9 (IntKind.i64.wrap (i10 + (1 : Int)))
    else
      none
  else
    (spec_l15Back.F ((x6, (i7, (x8, x9))), ())).bind fun r12 =>
      (spec_l09Ok.F (r12.1.1, ())).bind fun r13 =>
        some (((r13.1.1 : Bool), ()), ()) := by kernel_rfl
noncomputable def spec_l15Ok.T (k : Nat) (t_1 : List (List Int)) (t_2 : Int) (t_3 : List Int) (t_4 : List (Int × Int × Int × List Int)) : Option ((Bool × Unit) × (Unit)) :=
  (spec_l05Ok.F (t_1, ())).bind fun r5 =>
    if (!(r5.1.1 : Bool)) = true then
      some ((false, ()), ())
    else
      spec_l15Ok.l4 k t_1 t_2 t_3 t_4 (0 : Int)
theorem spec_l15Ok.run (k : Nat) (t_1 : List (List Int)) (t_2 : Int) (t_3 : List Int) (t_4 : List (Int × Int × Int × List Int)) : runFn spec_l15Ok.cfg spec_l15Ok.fin spec_l15Ok.code (initSt spec_l15Ok.sig.ps ((t_1, (t_2, (t_3, t_4))), ()) 30) k = spec_l15Ok.T k t_1 t_2 t_3 t_4 := by kernel_rfl
theorem spec_l15Ok.of (t_1 : List (List Int)) (t_2 : Int) (t_3 : List Int) (t_4 : List (Int × Int × Int × List Int)) {r : (Bool × Unit) × (Unit)} (h : Ev (fun k => spec_l15Ok.T k t_1 t_2 t_3 t_4) r) : spec_l15Ok.F ((t_1, (t_2, (t_3, t_4))), ()) = some r := Ev.run (fun k => spec_l15Ok.run k t_1 t_2 t_3 t_4) h
theorem spec_l15Ok.ok : CtxOK Go.Proofs.Tryz.prog spec_l15Ok.ctx := ⟨List.forall_mem_nil _, mixed_ok, tab_ok tab_good, List.forall_mem_cons.2 ⟨spec_l09Ok.S, List.forall_mem_cons.2 ⟨spec_l15Back.S, List.forall_mem_cons.2 ⟨spec_l05Ok.S, List.forall_mem_cons.2 ⟨spec_l03Ok.S, List.forall_mem_nil _⟩⟩⟩⟩, List.forall_mem_nil _, List.forall_mem_nil _⟩
theorem spec_l15Ok.S : Sound Go.Proofs.Tryz.prog ⟨41, spec_l15Ok.sig, spec_l15Ok.F⟩ := sound_any (fn := Go.Proofs.Tryz.f41) (code := spec_l15Ok.code) (g := spec_l15Ok.cfg) (res := [.tmp 2]) Go.Proofs.Tryz.func41 (by kernel_rfl) (by kernel_rfl) spec_l15Ok.ok (by kernel_rfl) (by kernel_rfl) (Nat.le_of_ble_eq_true (by kernel_rfl)) (by kernel_rfl)
/-! ### spec_DualBack -/
noncomputable def spec_DualBack.sig : Sig := ⟨[.val true TSheaf], [(.val true, TSheaf, .deep), (.val false, (.int .i64), .deep)]⟩
noncomputable def spec_DualBack.ctx : Ctx := ⟨tabOf tabl, [⟨41, spec_l15Ok.sig, spec_l15Ok.F⟩, ⟨42, spec_l15Back.sig, spec_l15Back.F⟩], [], [], [], []⟩
noncomputable def spec_DualBack.cfg : Cfg := ⟨spec_DualBack.ctx, [], [], fun _ => ([], []), fun _ => []⟩
noncomputable def spec_DualBack.code : Code := (Go.Proofs.Tryz.f16).body.getD .skip
noncomputable def spec_DualBack.fin := finK spec_DualBack.ctx spec_DualBack.sig [.cell 2 36, .tmp 3]
noncomputable def spec_DualBack.F (d : (List (List Int) × Int × List Int × List (Int × Int × Int × List Int)) × Unit) : Option (((List (List Int) × Int × List Int × List (Int × Int × Int × List Int)) × Int × Unit) × (Unit)) := anyK (runFn spec_DualBack.cfg spec_DualBack.fin spec_DualBack.code (initSt spec_DualBack.sig.ps d 8))
noncomputable def spec_DualBack.T (t_1 : List (List Int)) (t_2 : Int) (t_3 : List Int) (t_4 : List (Int × Int × Int × List Int)) : Option (((List (List Int) × Int × List Int × List (Int × Int × Int × List Int)) × Int × Unit) × (Unit)) :=
  (spec_l15Ok.F ((t_1, (t_2, (t_3, t_4))), ())).bind fun r5 =>
    if (!(r5.1.1 : Bool)) = true then
      some ((([], (0, ([], []))), ((1 : Int), ())), ())
    else
      (spec_l15Back.F ((t_1, (t_2, (t_3, t_4))), ())).bind fun r6 =>
        some ((r6.1.1, ((0 : Int), ())), ())
theorem spec_DualBack.run (k : Nat) (t_1 : List (List Int)) (t_2 : Int) (t_3 : List Int) (t_4 : List (Int × Int × Int × List Int)) : runFn spec_DualBack.cfg spec_DualBack.fin spec_DualBack.code (initSt spec_DualBack.sig.ps ((t_1, (t_2, (t_3, t_4))), ()) 8) k = spec_DualBack.T t_1 t_2 t_3 t_4 := by kernel_rfl
theorem spec_DualBack.eq (t_1 : List (List Int)) (t_2 : Int) (t_3 : List Int) (t_4 : List (Int × Int × Int × List Int)) : spec_DualBack.F ((t_1, (t_2, (t_3, t_4))), ()) = spec_DualBack.T t_1 t_2 t_3 t_4 := (congrArg anyK (funext fun k => spec_DualBack.run k t_1 t_2 t_3 t_4)).trans (anyK_const _)
theorem spec_DualBack.ok : CtxOK Go.Proofs.Tryz.prog spec_DualBack.ctx := ⟨List.forall_mem_nil _, mixed_ok, tab_ok tab_good, List.forall_mem_cons.2 ⟨spec_l15Ok.S, List.forall_mem_cons.2 ⟨spec_l15Back.S, List.forall_mem_nil _⟩⟩, List.forall_mem_nil _, List.forall_mem_nil _⟩
theorem spec_DualBack.S : Sound Go.Proofs.Tryz.prog ⟨16, spec_DualBack.sig, spec_DualBack.F⟩ := sound_any (fn := Go.Proofs.Tryz.f16) (code := spec_DualBack.code) (g := spec_DualBack.cfg) (res := [.cell 2 36, .tmp 3]) Go.Proofs.Tryz.func16 (by kernel_rfl) (by kernel_rfl) spec_DualBack.ok (by kernel_rfl) (by kernel_rfl) (Nat.le_of_ble_eq_true (by kernel_rfl)) (by kernel_rfl)
/-! ### laws_toInt64S -/
noncomputable def laws_toInt64S.sig : Sig := ⟨[.val false (.sl (.int .i64))], [(.val false, (.sl (.int .i64)), .deep)]⟩
noncomputable def laws_toInt64S.ctx : Ctx := ⟨tabOf tabl, [], [], [], [], []⟩
noncomputable def laws_toInt64S.cfg : Cfg := ⟨laws_toInt64S.ctx, [], [], fun id => match id with | 3 => ([0, 3, 4], [12]) | _ => ([], []), fun _ => []⟩
noncomputable def laws_toInt64S.code : Code := (Go.Proofs.Tryz.f21).body.getD .skip
noncomputable def laws_toInt64S.fin := finK laws_toInt64S.ctx laws_toInt64S.sig [.tmp 2]
noncomputable def laws_toInt64S.F (d : List Int × Unit) : Option ((List Int × Unit) × (Unit)) := anyK (runFn laws_toInt64S.cfg laws_toInt64S.fin laws_toInt64S.code (initSt laws_toInt64S.sig.ps d 22))
noncomputable def laws_toInt64S.l3 (k : Nat) (x2 : List Int) (i3 : Int) (x4 : List Int) : Option ((List Int × Unit) × (Unit)) :=
  Go.Vm.runT laws_toInt64S.cfg laws_toInt64S.fin k [.inLoop (sub [1, 1, 0, 1, 0, 0] laws_toInt64S.code), .inBlock 0, .code (sub [1, 1, 1] laws_toInt64S.code)]
    ⟨[.val false [⟨(.sl (.int .i64)), .sh, x2⟩], .dead, .dead, .view 12 (.root 0) 1 false, .val false [⟨(.int .i64), .sh, i3⟩]] ++ deads 17, [(12, ⟨false, [⟨(.sl (.int .i64)), .deep, x4⟩]⟩)]⟩
theorem laws_toInt64S.l3_eq (k : Nat) (x2 : List Int) (i3 : Int) (x4 : List Int) : laws_toInt64S.l3 (k + 1) x2 i3 x4 =
  if (decide (i3 < (x2.length : Int))) = true then
    if 0 ≤ i3 ∧ i3 < (x2.length : Int) then
      if 0 ≤ i3 ∧ i3 < (x4.length : Int) then
        laws_toInt64S.l3 k x2 (IntKind.i64.wrap (i3 + (1 : Int))) (x4.set i3.toNat (x2.getD i3.toNat 0 : Int))
      else
        none
    else
      none
  else
    some ((x4, ()), ()) := by kernel_rfl
noncomputable def laws_toInt64S.T (k : Nat) (a_1 : List Int) : Option ((List Int × Unit) × (Unit)) :=
  if 0 ≤ (a_1.length : Int) ∧ (a_1.length : Int) ≤ (bigN : Int) then
    laws_toInt64S.l3 k a_1 (0 : Int) (List.replicate (a_1.length : Int).toNat 0)
  else
    none
theorem laws_toInt64S.run (k : Nat) (a_1 : List Int) : runFn laws_toInt64S.cfg laws_toInt64S.fin laws_toInt64S.code (initSt laws_toInt64S.sig.ps (a_1, ()) 22) k = laws_toInt64S.T k a_1 := by kernel_rfl
theorem laws_toInt64S.of (a_1 : List Int) {r : (List Int × Unit) × (Unit)} (h : Ev (fun k => laws_toInt64S.T k a_1) r) : laws_toInt64S.F (a_1, ()) = some r := Ev.run (fun k => laws_toInt64S.run k a_1) h
theorem laws_toInt64S.ok : CtxOK Go.Proofs.Tryz.prog laws_toInt64S.ctx := ⟨List.forall_mem_nil _, mixed_ok, tab_ok tab_good, List.forall_mem_nil _, List.forall_mem_nil _, List.forall_mem_nil _⟩
theorem laws_toInt64S.S : Sound Go.Proofs.Tryz.prog ⟨21, laws_toInt64S.sig, laws_toInt64S.F⟩ := sound_any (fn := Go.Proofs.Tryz.f21) (code := laws_toInt64S.code) (g := laws_toInt64S.cfg) (res := [.tmp 2]) Go.Proofs.Tryz.func21 (by kernel_rfl) (by kernel_rfl) laws_toInt64S.ok (by kernel_rfl) (by kernel_rfl) (Nat.le_of_ble_eq_true (by kernel_rfl)) (by kernel_rfl)
/-! ### laws_toInt64SS -/
noncomputable def laws_toInt64SS.sig : Sig := ⟨[.val false (.sl (.sl (.int .i64)))], [(.val false, (.sl (.sl (.int .i64))), .deep)]⟩
noncomputable def laws_toInt64SS.ctx : Ctx := ⟨tabOf tabl, [⟨21, laws_toInt64S.sig, laws_toInt64S.F⟩], [], [], [], []⟩
noncomputable def laws_toInt64SS.cfg : Cfg := ⟨laws_toInt64SS.ctx, [], [], fun id => match id with | 3 => ([0, 3, 4], [12]) | _ => ([], []), fun _ => []⟩
noncomputable def laws_toInt64SS.code : Code := (Go.Proofs.Tryz.f62).body.getD .skip
noncomputable def laws_toInt64SS.fin := finK laws_toInt64SS.ctx laws_toInt64SS.sig [.tmp 2]
noncomputable def laws_toInt64SS.F (d : List (List Int) × Unit) : Option ((List (List Int) × Unit) × (Unit)) := anyK (runFn laws_toInt64SS.cfg laws_toInt64SS.fin laws_toInt64SS.code (initSt laws_toInt64SS.sig.ps d 23))
noncomputable def laws_toInt64SS.l3 (k : Nat) (x2 : List (List Int)) (i3 : Int) (x4 : List (List Int)) : Option ((List (List Int) × Unit) × (Unit)) :=
  Go.Vm.runT laws_toInt64SS.cfg laws_toInt64SS.fin k [.inLoop (sub [1, 1, 0, 1, 0, 0] laws_toInt64SS.code), .inBlock 0, .code (sub [1, 1, 1] laws_toInt64SS.code)]
    ⟨[.val false [⟨(.sl (.sl (.int .i64))), .sh, x2⟩], .dead, .dead, .view 12 (.root 0) 1 false, .val false [⟨(.int .i64), .sh, i3⟩]] ++ deads 18, [(12, ⟨false, [⟨(.sl (.sl (.int .i64))), .deep, x4⟩]⟩)]⟩
theorem laws_toInt64SS.l3_eq (k : Nat) (x2 : List (List Int)) (i3 : Int) (x4 : List (List Int)) : laws_toInt64SS.l3 (k + 1) x2 i3 x4 =
  if (decide (i3 < (x2.length : Int))) = true then
    if 0 ≤ i3 ∧ i3 < (x2.length : Int) then
      (laws_toInt64S.F (x2.getD i3.toNat ([] : List Int), ())).bind fun r5 =>
        if 0 ≤ i3 ∧ i3 < (x4.length : Int) then
          laws_toInt64SS.l3 k x2 (IntKind.i64.wrap (i3 + (1 : Int))) (x4.set i3.toNat r5.1.1)
        else
          none
    else
      none
  else
    some ((x4, ()), ()) := by kernel_rfl
noncomputable def laws_toInt64SS.T (k : Nat) (a_1 : List (List Int)) : Option ((List (List Int) × Unit) × (Unit)) :=
  if 0 ≤ (a_1.length : Int) ∧ (a_1.length : Int) ≤ (bigN : Int) then
    laws_toInt64SS.l3 k a_1 (0 : Int) (List.replicate (a_1.length : Int).toNat ([] : List Int))
  else
    none
theorem laws_toInt64SS.run (k : Nat) (a_1 : List (List Int)) : runFn laws_toInt64SS.cfg laws_toInt64SS.fin laws_toInt64SS.code (initSt laws_toInt64SS.sig.ps (a_1, ()) 23) k = laws_toInt64SS.T k a_1 := by kernel_rfl
theorem laws_toInt64SS.of (a_1 : List (List Int)) {r : (List (List Int) × Unit) × (Unit)} (h : Ev (fun k => laws_toInt64SS.T k a_1) r) : laws_toInt64SS.F (a_1, ()) = some r := Ev.run (fun k => laws_toInt64SS.run k a_1) h
theorem laws_toInt64SS.ok : CtxOK Go.Proofs.Tryz.prog laws_toInt64SS.ctx := ⟨List.forall_mem_nil _, mixed_ok, tab_ok tab_good, List.forall_mem_cons.2 ⟨laws_toInt64S.S, List.forall_mem_nil _⟩, List.forall_mem_nil _, List.forall_mem_nil _⟩
theorem laws_toInt64SS.S : Sound Go.Proofs.Tryz.prog ⟨62, laws_toInt64SS.sig, laws_toInt64SS.F⟩ := sound_any (fn := Go.Proofs.Tryz.f62) (code := laws_toInt64SS.code) (g := laws_toInt64SS.cfg) (res := [.tmp 2]) Go.Proofs.Tryz.func62 (by kernel_rfl) (by kernel_rfl) laws_toInt64SS.ok (by kernel_rfl) (by kernel_rfl) (Nat.le_of_ble_eq_true (by kernel_rfl)) (by kernel_rfl)
/-! ### laws_toComplex -/
noncomputable def laws_toComplex.sig : Sig := ⟨[.val true (.sl (.sl (.int .i64)))], [(.val true, (.sl (.sl (.int .i64))), .deep)]⟩
noncomputable def laws_toComplex.ctx : Ctx := ⟨tabOf tabl, [⟨62, laws_toInt64SS.sig, laws_toInt64SS.F⟩], [], [], [], []⟩
noncomputable def laws_toComplex.cfg : Cfg := ⟨laws_toComplex.ctx, [], [], fun _ => ([], []), fun _ => []⟩
noncomputable def laws_toComplex.code : Code := (Go.Proofs.Tryz.f29).body.getD .skip
noncomputable def laws_toComplex.fin := finK laws_toComplex.ctx laws_toComplex.sig [.cell 2 30]
noncomputable def laws_toComplex.F (d : List (List Int) × Unit) : Option ((List (List Int) × Unit) × (Unit)) := anyK (runFn laws_toComplex.cfg laws_toComplex.fin laws_toComplex.code (initSt laws_toComplex.sig.ps d 9))
noncomputable def laws_toComplex.T (a_1 : List (List Int)) : Option ((List (List Int) × Unit) × (Unit)) :=
  (laws_toInt64SS.F (a_1, ())).bind fun r2 =>
    some ((r2.1.1, ()), ())
theorem laws_toComplex.run (k : Nat) (a_1 : List (List Int)) : runFn laws_toComplex.cfg laws_toComplex.fin laws_toComplex.code (initSt laws_toComplex.sig.ps (a_1, ()) 9) k = laws_toComplex.T a_1 := by kernel_rfl
theorem laws_toComplex.eq (a_1 : List (List Int)) : laws_toComplex.F (a_1, ()) = laws_toComplex.T a_1 := (congrArg anyK (funext fun k => laws_toComplex.run k a_1)).trans (anyK_const _)
theorem laws_toComplex.ok : CtxOK Go.Proofs.Tryz.prog laws_toComplex.ctx := ⟨List.forall_mem_nil _, mixed_ok, tab_ok tab_good, List.forall_mem_cons.2 ⟨laws_toInt64SS.S, List.forall_mem_nil _⟩, List.forall_mem_nil _, List.forall_mem_nil _⟩
theorem laws_toComplex.S : Sound Go.Proofs.Tryz.prog ⟨29, laws_toComplex.sig, laws_toComplex.F⟩ := sound_any (fn := Go.Proofs.Tryz.f29) (code := laws_toComplex.code) (g := laws_toComplex.cfg) (res := [.cell 2 30]) Go.Proofs.Tryz.func29 (by kernel_rfl) (by kernel_rfl) laws_toComplex.ok (by kernel_rfl) (by kernel_rfl) (Nat.le_of_ble_eq_true (by kernel_rfl)) (by kernel_rfl)
/-! ### laws_toMatrix -/
noncomputable def laws_toMatrix.sig : Sig := ⟨[.val true TMatrix], [(.val true, TMatrix, .deep)]⟩
noncomputable def laws_toMatrix.ctx : Ctx := ⟨tabOf tabl, [⟨21, laws_toInt64S.sig, laws_toInt64S.F⟩], [], [], [], []⟩
noncomputable def laws_toMatrix.cfg : Cfg := ⟨laws_toMatrix.ctx, [], [], fun _ => ([], []), fun _ => []⟩
noncomputable def laws_toMatrix.code : Code := (Go.Proofs.Tryz.f63).body.getD .skip
noncomputable def laws_toMatrix.fin := finK laws_toMatrix.ctx laws_toMatrix.sig [.cell 2 89]
noncomputable def laws_toMatrix.F (d : (Int × Int × Int × List Int) × Unit) : Option (((Int × Int × Int × List Int) × Unit) × (Unit)) := anyK (runFn laws_toMatrix.cfg laws_toMatrix.fin laws_toMatrix.code (initSt laws_toMatrix.sig.ps d 18))
noncomputable def laws_toMatrix.T (a_1 : Int) (a_2 : Int) (a_3 : Int) (a_4 : List Int) : Option (((Int × Int × Int × List Int) × Unit) × (Unit)) :=
  (laws_toInt64S.F (a_4, ())).bind fun r5 =>
    some (((a_1, (a_2, (a_3, r5.1.1))), ()), ())
theorem laws_toMatrix.run (k : Nat) (a_1 : Int) (a_2 : Int) (a_3 : Int) (a_4 : List Int) : runFn laws_toMatrix.cfg laws_toMatrix.fin laws_toMatrix.code (initSt laws_toMatrix.sig.ps ((a_1, (a_2, (a_3, a_4))), ()) 18) k = laws_toMatrix.T a_1 a_2 a_3 a_4 := by kernel_rfl
theorem laws_toMatrix.eq (a_1 : Int) (a_2 : Int) (a_3 : Int) (a_4 : List Int) : laws_toMatrix.F ((a_1, (a_2, (a_3, a_4))), ()) = laws_toMatrix.T a_1 a_2 a_3 a_4 := (congrArg anyK (funext fun k => laws_toMatrix.run k a_1 a_2 a_3 a_4)).trans (anyK_const _)
theorem laws_toMatrix.ok : CtxOK Go.Proofs.Tryz.prog laws_toMatrix.ctx := ⟨List.forall_mem_nil _, mixed_ok, tab_ok tab_good, List.forall_mem_cons.2 ⟨laws_toInt64S.S, List.forall_mem_nil _⟩, List.forall_mem_nil _, List.forall_mem_nil _⟩
theorem laws_toMatrix.S : Sound Go.Proofs.Tryz.prog ⟨63, laws_toMatrix.sig, laws_toMatrix.F⟩ := sound_any (fn := Go.Proofs.Tryz.f63) (code := laws_toMatrix.code) (g := laws_toMatrix.cfg) (res := [.cell 2 89]) Go.Proofs.Tryz.func63 (by kernel_rfl) (by kernel_rfl) laws_toMatrix.ok (by kernel_rfl) (by kernel_rfl) (Nat.le_of_ble_eq_true (by kernel_rfl)) (by kernel_rfl)
/-! ### laws_toMatrixS -/
noncomputable def laws_toMatrixS.sig : Sig := ⟨[.val false (.sl TMatrix)], [(.val false, (.sl TMatrix), .deep)]⟩
noncomputable def laws_toMatrixS.ctx : Ctx := ⟨tabOf tabl, [⟨63, laws_toMatrix.sig, laws_toMatrix.F⟩], [], [], [], []⟩
noncomputable def laws_toMatrixS.cfg : Cfg := ⟨laws_toMatrixS.ctx, [], [], fun id => match id with | 3 => ([0, 3, 4], [12]) | _ => ([], []), fun _ => []⟩
noncomputable def laws_toMatrixS.code : Code := (Go.Proofs.Tryz.f30).body.getD .skip
noncomputable def laws_toMatrixS.fin := finK laws_toMatrixS.ctx laws_toMatrixS.sig [.tmp 2]
noncomputable def laws_toMatrixS.F (d : List (Int × Int × Int × List Int) × Unit) : Option ((List (Int × Int × Int × List Int) × Unit) × (Unit)) := anyK (runFn laws_toMatrixS.cfg laws_toMatrixS.fin laws_toMatrixS.code (initSt laws_toMatrixS.sig.ps d 23))
noncomputable def laws_toMatrixS.l3 (k : Nat) (x2 : List (Int × Int × Int × List Int)) (i3 : Int) (x4 : List (Int × Int × Int × List Int)) : Option ((List (Int × Int × Int × List Int) × Unit) × (Unit)) :=
  Go.Vm.runT laws_toMatrixS.cfg laws_toMatrixS.fin k [.inLoop (sub [1, 1, 0, 1, 0, 0] laws_toMatrixS.code), .inBlock 0, .code (sub [1, 1, 1] laws_toMatrixS.code)]
    ⟨[.val false [⟨(.sl TMatrix), .sh, x2⟩], .dead, .dead, .view 12 (.root 0) 1 false, .val false [⟨(.int .i64), .sh, i3⟩]] ++ deads 18, [(12, ⟨false, [⟨(.sl TMatrix), .deep, x4⟩]⟩)]⟩
theorem laws_toMatrixS.l3_eq (k : Nat) (x2 : List (Int × Int × Int × List Int)) (i3 : Int) (x4 : List (Int × Int × Int × List Int)) : laws_toMatrixS.l3 (k + 1) x2 i3 x4 =
  if (decide (i3 < (x2.length : Int))) = true then
    if 0 ≤ i3 ∧ i3 < (x2.length : Int) then
      (laws_toMatrix.F (x2.getD i3.toNat (0, 0, 0, ([] : List Int)), ())).bind fun r5 =>
        if 0 ≤ i3 ∧ i3 < (x4.length : Int) then
          laws_toMatrixS.l3 k x2 (IntKind.i64.wrap (i3 + (1 : Int))) (x4.set i3.toNat r5.1.1)
        else
          none
    else
      none
  else
    some ((x4, ()), ()) := by kernel_rfl
noncomputable def laws_toMatrixS.T (k : Nat) (a_1 : List (Int × Int × Int × List Int)) : Option ((List (Int × Int × Int × List Int) × Unit) × (Unit)) :=
  if 0 ≤ (a_1.length : Int) ∧ (a_1.length : Int) ≤ (bigN : Int) then
    laws_toMatrixS.l3 k a_1 (0 : Int) (List.replicate (a_1.length : Int).toNat (0, 0, 0, ([] : List Int)))
  else
    none
theorem laws_toMatrixS.run (k : Nat) (a_1 : List (Int × Int × Int × List Int)) : runFn laws_toMatrixS.cfg laws_toMatrixS.fin laws_toMatrixS.code (initSt laws_toMatrixS.sig.ps (a_1, ()) 23) k = laws_toMatrixS.T k a_1 := by kernel_rfl
theorem laws_toMatrixS.of (a_1 : List (Int × Int × Int × List Int)) {r : (List (Int × Int × Int × List Int) × Unit) × (Unit)} (h : Ev (fun k => laws_toMatrixS.T k a_1) r) : laws_toMatrixS.F (a_1, ()) = some r := Ev.run (fun k => laws_toMatrixS.run k a_1) h
theorem laws_toMatrixS.ok : CtxOK Go.Proofs.Tryz.prog laws_toMatrixS.ctx := ⟨List.forall_mem_nil _, mixed_ok, tab_ok tab_good, List.forall_mem_cons.2 ⟨laws_toMatrix.S, List.forall_mem_nil _⟩, List.forall_mem_nil _, List.forall_mem_nil _⟩
theorem laws_toMatrixS.S : Sound Go.Proofs.Tryz.prog ⟨30, laws_toMatrixS.sig, laws_toMatrixS.F⟩ := sound_any (fn := Go.Proofs.Tryz.f30) (code := laws_toMatrixS.code) (g := laws_toMatrixS.cfg) (res := [.tmp 2]) Go.Proofs.Tryz.func30 (by kernel_rfl) (by kernel_rfl) laws_toMatrixS.ok (by kernel_rfl) (by kernel_rfl) (Nat.le_of_ble_eq_true (by kernel_rfl)) (by kernel_rfl)
/-! ### laws_toCosheaf -/
noncomputable def laws_toCosheaf.sig : Sig := ⟨[.val true TSheaf], [(.val true, TSheaf, .deep)]⟩
noncomputable def laws_toCosheaf.ctx : Ctx := ⟨tabOf tabl, [⟨21, laws_toInt64S.sig, laws_toInt64S.F⟩, ⟨29, laws_toComplex.sig, laws_toComplex.F⟩, ⟨30, laws_toMatrixS.sig, laws_toMatrixS.F⟩], [], [], [], []⟩
noncomputable def laws_toCosheaf.cfg : Cfg := ⟨laws_toCosheaf.ctx, [], [], fun _ => ([], []), fun _ => []⟩
noncomputable def laws_toCosheaf.code : Code := (Go.Proofs.Tryz.f17).body.getD .skip
noncomputable def laws_toCosheaf.fin := finK laws_toCosheaf.ctx laws_toCosheaf.sig [.cell 2 33]
noncomputable def laws_toCosheaf.F (d : (List (List Int) × Int × List Int × List (Int × Int × Int × List Int)) × Unit) : Option (((List (List Int) × Int × List Int × List (Int × Int × Int × List Int)) × Unit) × (Unit)) := anyK (runFn laws_toCosheaf.cfg laws_toCosheaf.fin laws_toCosheaf.code (initSt laws_toCosheaf.sig.ps d 20))
noncomputable def laws_toCosheaf.T (a_1 : List (List Int)) (a_2 : Int) (a_3 : List Int) (a_4 : List (Int × Int × Int × List Int)) : Option (((List (List Int) × Int × List Int × List (Int × Int × Int × List Int)) × Unit) × (Unit)) :=
  (laws_toComplex.F (a_1, ())).bind fun r5 =>
    (laws_toInt64S.F (a_3, ())).bind fun r6 =>
      (laws_toMatrixS.F (a_4, ())).bind fun r7 =>
        some (((r5.1.1, (a_2, (r6.1.1, r7.1.1))), ()), ())
theorem laws_toCosheaf.run (k : Nat) (a_1 : List (List Int)) (a_2 : Int) (a_3 : List Int) (a_4 : List (Int × Int × Int × List Int)) : runFn laws_toCosheaf.cfg laws_toCosheaf.fin laws_toCosheaf.code (initSt laws_toCosheaf.sig.ps ((a_1, (a_2, (a_3, a_4))), ()) 20) k = laws_toCosheaf.T a_1 a_2 a_3 a_4 := by kernel_rfl
theorem laws_toCosheaf.eq (a_1 : List (List Int)) (a_2 : Int) (a_3 : List Int) (a_4 : List (Int × Int × Int × List Int)) : laws_toCosheaf.F ((a_1, (a_2, (a_3, a_4))), ()) = laws_toCosheaf.T a_1 a_2 a_3 a_4 := (congrArg anyK (funext fun k => laws_toCosheaf.run k a_1 a_2 a_3 a_4)).trans (anyK_const _)
theorem laws_toCosheaf.ok : CtxOK Go.Proofs.Tryz.prog laws_toCosheaf.ctx := ⟨List.forall_mem_nil _, mixed_ok, tab_ok tab_good, List.forall_mem_cons.2 ⟨laws_toInt64S.S, List.forall_mem_cons.2 ⟨laws_toComplex.S, List.forall_mem_cons.2 ⟨laws_toMatrixS.S, List.forall_mem_nil _⟩⟩⟩, List.forall_mem_nil _, List.forall_mem_nil _⟩
theorem laws_toCosheaf.S : Sound Go.Proofs.Tryz.prog ⟨17, laws_toCosheaf.sig, laws_toCosheaf.F⟩ := sound_any (fn := Go.Proofs.Tryz.f17) (code := laws_toCosheaf.code) (g := laws_toCosheaf.cfg) (res := [.cell 2 33]) Go.Proofs.Tryz.func17 (by kernel_rfl) (by kernel_rfl) laws_toCosheaf.ok (by kernel_rfl) (by kernel_rfl) (Nat.le_of_ble_eq_true (by kernel_rfl)) (by kernel_rfl)
/-! ### slices_IndexFunc_Lint64_int64 -/
noncomputable def slices_IndexFunc_Lint64_int64.sig : Sig := ⟨[.val false (.sl (.int .i64)), .fnx ⟨[(false, (.int .i64))], [(.val false, .bool, .deep)]⟩], [(.val false, (.int .i64), .deep)]⟩
noncomputable def slices_IndexFunc_Lint64_int64.ctx : Ctx := ⟨tabOf tabl, [], [], [], [], []⟩
noncomputable def slices_IndexFunc_Lint64_int64.cfg : Cfg := ⟨slices_IndexFunc_Lint64_int64.ctx, [], [], fun id => match id with | 2 => ([0, 1, 7, 8], []) | _ => ([], []), fun _ => []⟩
noncomputable def slices_IndexFunc_Lint64_int64.code : Code := (Go.Proofs.Tryz.f126).body.getD .skip
noncomputable def slices_IndexFunc_Lint64_int64.fin := finK slices_IndexFunc_Lint64_int64.ctx slices_IndexFunc_Lint64_int64.sig [.tmp 4]
noncomputable def slices_IndexFunc_Lint64_int64.F (d : List Int × ((Int × Unit) → Option (Bool × Unit)) × Unit) : Option ((Int × Unit) × (Unit)) := anyK (runFn slices_IndexFunc_Lint64_int64.cfg slices_IndexFunc_Lint64_int64.fin slices_IndexFunc_Lint64_int64.code (initSt slices_IndexFunc_Lint64_int64.sig.ps d 19))
noncomputable def slices_IndexFunc_Lint64_int64.l2 (k : Nat) (x3 : List Int) (f4 : (Int × Unit) → Option (Bool × Unit)) (i5 : Int) (i6 : Int) : Option ((Int × Unit) × (Unit)) :=
  Go.Vm.runT slices_IndexFunc_Lint64_int64.cfg slices_IndexFunc_Lint64_int64.fin k [.inLoop (sub [1, 0, 1, 0, 0] slices_IndexFunc_Lint64_int64.code), .inBlock 0, .code (sub [1, 1] slices_IndexFunc_Lint64_int64.code)]
    ⟨[.val false [⟨(.sl (.int .i64)), .sh, x3⟩], .fnx ⟨[(false, (.int .i64))], [(.val false, .bool, .deep)]⟩ f4, .dead, .dead, .dead, .dead, .dead, .val false [⟨(.int .i64), .sh, i5⟩], .val false [⟨(.int .i64), .sh, i6⟩]] ++ deads 10, []⟩
theorem slices_IndexFunc_Lint64_int64.l2_eq (k : Nat) (x3 : List Int) (f4 : (Int × Unit) → Option (Bool × Unit)) (i5 : Int) (i6 : Int) : slices_IndexFunc_Lint64_int64.l2 (k + 1) x3 f4 i5 i6 =
  if (decide (i6 < i5)) = true then
    if 0 ≤ i6 ∧ i6 < (x3.length : Int) then
      (f4 ((x3.getD i6.toNat 0 : Int), ())).bind fun r7 =>
        if (r7.1 : Bool) = true then
          some ((i6, ()), ())
        else
          slices_IndexFunc_Lint64_int64.l2 k x3 f4 i5 (IntKind.i64.wrap (i6 + (1 : Int)))
    else
      none
  else
    some (((-1 : Int), ()), ()) := by kernel_rfl
noncomputable def slices_IndexFunc_Lint64_int64.T (k : Nat) (s_1 : List Int) (f_2 : (Int × Unit) → Option (Bool × Unit)) : Option ((Int × Unit) × (Unit)) :=
  slices_IndexFunc_Lint64_int64.l2 k s_1 f_2 (s_1.length : Int) (0 : Int)
theorem slices_IndexFunc_Lint64_int64.run (k : Nat) (s_1 : List Int) (f_2 : (Int × Unit) → Option (Bool × Unit)) : runFn slices_IndexFunc_Lint64_int64.cfg slices_IndexFunc_Lint64_int64.fin slices_IndexFunc_Lint64_int64.code (initSt slices_IndexFunc_Lint64_int64.sig.ps (s_1, f_2, ()) 19) k = slices_IndexFunc_Lint64_int64.T k s_1 f_2 := by kernel_rfl
theorem slices_IndexFunc_Lint64_int64.of (s_1 : List Int) (f_2 : (Int × Unit) → Option (Bool × Unit)) {r : (Int × Unit) × (Unit)} (h : Ev (fun k => slices_IndexFunc_Lint64_int64.T k s_1 f_2) r) : slices_IndexFunc_Lint64_int64.F (s_1, f_2, ()) = some r := Ev.run (fun k => slices_IndexFunc_Lint64_int64.run k s_1 f_2) h
theorem slices_IndexFunc_Lint64_int64.ok : CtxOK Go.Proofs.Tryz.prog slices_IndexFunc_Lint64_int64.ctx := ⟨List.forall_mem_nil _, mixed_ok, tab_ok tab_good, List.forall_mem_nil _, List.forall_mem_nil _, List.forall_mem_nil _⟩
theorem slices_IndexFunc_Lint64_int64.S : Sound Go.Proofs.Tryz.prog ⟨126, slices_IndexFunc_Lint64_int64.sig, slices_IndexFunc_Lint64_int64.F⟩ := sound_any (fn := Go.Proofs.Tryz.f126) (code := slices_IndexFunc_Lint64_int64.code) (g := slices_IndexFunc_Lint64_int64.cfg) (res := [.tmp 4]) Go.Proofs.Tryz.func126 (by kernel_rfl) (by kernel_rfl) slices_IndexFunc_Lint64_int64.ok (by kernel_rfl) (by kernel_rfl) (Nat.le_of_ble_eq_true (by kernel_rfl)) (by kernel_rfl)
/-! ### slices_ContainsFunc_Lint64_int64 -/
noncomputable def slices_ContainsFunc_Lint64_int64.sig : Sig := ⟨[.val false (.sl (.int .i64)), .fnx ⟨[(false, (.int .i64))], [(.val false, .bool, .deep)]⟩], [(.val false, .bool, .deep)]⟩
noncomputable def slices_ContainsFunc_Lint64_int64.ctx : Ctx := ⟨tabOf tabl, [⟨126, slices_IndexFunc_Lint64_int64.sig, slices_IndexFunc_Lint64_int64.F⟩], [], [], [], []⟩
noncomputable def slices_ContainsFunc_Lint64_int64.cfg : Cfg := ⟨slices_ContainsFunc_Lint64_int64.ctx, [], [], fun _ => ([], []), fun _ => []⟩
noncomputable def slices_ContainsFunc_Lint64_int64.code : Code := (Go.Proofs.Tryz.f101).body.getD .skip
noncomputable def slices_ContainsFunc_Lint64_int64.fin := finK slices_ContainsFunc_Lint64_int64.ctx slices_ContainsFunc_Lint64_int64.sig [.tmp 4]
noncomputable def slices_ContainsFunc_Lint64_int64.F (d : List Int × ((Int × Unit) → Option (Bool × Unit)) × Unit) : Option ((Bool × Unit) × (Unit)) := anyK (runFn slices_ContainsFunc_Lint64_int64.cfg slices_ContainsFunc_Lint64_int64.fin slices_ContainsFunc_Lint64_int64.code (initSt slices_ContainsFunc_Lint64_int64.sig.ps d 9))
noncomputable def slices_ContainsFunc_Lint64_int64.T (s_1 : List Int) (f_2 : (Int × Unit) → Option (Bool × Unit)) : Option ((Bool × Unit) × (Unit)) :=
  (slices_IndexFunc_Lint64_int64.F (s_1, f_2, ())).bind fun r3 =>
    some ((decide ((r3.1.1 : Int) ≥ (0 : Int)), ()), ())
theorem slices_ContainsFunc_Lint64_int64.run (k : Nat) (s_1 : List Int) (f_2 : (Int × Unit) → Option (Bool × Unit)) : runFn slices_ContainsFunc_Lint64_int64.cfg slices_ContainsFunc_Lint64_int64.fin slices_ContainsFunc_Lint64_int64.code (initSt slices_ContainsFunc_Lint64_int64.sig.ps (s_1, f_2, ()) 9) k = slices_ContainsFunc_Lint64_int64.T s_1 f_2 := by kernel_rfl
theorem slices_ContainsFunc_Lint64_int64.eq (s_1 : List Int) (f_2 : (Int × Unit) → Option (Bool × Unit)) : slices_ContainsFunc_Lint64_int64.F (s_1, f_2, ()) = slices_ContainsFunc_Lint64_int64.T s_1 f_2 := (congrArg anyK (funext fun k => slices_ContainsFunc_Lint64_int64.run k s_1 f_2)).trans (anyK_const _)
theorem slices_ContainsFunc_Lint64_int64.ok : CtxOK Go.Proofs.Tryz.prog slices_ContainsFunc_Lint64_int64.ctx := ⟨List.forall_mem_nil _, mixed_ok, tab_ok tab_good, List.forall_mem_cons.2 ⟨slices_IndexFunc_Lint64_int64.S, List.forall_mem_nil _⟩, List.forall_mem_nil _, List.forall_mem_nil _⟩
theorem slices_ContainsFunc_Lint64_int64.S : Sound Go.Proofs.Tryz.prog ⟨101, slices_ContainsFunc_Lint64_int64.sig, slices_ContainsFunc_Lint64_int64.F⟩ := sound_any (fn := Go.Proofs.Tryz.f101) (code := slices_ContainsFunc_Lint64_int64.code) (g := slices_ContainsFunc_Lint64_int64.cfg) (res := [.tmp 4]) Go.Proofs.Tryz.func101 (by kernel_rfl) (by kernel_rfl) slices_ContainsFunc_Lint64_int64.ok (by kernel_rfl) (by kernel_rfl) (Nat.le_of_ble_eq_true (by kernel_rfl)) (by kernel_rfl)
/-! ### impl_isRising -/
noncomputable def impl_isRising.sig : Sig := ⟨[.val false (.sl (.int .i64))], [(.val false, .bool, .deep)]⟩
noncomputable def impl_isRising.ctx : Ctx := ⟨tabOf tabl, [], [], [], [], []⟩
noncomputable def impl_isRising.cfg : Cfg := ⟨impl_isRising.ctx, [], [], fun id => match id with | 2 => ([0, 3], []) | _ => ([], []), fun _ => []⟩
noncomputable def impl_isRising.code : Code := (Go.Proofs.Tryz.f117).body.getD .skip
noncomputable def impl_isRising.fin := finK impl_isRising.ctx impl_isRising.sig [.tmp 2]
noncomputable def impl_isRising.F (d : List Int × Unit) : Option ((Bool × Unit) × (Unit)) := anyK (runFn impl_isRising.cfg impl_isRising.fin impl_isRising.code (initSt impl_isRising.sig.ps d 20))
noncomputable def impl_isRising.l2 (k : Nat) (x2 : List Int) (i3 : Int) : Option ((Bool × Unit) × (Unit)) :=
  Go.Vm.runT impl_isRising.cfg impl_isRising.fin k [.inLoop (sub [1, 0, 1, 0, 0] impl_isRising.code), .inBlock 0, .code (sub [1, 1] impl_isRising.code)]
    ⟨[.val false [⟨(.sl (.int .i64)), .sh, x2⟩], .dead, .dead, .val false [⟨(.int .i64), .sh, i3⟩]] ++ deads 16, []⟩
theorem impl_isRising.l2_eq (k : Nat) (x2 : List Int) (i3 : Int) : impl_isRising.l2 (k + 1) x2 i3 =
  if (decide (i3 < (x2.length : Int))) = true then
    if 0 ≤ (IntKind.i64.wrap (i3 - (1 : Int))) ∧ (IntKind.i64.wrap (i3 - (1 : Int))) < (x2.length : Int) then
      if 0 ≤ i3 ∧ i3 < (x2.length : Int) then
        if (decide ((x2.getD (IntKind.i64.wrap (i3 - (1 : Int))).toNat 0) ≥ (x2.getD i3.toNat 0 : Int))) = true then
          some ((false, ()), ())
        else
          impl_isRising.l2 k x2 (IntKind.i64.wrap (i3 + (1 : Int)))
      else
        none
    else
      none
  else
    some ((true, ()), ()) := by kernel_rfl
noncomputable def impl_isRising.T (k : Nat) (list_1 : List Int) : Option ((Bool × Unit) × (Unit)) :=
  impl_isRising.l2 k list_1 (1 : Int)
theorem impl_isRising.run (k : Nat) (list_1 : List Int) : runFn impl_isRising.cfg impl_isRising.fin impl_isRising.code (initSt impl_isRising.sig.ps (list_1, ()) 20) k = impl_isRising.T k list_1 := by kernel_rfl
theorem impl_isRising.of (list_1 : List Int) {r : (Bool × Unit) × (Unit)} (h : Ev (fun k => impl_isRising.T k list_1) r) : impl_isRising.F (list_1, ()) = some r := Ev.run (fun k => impl_isRising.run k list_1) h
theorem impl_isRising.ok : CtxOK Go.Proofs.Tryz.prog impl_isRising.ctx := ⟨List.forall_mem_nil _, mixed_ok, tab_ok tab_good, List.forall_mem_nil _, List.forall_mem_nil _, List.forall_mem_nil _⟩
theorem impl_isRising.S : Sound Go.Proofs.Tryz.prog ⟨117, impl_isRising.sig, impl_isRising.F⟩ := sound_any (fn := Go.Proofs.Tryz.f117) (code := impl_isRising.code) (g := impl_isRising.cfg) (res := [.tmp 2]) Go.Proofs.Tryz.func117 (by kernel_rfl) (by kernel_rfl) impl_isRising.ok (by kernel_rfl) (by kernel_rfl) (Nat.le_of_ble_eq_true (by kernel_rfl)) (by kernel_rfl)
/-! ### impl_within -/
noncomputable def impl_within.sig : Sig := ⟨[.val false (.int .i64), .val false (.int .i64), .val false (.int .i64)], [(.val false, .bool, .deep)]⟩
noncomputable def impl_within.ctx : Ctx := ⟨tabOf tabl, [], [], [], [], []⟩
noncomputable def impl_within.cfg : Cfg := ⟨impl_within.ctx, [], [], fun _ => ([], []), fun _ => []⟩
noncomputable def impl_within.code : Code := (Go.Proofs.Tryz.f100).body.getD .skip
noncomputable def impl_within.fin := finK impl_within.ctx impl_within.sig [.tmp 6]
noncomputable def impl_within.F (d : Int × Int × Int × Unit) : Option ((Bool × Unit) × (Unit)) := anyK (runFn impl_within.cfg impl_within.fin impl_within.code (initSt impl_within.sig.ps d 15))
noncomputable def impl_within.T (n_1 : Int) (low_2 : Int) (high_3 : Int) : Option ((Bool × Unit) × (Unit)) :=
  if (decide (n_1 ≥ low_2)) = true then
    some ((decide (n_1 ≤ high_3), ()), ())
  else
    some ((false, ()), ())
theorem impl_within.run (k : Nat) (n_1 : Int) (low_2 : Int) (high_3 : Int) : runFn impl_within.cfg impl_within.fin impl_within.code (initSt impl_within.sig.ps (n_1, low_2, high_3, ()) 15) k = impl_within.T n_1 low_2 high_3 := by kernel_rfl
theorem impl_within.eq (n_1 : Int) (low_2 : Int) (high_3 : Int) : impl_within.F (n_1, low_2, high_3, ()) = impl_within.T n_1 low_2 high_3 := (congrArg anyK (funext fun k => impl_within.run k n_1 low_2 high_3)).trans (anyK_const _)
theorem impl_within.ok : CtxOK Go.Proofs.Tryz.prog impl_within.ctx := ⟨List.forall_mem_nil _, mixed_ok, tab_ok tab_good, List.forall_mem_nil _, List.forall_mem_nil _, List.forall_mem_nil _⟩
theorem impl_within.S : Sound Go.Proofs.Tryz.prog ⟨100, impl_within.sig, impl_within.F⟩ := sound_any (fn := Go.Proofs.Tryz.f100) (code := impl_within.code) (g := impl_within.cfg) (res := [.tmp 6]) Go.Proofs.Tryz.func100 (by kernel_rfl) (by kernel_rfl) impl_within.ok (by kernel_rfl) (by kernel_rfl) (Nat.le_of_ble_eq_true (by kernel_rfl)) (by kernel_rfl)
/-! ### impl_isVertex -/
noncomputable def impl_isVertex.sig : Sig := ⟨[.val false (.int .i64)], [(.val false, .bool, .deep)]⟩
noncomputable def impl_isVertex.ctx : Ctx := ⟨tabOf tabl, [⟨100, impl_within.sig, impl_within.F⟩], [], [], [], []⟩
noncomputable def impl_isVertex.cfg : Cfg := ⟨impl_isVertex.ctx, [], [], fun _ => ([], []), fun _ => []⟩
noncomputable def impl_isVertex.code : Code := (Go.Proofs.Tryz.f119).body.getD .skip
noncomputable def impl_isVertex.fin := finK impl_isVertex.ctx impl_isVertex.sig [.tmp 2]
noncomputable def impl_isVertex.F (d : Int × Unit) : Option ((Bool × Unit) × (Unit)) := anyK (runFn impl_isVertex.cfg impl_isVertex.fin impl_isVertex.code (initSt impl_isVertex.sig.ps d 5))
noncomputable def impl_isVertex.T (v_1 : Int) : Option ((Bool × Unit) × (Unit)) :=
  (impl_within.F (v_1, (0 : Int), (9 : Int), ())).bind fun r2 =>
    some (((r2.1.1 : Bool), ()), ())
theorem impl_isVertex.run (k : Nat) (v_1 : Int) : runFn impl_isVertex.cfg impl_isVertex.fin impl_isVertex.code (initSt impl_isVertex.sig.ps (v_1, ()) 5) k = impl_isVertex.T v_1 := by kernel_rfl
theorem impl_isVertex.eq (v_1 : Int) : impl_isVertex.F (v_1, ()) = impl_isVertex.T v_1 := (congrArg anyK (funext fun k => impl_isVertex.run k v_1)).trans (anyK_const _)
theorem impl_isVertex.ok : CtxOK Go.Proofs.Tryz.prog impl_isVertex.ctx := ⟨List.forall_mem_nil _, mixed_ok, tab_ok tab_good, List.forall_mem_cons.2 ⟨impl_within.S, List.forall_mem_nil _⟩, List.forall_mem_nil _, List.forall_mem_nil _⟩
theorem impl_isVertex.S : Sound Go.Proofs.Tryz.prog ⟨119, impl_isVertex.sig, impl_isVertex.F⟩ := sound_any (fn := Go.Proofs.Tryz.f119) (code := impl_isVertex.code) (g := impl_isVertex.cfg) (res := [.tmp 2]) Go.Proofs.Tryz.func119 (by kernel_rfl) (by kernel_rfl) impl_isVertex.ok (by kernel_rfl) (by kernel_rfl) (Nat.le_of_ble_eq_true (by kernel_rfl)) (by kernel_rfl)
/-! ### impl_ValidSimplex_1 -/
noncomputable def impl_ValidSimplex_1.sig : Sig := ⟨[.val false (.int .i64)], [(.val false, .bool, .deep)]⟩
noncomputable def impl_ValidSimplex_1.ctx : Ctx := ⟨tabOf tabl, [⟨119, impl_isVertex.sig, impl_isVertex.F⟩], [], [], [], []⟩
noncomputable def impl_ValidSimplex_1.cfg : Cfg := ⟨impl_ValidSimplex_1.ctx, [], [], fun _ => ([], []), fun _ => []⟩
noncomputable def impl_ValidSimplex_1.code : Code := (Go.Proofs.Tryz.f118).body.getD .skip
noncomputable def impl_ValidSimplex_1.fin := finK impl_ValidSimplex_1.ctx impl_ValidSimplex_1.sig [.tmp 2]
noncomputable def impl_ValidSimplex_1.F (d : Int × Unit) : Option ((Bool × Unit) × (Unit)) := anyK (runFn impl_ValidSimplex_1.cfg impl_ValidSimplex_1.fin impl_ValidSimplex_1.code (initSt impl_ValidSimplex_1.sig.ps d 6))
noncomputable def impl_ValidSimplex_1.T (v_1 : Int) : Option ((Bool × Unit) × (Unit)) :=
  (impl_isVertex.F (v_1, ())).bind fun r2 =>
    some ((!(r2.1.1 : Bool), ()), ())
theorem impl_ValidSimplex_1.run (k : Nat) (v_1 : Int) : runFn impl_ValidSimplex_1.cfg impl_ValidSimplex_1.fin impl_ValidSimplex_1.code (initSt impl_ValidSimplex_1.sig.ps (v_1, ()) 6) k = impl_ValidSimplex_1.T v_1 := by kernel_rfl
theorem impl_ValidSimplex_1.eq (v_1 : Int) : impl_ValidSimplex_1.F (v_1, ()) = impl_ValidSimplex_1.T v_1 := (congrArg anyK (funext fun k => impl_ValidSimplex_1.run k v_1)).trans (anyK_const _)
theorem impl_ValidSimplex_1.ok : CtxOK Go.Proofs.Tryz.prog impl_ValidSimplex_1.ctx := ⟨List.forall_mem_nil _, mixed_ok, tab_ok tab_good, List.forall_mem_cons.2 ⟨impl_isVertex.S, List.forall_mem_nil _⟩, List.forall_mem_nil _, List.forall_mem_nil _⟩
theorem impl_ValidSimplex_1.S : Sound Go.Proofs.Tryz.prog ⟨118, impl_ValidSimplex_1.sig, impl_ValidSimplex_1.F⟩ := sound_any (fn := Go.Proofs.Tryz.f118) (code := impl_ValidSimplex_1.code) (g := impl_ValidSimplex_1.cfg) (res := [.tmp 2]) Go.Proofs.Tryz.func118 (by kernel_rfl) (by kernel_rfl) impl_ValidSimplex_1.ok (by kernel_rfl) (by kernel_rfl) (Nat.le_of_ble_eq_true (by kernel_rfl)) (by kernel_rfl)
noncomputable def impl_ValidSimplex_1.cloG (y : Unit) (d : Int × Unit) : Option (Bool × Unit) := (impl_ValidSimplex_1.F (joinIns [] [(false, (.int .i64))] d y)).map (·.1)
noncomputable def impl_ValidSimplex_1.clo : Clo := ⟨118, ⟨[(false, (.int .i64))], [(.val false, .bool, .deep)]⟩, [], impl_ValidSimplex_1.cloG⟩
theorem impl_ValidSimplex_1.cloS : SoundClo Go.Proofs.Tryz.prog impl_ValidSimplex_1.clo := sound_clo (s := ⟨[(false, (.int .i64))], [(.val false, .bool, .deep)]⟩) (caps := []) rfl impl_ValidSimplex_1.S
/-! ### impl_ValidSimplex -/
noncomputable def impl_ValidSimplex.sig : Sig := ⟨[.val false (.sl (.int .i64))], [(.val false, .bool, .deep)]⟩
noncomputable def impl_ValidSimplex.ctx : Ctx := ⟨tabOf tabl, [⟨101, slices_ContainsFunc_Lint64_int64.sig, slices_ContainsFunc_Lint64_int64.F⟩, ⟨117, impl_isRising.sig, impl_isRising.F⟩], [impl_ValidSimplex_1.clo], [], [], []⟩
noncomputable def impl_ValidSimplex.cfg : Cfg := ⟨impl_ValidSimplex.ctx, [], [], fun _ => ([], []), fun _ => []⟩
noncomputable def impl_ValidSimplex.code : Code := (Go.Proofs.Tryz.f94).body.getD .skip
noncomputable def impl_ValidSimplex.fin := finK impl_ValidSimplex.ctx impl_ValidSimplex.sig [.tmp 2]
noncomputable def impl_ValidSimplex.F (d : List Int × Unit) : Option ((Bool × Unit) × (Unit)) := anyK (runFn impl_ValidSimplex.cfg impl_ValidSimplex.fin impl_ValidSimplex.code (initSt impl_ValidSimplex.sig.ps d 20))
noncomputable def impl_ValidSimplex.T (s_1 : List Int) : Option ((Bool × Unit) × (Unit)) :=
  if (decide ((s_1.length : Int) ≥ (1 : Int))) = true then
    if (decide ((s_1.length : Int) ≤ (4 : Int))) = true then
      (impl_isRising.F (s_1, ())).bind fun r2 =>
        if (r2.1.1 : Bool) = true then
          (slices_ContainsFunc_Lint64_int64.F (s_1, impl_ValidSimplex_1.cloG (()), ())).bind fun r3 =>
            some ((!(r3.1.1 : Bool), ()), ())
        else
          some ((false, ()), ())
    else
      some ((false, ()), ())
  else
    some ((false, ()), ())
theorem impl_ValidSimplex.run (k : Nat) (s_1 : List Int) : runFn impl_ValidSimplex.cfg impl_ValidSimplex.fin impl_ValidSimplex.code (initSt impl_ValidSimplex.sig.ps (s_1, ()) 20) k = impl_ValidSimplex.T s_1 := by kernel_rfl
theorem impl_ValidSimplex.eq (s_1 : List Int) : impl_ValidSimplex.F (s_1, ()) = impl_ValidSimplex.T s_1 := (congrArg anyK (funext fun k => impl_ValidSimplex.run k s_1)).trans (anyK_const _)
theorem impl_ValidSimplex.ok : CtxOK Go.Proofs.Tryz.prog impl_ValidSimplex.ctx := ⟨List.forall_mem_nil _, mixed_ok, tab_ok tab_good, List.forall_mem_cons.2 ⟨slices_ContainsFunc_Lint64_int64.S, List.forall_mem_cons.2 ⟨impl_isRising.S, List.forall_mem_nil _⟩⟩, List.forall_mem_cons.2 ⟨impl_ValidSimplex_1.cloS, List.forall_mem_nil _⟩, List.forall_mem_nil _⟩
theorem impl_ValidSimplex.S : Sound Go.Proofs.Tryz.prog ⟨94, impl_ValidSimplex.sig, impl_ValidSimplex.F⟩ := sound_any (fn := Go.Proofs.Tryz.f94) (code := impl_ValidSimplex.code) (g := impl_ValidSimplex.cfg) (res := [.tmp 2]) Go.Proofs.Tryz.func94 (by kernel_rfl) (by kernel_rfl) impl_ValidSimplex.ok (by kernel_rfl) (by kernel_rfl) (Nat.le_of_ble_eq_true (by kernel_rfl)) (by kernel_rfl)
/-! ### cmp_Or_int -/
noncomputable def cmp_Or_int.sig : Sig := ⟨[.val false (.sl (.int .i64))], [(.val false, (.int .i64), .deep)]⟩
noncomputable def cmp_Or_int.ctx : Ctx := ⟨tabOf tabl, [], [], [], [], []⟩
noncomputable def cmp_Or_int.cfg : Cfg := ⟨cmp_Or_int.ctx, [], [], fun id => match id with | 3 => ([3, 6, 7, 8], []) | _ => ([], []), fun _ => []⟩
noncomputable def cmp_Or_int.code : Code := (Go.Proofs.Tryz.f120).body.getD .skip
noncomputable def cmp_Or_int.fin := finK cmp_Or_int.ctx cmp_Or_int.sig [.tmp 2]
noncomputable def cmp_Or_int.F (d : List Int × Unit) : Option ((Int × Unit) × (Unit)) := anyK (runFn cmp_Or_int.cfg cmp_Or_int.fin cmp_Or_int.code (initSt cmp_Or_int.sig.ps d 18))
noncomputable def cmp_Or_int.l3 (k : Nat) (i2 : Int) (x3 : List Int) (i4 : Int) (i5 : Int) : Option ((Int × Unit) × (Unit)) :=
  Go.Vm.runT cmp_Or_int.cfg cmp_Or_int.fin k [.inLoop (sub [1, 1, 0, 1, 0, 0] cmp_Or_int.code), .inBlock 0, .code (sub [1, 1, 1] cmp_Or_int.code)]
    ⟨[.dead, .dead, .dead, .val false [⟨(.int .i64), .sh, i2⟩], .dead, .dead, .val false [⟨(.sl (.int .i64)), .sh, x3⟩], .val false [⟨(.int .i64), .sh, i4⟩], .val false [⟨(.int .i64), .sh, i5⟩]] ++ deads 9, []⟩
theorem cmp_Or_int.l3_eq (k : Nat) (i2 : Int) (x3 : List Int) (i4 : Int) (i5 : Int) : cmp_Or_int.l3 (k + 1) i2 x3 i4 i5 =
  if (decide (i5 < i4)) = true then
    if 0 ≤ i5 ∧ i5 < (x3.length : Int) then
      if ((x3.getD i5.toNat 0 : Int) != i2) = true then
        some (((x3.getD i5.toNat 0 : Int), ()), ())
      else
        cmp_Or_int.l3 k i2 x3 i4 (IntKind.i64.wrap (i5 + (1 : Int)))
    else
      none
  else
    some ((i2, ()), ()) := by kernel_rfl
noncomputable def cmp_Or_int.T (k : Nat) (vals_1 : List Int) : Option ((Int × Unit) × (Unit)) :=
  cmp_Or_int.l3 k (0 : Int) vals_1 (vals_1.length : Int) (0 : Int)
theorem cmp_Or_int.run (k : Nat) (vals_1 : List Int) : runFn cmp_Or_int.cfg cmp_Or_int.fin cmp_Or_int.code (initSt cmp_Or_int.sig.ps (vals_1, ()) 18) k = cmp_Or_int.T k vals_1 := by kernel_rfl
theorem cmp_Or_int.of (vals_1 : List Int) {r : (Int × Unit) × (Unit)} (h : Ev (fun k => cmp_Or_int.T k vals_1) r) : cmp_Or_int.F (vals_1, ()) = some r := Ev.run (fun k => cmp_Or_int.run k vals_1) h
theorem cmp_Or_int.ok : CtxOK Go.Proofs.Tryz.prog cmp_Or_int.ctx := ⟨List.forall_mem_nil _, mixed_ok, tab_ok tab_good, List.forall_mem_nil _, List.forall_mem_nil _, List.forall_mem_nil _⟩
theorem cmp_Or_int.S : Sound Go.Proofs.Tryz.prog ⟨120, cmp_Or_int.sig, cmp_Or_int.F⟩ := sound_any (fn := Go.Proofs.Tryz.f120) (code := cmp_Or_int.code) (g := cmp_Or_int.cfg) (res := [.tmp 2]) Go.Proofs.Tryz.func120 (by kernel_rfl) (by kernel_rfl) cmp_Or_int.ok (by kernel_rfl) (by kernel_rfl) (Nat.le_of_ble_eq_true (by kernel_rfl)) (by kernel_rfl)
/-! ### cmp_isNaN_int -/
noncomputable def cmp_isNaN_int.sig : Sig := ⟨[.val false (.int .i64)], [(.val false, .bool, .deep)]⟩
noncomputable def cmp_isNaN_int.ctx : Ctx := ⟨tabOf tabl, [], [], [], [], []⟩
noncomputable def cmp_isNaN_int.cfg : Cfg := ⟨cmp_isNaN_int.ctx, [], [], fun _ => ([], []), fun _ => []⟩
noncomputable def cmp_isNaN_int.code : Code := (Go.Proofs.Tryz.f132).body.getD .skip
noncomputable def cmp_isNaN_int.fin := finK cmp_isNaN_int.ctx cmp_isNaN_int.sig [.tmp 2]
noncomputable def cmp_isNaN_int.F (d : Int × Unit) : Option ((Bool × Unit) × (Unit)) := anyK (runFn cmp_isNaN_int.cfg cmp_isNaN_int.fin cmp_isNaN_int.code (initSt cmp_isNaN_int.sig.ps d 6))
noncomputable def cmp_isNaN_int.T (x_1 : Int) : Option ((Bool × Unit) × (Unit)) :=
  some ((x_1 != x_1, ()), ())
theorem cmp_isNaN_int.run (k : Nat) (x_1 : Int) : runFn cmp_isNaN_int.cfg cmp_isNaN_int.fin cmp_isNaN_int.code (initSt cmp_isNaN_int.sig.ps (x_1, ()) 6) k = cmp_isNaN_int.T x_1 := by kernel_rfl
theorem cmp_isNaN_int.eq (x_1 : Int) : cmp_isNaN_int.F (x_1, ()) = cmp_isNaN_int.T x_1 := (congrArg anyK (funext fun k => cmp_isNaN_int.run k x_1)).trans (anyK_const _)
theorem cmp_isNaN_int.ok : CtxOK Go.Proofs.Tryz.prog cmp_isNaN_int.ctx := ⟨List.forall_mem_nil _, mixed_ok, tab_ok tab_good, List.forall_mem_nil _, List.forall_mem_nil _, List.forall_mem_nil _⟩
theorem cmp_isNaN_int.S : Sound Go.Proofs.Tryz.prog ⟨132, cmp_isNaN_int.sig, cmp_isNaN_int.F⟩ := sound_any (fn := Go.Proofs.Tryz.f132) (code := cmp_isNaN_int.code) (g := cmp_isNaN_int.cfg) (res := [.tmp 2]) Go.Proofs.Tryz.func132 (by kernel_rfl) (by kernel_rfl) cmp_isNaN_int.ok (by kernel_rfl) (by kernel_rfl) (Nat.le_of_ble_eq_true (by kernel_rfl)) (by kernel_rfl)
/-! ### cmp_Compare_int -/
noncomputable def cmp_Compare_int.sig : Sig := ⟨[.val false (.int .i64), .val false (.int .i64)], [(.val false, (.int .i64), .deep)]⟩
noncomputable def cmp_Compare_int.ctx : Ctx := ⟨tabOf tabl, [⟨132, cmp_isNaN_int.sig, cmp_isNaN_int.F⟩], [], [], [], []⟩
noncomputable def cmp_Compare_int.cfg : Cfg := ⟨cmp_Compare_int.ctx, [], [], fun _ => ([], []), fun _ => []⟩
noncomputable def cmp_Compare_int.code : Code := (Go.Proofs.Tryz.f121).body.getD .skip
noncomputable def cmp_Compare_int.fin := finK cmp_Compare_int.ctx cmp_Compare_int.sig [.tmp 4]
noncomputable def cmp_Compare_int.F (d : Int × Int × Unit) : Option ((Int × Unit) × (Unit)) := anyK (runFn cmp_Compare_int.cfg cmp_Compare_int.fin cmp_Compare_int.code (initSt cmp_Compare_int.sig.ps d 20))
noncomputable def cmp_Compare_int.T (x_1 : Int) (y_2 : Int) : Option ((Int × Unit) × (Unit)) :=
  (cmp_isNaN_int.F (x_1, ())).bind fun r3 =>
    (cmp_isNaN_int.F (y_2, ())).bind fun r4 =>
      if (r3.1.1 : Bool) = true then
        if (r4.1.1 : Bool) = true then
          some (((0 : Int), ()), ())
        else
          some (((-1 : Int), ()), ())
      else
        if (r4.1.1 : Bool) = true then
          some (((1 : Int), ()), ())
        else
          if (decide (x_1 < y_2)) = true then
            some (((-1 : Int), ()), ())
          else
            if (decide (x_1 > y_2)) = true then
              some (((1 : Int), ()), ())
            else
              some (((0 : Int), ()), ())
theorem cmp_Compare_int.run (k : Nat) (x_1 : Int) (y_2 : Int) : runFn cmp_Compare_int.cfg cmp_Compare_int.fin cmp_Compare_int.code (initSt cmp_Compare_int.sig.ps (x_1, y_2, ()) 20) k = cmp_Compare_int.T x_1 y_2 := by kernel_rfl
theorem cmp_Compare_int.eq (x_1 : Int) (y_2 : Int) : cmp_Compare_int.F (x_1, y_2, ()) = cmp_Compare_int.T x_1 y_2 := (congrArg anyK (funext fun k => cmp_Compare_int.run k x_1 y_2)).trans (anyK_const _)
theorem cmp_Compare_int.ok : CtxOK Go.Proofs.Tryz.prog cmp_Compare_int.ctx := ⟨List.forall_mem_nil _, mixed_ok, tab_ok tab_good, List.forall_mem_cons.2 ⟨cmp_isNaN_int.S, List.forall_mem_nil _⟩, List.forall_mem_nil _, List.forall_mem_nil _⟩
theorem cmp_Compare_int.S : Sound Go.Proofs.Tryz.prog ⟨121, cmp_Compare_int.sig, cmp_Compare_int.F⟩ := sound_any (fn := Go.Proofs.Tryz.f121) (code := cmp_Compare_int.code) (g := cmp_Compare_int.cfg) (res := [.tmp 4]) Go.Proofs.Tryz.func121 (by kernel_rfl) (by kernel_rfl) cmp_Compare_int.ok (by kernel_rfl) (by kernel_rfl) (Nat.le_of_ble_eq_true (by kernel_rfl)) (by kernel_rfl)
/-! ### cmp_isNaN_int64 -/
noncomputable def cmp_isNaN_int64.sig : Sig := ⟨[.val false (.int .i64)], [(.val false, .bool, .deep)]⟩
noncomputable def cmp_isNaN_int64.ctx : Ctx := ⟨tabOf tabl, [], [], [], [], []⟩
noncomputable def cmp_isNaN_int64.cfg : Cfg := ⟨cmp_isNaN_int64.ctx, [], [], fun _ => ([], []), fun _ => []⟩
noncomputable def cmp_isNaN_int64.code : Code := (Go.Proofs.Tryz.f140).body.getD .skip
noncomputable def cmp_isNaN_int64.fin := finK cmp_isNaN_int64.ctx cmp_isNaN_int64.sig [.tmp 2]
noncomputable def cmp_isNaN_int64.F (d : Int × Unit) : Option ((Bool × Unit) × (Unit)) := anyK (runFn cmp_isNaN_int64.cfg cmp_isNaN_int64.fin cmp_isNaN_int64.code (initSt cmp_isNaN_int64.sig.ps d 6))
noncomputable def cmp_isNaN_int64.T (x_1 : Int) : Option ((Bool × Unit) × (Unit)) :=
  some ((x_1 != x_1, ()), ())
theorem cmp_isNaN_int64.run (k : Nat) (x_1 : Int) : runFn cmp_isNaN_int64.cfg cmp_isNaN_int64.fin cmp_isNaN_int64.code (initSt cmp_isNaN_int64.sig.ps (x_1, ()) 6) k = cmp_isNaN_int64.T x_1 := by kernel_rfl
theorem cmp_isNaN_int64.eq (x_1 : Int) : cmp_isNaN_int64.F (x_1, ()) = cmp_isNaN_int64.T x_1 := (congrArg anyK (funext fun k => cmp_isNaN_int64.run k x_1)).trans (anyK_const _)
theorem cmp_isNaN_int64.ok : CtxOK Go.Proofs.Tryz.prog cmp_isNaN_int64.ctx := ⟨List.forall_mem_nil _, mixed_ok, tab_ok tab_good, List.forall_mem_nil _, List.forall_mem_nil _, List.forall_mem_nil _⟩
theorem cmp_isNaN_int64.S : Sound Go.Proofs.Tryz.prog ⟨140, cmp_isNaN_int64.sig, cmp_isNaN_int64.F⟩ := sound_any (fn := Go.Proofs.Tryz.f140) (code := cmp_isNaN_int64.code) (g := cmp_isNaN_int64.cfg) (res := [.tmp 2]) Go.Proofs.Tryz.func140 (by kernel_rfl) (by kernel_rfl) cmp_isNaN_int64.ok (by kernel_rfl) (by kernel_rfl) (Nat.le_of_ble_eq_true (by kernel_rfl)) (by kernel_rfl)
/-! ### cmp_Compare_int64 -/
noncomputable def cmp_Compare_int64.sig : Sig := ⟨[.val false (.int .i64), .val false (.int .i64)], [(.val false, (.int .i64), .deep)]⟩
noncomputable def cmp_Compare_int64.ctx : Ctx := ⟨tabOf tabl, [⟨140, cmp_isNaN_int64.sig, cmp_isNaN_int64.F⟩], [], [], [], []⟩
noncomputable def cmp_Compare_int64.cfg : Cfg := ⟨cmp_Compare_int64.ctx, [], [], fun _ => ([], []), fun _ => []⟩
noncomputable def cmp_Compare_int64.code : Code := (Go.Proofs.Tryz.f133).body.getD .skip
noncomputable def cmp_Compare_int64.fin := finK cmp_Compare_int64.ctx cmp_Compare_int64.sig [.tmp 4]
noncomputable def cmp_Compare_int64.F (d : Int × Int × Unit) : Option ((Int × Unit) × (Unit)) := anyK (runFn cmp_Compare_int64.cfg cmp_Compare_int64.fin cmp_Compare_int64.code (initSt cmp_Compare_int64.sig.ps d 20))
noncomputable def cmp_Compare_int64.T (x_1 : Int) (y_2 : Int) : Option ((Int × Unit) × (Unit)) :=
  (cmp_isNaN_int64.F (x_1, ())).bind fun r3 =>
    (cmp_isNaN_int64.F (y_2, ())).bind fun r4 =>
      if (r3.1.1 : Bool) = true then
        if (r4.1.1 : Bool) = true then
          some (((0 : Int), ()), ())
        else
          some (((-1 : Int), ()), ())
      else
        if (r4.1.1 : Bool) = true then
          some (((1 : Int), ()), ())
        else
          if (decide (x_1 < y_2)) = true then
            some (((-1 : Int), ()), ())
          else
            if (decide (x_1 > y_2)) = true then
              some (((1 : Int), ()), ())
            else
              some (((0 : Int), ()), ())
theorem cmp_Compare_int64.run (k : Nat) (x_1 : Int) (y_2 : Int) : runFn cmp_Compare_int64.cfg cmp_Compare_int64.fin cmp_Compare_int64.code (initSt cmp_Compare_int64.sig.ps (x_1, y_2, ()) 20) k = cmp_Compare_int64.T x_1 y_2 := by kernel_rfl
theorem cmp_Compare_int64.eq (x_1 : Int) (y_2 : Int) : cmp_Compare_int64.F (x_1, y_2, ()) = cmp_Compare_int64.T x_1 y_2 := (congrArg anyK (funext fun k => cmp_Compare_int64.run k x_1 y_2)).trans (anyK_const _)
theorem cmp_Compare_int64.ok : CtxOK Go.Proofs.Tryz.prog cmp_Compare_int64.ctx := ⟨List.forall_mem_nil _, mixed_ok, tab_ok tab_good, List.forall_mem_cons.2 ⟨cmp_isNaN_int64.S, List.forall_mem_nil _⟩, List.forall_mem_nil _, List.forall_mem_nil _⟩
theorem cmp_Compare_int64.S : Sound Go.Proofs.Tryz.prog ⟨133, cmp_Compare_int64.sig, cmp_Compare_int64.F⟩ := sound_any (fn := Go.Proofs.Tryz.f133) (code := cmp_Compare_int64.code) (g := cmp_Compare_int64.cfg) (res := [.tmp 4]) Go.Proofs.Tryz.func133 (by kernel_rfl) (by kernel_rfl) cmp_Compare_int64.ok (by kernel_rfl) (by kernel_rfl) (Nat.le_of_ble_eq_true (by kernel_rfl)) (by kernel_rfl)
/-! ### slices_Compare_Lint64_int64 -/
noncomputable def slices_Compare_Lint64_int64.sig : Sig := ⟨[.val false (.sl (.int .i64)), .val false (.sl (.int .i64))], [(.val false, (.int .i64), .deep)]⟩
noncomputable def slices_Compare_Lint64_int64.ctx : Ctx := ⟨tabOf tabl, [⟨133, cmp_Compare_int64.sig, cmp_Compare_int64.F⟩], [], [], [], []⟩
noncomputable def slices_Compare_Lint64_int64.cfg : Cfg := ⟨slices_Compare_Lint64_int64.ctx, [], [], fun id => match id with | 2 => ([0, 1, 9, 10, 11], []) | _ => ([], []), fun _ => []⟩
noncomputable def slices_Compare_Lint64_int64.code : Code := (Go.Proofs.Tryz.f122).body.getD .skip
noncomputable def slices_Compare_Lint64_int64.fin := finK slices_Compare_Lint64_int64.ctx slices_Compare_Lint64_int64.sig [.tmp 4]
noncomputable def slices_Compare_Lint64_int64.F (d : List Int × List Int × Unit) : Option ((Int × Unit) × (Unit)) := anyK (runFn slices_Compare_Lint64_int64.cfg slices_Compare_Lint64_int64.fin slices_Compare_Lint64_int64.code (initSt slices_Compare_Lint64_int64.sig.ps d 36))
noncomputable def slices_Compare_Lint64_int64.l2 (k : Nat) (x3 : List Int) (x4 : List Int) (x5 : List Int) (i6 : Int) (i7 : Int) : Option ((Int × Unit) × (Unit)) :=
  Go.Vm.runT slices_Compare_Lint64_int64.cfg slices_Compare_Lint64_int64.fin k [.inLoop (sub [1, 0, 1, 0, 0] slices_Compare_Lint64_int64.code), .inBlock 0, .code (sub [1, 1] slices_Compare_Lint64_int64.code)]
    ⟨[.val false [⟨(.sl (.int .i64)), .sh, x3⟩], .val false [⟨(.sl (.int .i64)), .sh, x4⟩], .dead, .dead, .dead, .dead, .dead, .dead, .dead, .val false [⟨(.sl (.int .i64)), .sh, x5⟩], .val false [⟨(.int .i64), .sh, i6⟩], .val false [⟨(.int .i64), .sh, i7⟩]] ++ deads 24, []⟩
theorem slices_Compare_Lint64_int64.l2_eq (k : Nat) (x3 : List Int) (x4 : List Int) (x5 : List Int) (i6 : Int) (i7 : Int) : slices_Compare_Lint64_int64.l2 (k + 1) x3 x4 x5 i6 i7 =
  if (decide (i7 < i6)) = true then
    if 0 ≤ i7 ∧ i7 < (x5.length : Int) then
      if (decide (i7 ≥ (x4.length : Int))) = true then
        some (((1 : Int), ()), ())
      else
        if 0 ≤ i7 ∧ i7 < (x4.length : Int) then
          (cmp_Compare_int64.F ((x5.getD i7.toNat 0 : Int), (x4.getD i7.toNat 0 : Int), ())).bind fun r8 =>
            if ((r8.1.1 : Int) != (0 : Int)) = true then
              some (((r8.1.1 : Int), ()), ())
            else
              slices_Compare_Lint64_int64.l2 k x3 x4 x5 i6 (IntKind.i64.wrap (i7 + (1 : Int)))
        else
          none
    else
      none
  else
    if (decide ((x3.length : Int) < (x4.length : Int))) = true then
      some (((-1 : Int), ()), ())
    else
      some (((0 : Int), ()), ()) := by kernel_rfl
noncomputable def slices_Compare_Lint64_int64.T (k : Nat) (s1_1 : List Int) (s2_2 : List Int) : Option ((Int × Unit) × (Unit)) :=
  slices_Compare_Lint64_int64.l2 k s1_1 s2_2 s1_1 (s1_1.length : Int) (0 : Int)
theorem slices_Compare_Lint64_int64.run (k : Nat) (s1_1 : List Int) (s2_2 : List Int) : runFn slices_Compare_Lint64_int64.cfg slices_Compare_Lint64_int64.fin slices_Compare_Lint64_int64.code (initSt slices_Compare_Lint64_int64.sig.ps (s1_1, s2_2, ()) 36) k = slices_Compare_Lint64_int64.T k s1_1 s2_2 := by kernel_rfl
theorem slices_Compare_Lint64_int64.of (s1_1 : List Int) (s2_2 : List Int) {r : (Int × Unit) × (Unit)} (h : Ev (fun k => slices_Compare_Lint64_int64.T k s1_1 s2_2) r) : slices_Compare_Lint64_int64.F (s1_1, s2_2, ()) = some r := Ev.run (fun k => slices_Compare_Lint64_int64.run k s1_1 s2_2) h
theorem slices_Compare_Lint64_int64.ok : CtxOK Go.Proofs.Tryz.prog slices_Compare_Lint64_int64.ctx := ⟨List.forall_mem_nil _, mixed_ok, tab_ok tab_good, List.forall_mem_cons.2 ⟨cmp_Compare_int64.S, List.forall_mem_nil _⟩, List.forall_mem_nil _, List.forall_mem_nil _⟩
theorem slices_Compare_Lint64_int64.S : Sound Go.Proofs.Tryz.prog ⟨122, slices_Compare_Lint64_int64.sig, slices_Compare_Lint64_int64.F⟩ := sound_any (fn := Go.Proofs.Tryz.f122) (code := slices_Compare_Lint64_int64.code) (g := slices_Compare_Lint64_int64.cfg) (res := [.tmp 4]) Go.Proofs.Tryz.func122 (by kernel_rfl) (by kernel_rfl) slices_Compare_Lint64_int64.ok (by kernel_rfl) (by kernel_rfl) (Nat.le_of_ble_eq_true (by kernel_rfl)) (by kernel_rfl)
/-! ### impl_compareSimplices -/
noncomputable def impl_compareSimplices.sig : Sig := ⟨[.val false (.sl (.int .i64)), .val false (.sl (.int .i64))], [(.val false, (.int .i64), .deep)]⟩
noncomputable def impl_compareSimplices.ctx : Ctx := ⟨tabOf tabl, [⟨120, cmp_Or_int.sig, cmp_Or_int.F⟩, ⟨121, cmp_Compare_int.sig, cmp_Compare_int.F⟩, ⟨122, slices_Compare_Lint64_int64.sig, slices_Compare_Lint64_int64.F⟩], [], [], [], []⟩
noncomputable def impl_compareSimplices.cfg : Cfg := ⟨impl_compareSimplices.ctx, [], [], fun _ => ([], []), fun _ => []⟩
noncomputable def impl_compareSimplices.code : Code := (Go.Proofs.Tryz.f95).body.getD .skip
noncomputable def impl_compareSimplices.fin := finK impl_compareSimplices.ctx impl_compareSimplices.sig [.tmp 4]
noncomputable def impl_compareSimplices.F (d : List Int × List Int × Unit) : Option ((Int × Unit) × (Unit)) := anyK (runFn impl_compareSimplices.cfg impl_compareSimplices.fin impl_compareSimplices.code (initSt impl_compareSimplices.sig.ps d 15))
noncomputable def impl_compareSimplices.T (a_1 : List Int) (b_2 : List Int) : Option ((Int × Unit) × (Unit)) :=
  (cmp_Compare_int.F ((a_1.length : Int), (b_2.length : Int), ())).bind fun r3 =>
    (slices_Compare_Lint64_int64.F (a_1, b_2, ())).bind fun r4 =>
      (cmp_Or_int.F ([(r3.1.1 : Int), (r4.1.1 : Int)], ())).bind fun r5 =>
        some (((r5.1.1 : Int), ()), ())
theorem impl_compareSimplices.run (k : Nat) (a_1 : List Int) (b_2 : List Int) : runFn impl_compareSimplices.cfg impl_compareSimplices.fin impl_compareSimplices.code (initSt impl_compareSimplices.sig.ps (a_1, b_2, ()) 15) k = impl_compareSimplices.T a_1 b_2 := by kernel_rfl
theorem impl_compareSimplices.eq (a_1 : List Int) (b_2 : List Int) : impl_compareSimplices.F (a_1, b_2, ()) = impl_compareSimplices.T a_1 b_2 := (congrArg anyK (funext fun k => impl_compareSimplices.run k a_1 b_2)).trans (anyK_const _)
theorem impl_compareSimplices.ok : CtxOK Go.Proofs.Tryz.prog impl_compareSimplices.ctx := ⟨List.forall_mem_nil _, mixed_ok, tab_ok tab_good, List.forall_mem_cons.2 ⟨cmp_Or_int.S, List.forall_mem_cons.2 ⟨cmp_Compare_int.S, List.forall_mem_cons.2 ⟨slices_Compare_Lint64_int64.S, List.forall_mem_nil _⟩⟩⟩, List.forall_mem_nil _, List.forall_mem_nil _⟩
theorem impl_compareSimplices.S : Sound Go.Proofs.Tryz.prog ⟨95, impl_compareSimplices.sig, impl_compareSimplices.F⟩ := sound_any (fn := Go.Proofs.Tryz.f95) (code := impl_compareSimplices.code) (g := impl_compareSimplices.cfg) (res := [.tmp 4]) Go.Proofs.Tryz.func95 (by kernel_rfl) (by kernel_rfl) impl_compareSimplices.ok (by kernel_rfl) (by kernel_rfl) (Nat.le_of_ble_eq_true (by kernel_rfl)) (by kernel_rfl)
noncomputable def impl_compareSimplices.cloG (y : Unit) (d : List Int × List Int × Unit) : Option (Int × Unit) := (impl_compareSimplices.F (joinIns [] [(false, (.sl (.int .i64))), (false, (.sl (.int .i64)))] d y)).map (·.1)
noncomputable def impl_compareSimplices.clo : Clo := ⟨95, ⟨[(false, (.sl (.int .i64))), (false, (.sl (.int .i64)))], [(.val false, (.int .i64), .deep)]⟩, [], impl_compareSimplices.cloG⟩
theorem impl_compareSimplices.cloS : SoundClo Go.Proofs.Tryz.prog impl_compareSimplices.clo := sound_clo (s := ⟨[(false, (.sl (.int .i64))), (false, (.sl (.int .i64)))], [(.val false, (.int .i64), .deep)]⟩) (caps := []) rfl impl_compareSimplices.S
/-! ### slices_IndexFunc_LLint64_Lint64 -/
noncomputable def slices_IndexFunc_LLint64_Lint64.sig : Sig := ⟨[.val false (.sl (.sl (.int .i64))), .fnx ⟨[(false, (.sl (.int .i64)))], [(.val false, .bool, .deep)]⟩], [(.val false, (.int .i64), .deep)]⟩
noncomputable def slices_IndexFunc_LLint64_Lint64.ctx : Ctx := ⟨tabOf tabl, [], [], [], [], []⟩
noncomputable def slices_IndexFunc_LLint64_Lint64.cfg : Cfg := ⟨slices_IndexFunc_LLint64_Lint64.ctx, [], [], fun id => match id with | 2 => ([0, 1, 7, 8], []) | _ => ([], []), fun _ => []⟩
noncomputable def slices_IndexFunc_LLint64_Lint64.code : Code := (Go.Proofs.Tryz.f123).body.getD .skip
noncomputable def slices_IndexFunc_LLint64_Lint64.fin := finK slices_IndexFunc_LLint64_Lint64.ctx slices_IndexFunc_LLint64_Lint64.sig [.tmp 4]
noncomputable def slices_IndexFunc_LLint64_Lint64.F (d : List (List Int) × ((List Int × Unit) → Option (Bool × Unit)) × Unit) : Option ((Int × Unit) × (Unit)) := anyK (runFn slices_IndexFunc_LLint64_Lint64.cfg slices_IndexFunc_LLint64_Lint64.fin slices_IndexFunc_LLint64_Lint64.code (initSt slices_IndexFunc_LLint64_Lint64.sig.ps d 19))
noncomputable def slices_IndexFunc_LLint64_Lint64.l2 (k : Nat) (x3 : List (List Int)) (f4 : (List Int × Unit) → Option (Bool × Unit)) (i5 : Int) (i6 : Int) : Option ((Int × Unit) × (Unit)) :=
  Go.Vm.runT slices_IndexFunc_LLint64_Lint64.cfg slices_IndexFunc_LLint64_Lint64.fin k [.inLoop (sub [1, 0, 1, 0, 0] slices_IndexFunc_LLint64_Lint64.code), .inBlock 0, .code (sub [1, 1] slices_IndexFunc_LLint64_Lint64.code)]
    ⟨[.val false [⟨(.sl (.sl (.int .i64))), .sh, x3⟩], .fnx ⟨[(false, (.sl (.int .i64)))], [(.val false, .bool, .deep)]⟩ f4, .dead, .dead, .dead, .dead, .dead, .val false [⟨(.int .i64), .sh, i5⟩], .val false [⟨(.int .i64), .sh, i6⟩]] ++ deads 10, []⟩
theorem slices_IndexFunc_LLint64_Lint64.l2_eq (k : Nat) (x3 : List (List Int)) (f4 : (List Int × Unit) → Option (Bool × Unit)) (i5 : Int) (i6 : Int) : slices_IndexFunc_LLint64_Lint64.l2 (k + 1) x3 f4 i5 i6 =
  if (decide (i6 < i5)) = true then
    if 0 ≤ i6 ∧ i6 < (x3.length : Int) then
      (f4 (x3.getD i6.toNat ([] : List Int), ())).bind fun r7 =>
        if (r7.1 : Bool) = true then
          some ((i6, ()), ())
        else
          slices_IndexFunc_LLint64_Lint64.l2 k x3 f4 i5 (IntKind.i64.wrap (i6 + (1 : Int)))
    else
      none
  else
    some (((-1 : Int), ()), ()) := by kernel_rfl
noncomputable def slices_IndexFunc_LLint64_Lint64.T (k : Nat) (s_1 : List (List Int)) (f_2 : (List Int × Unit) → Option (Bool × Unit)) : Option ((Int × Unit) × (Unit)) :=
  slices_IndexFunc_LLint64_Lint64.l2 k s_1 f_2 (s_1.length : Int) (0 : Int)
theorem slices_IndexFunc_LLint64_Lint64.run (k : Nat) (s_1 : List (List Int)) (f_2 : (List Int × Unit) → Option (Bool × Unit)) : runFn slices_IndexFunc_LLint64_Lint64.cfg slices_IndexFunc_LLint64_Lint64.fin slices_IndexFunc_LLint64_Lint64.code (initSt slices_IndexFunc_LLint64_Lint64.sig.ps (s_1, f_2, ()) 19) k = slices_IndexFunc_LLint64_Lint64.T k s_1 f_2 := by kernel_rfl
theorem slices_IndexFunc_LLint64_Lint64.of (s_1 : List (List Int)) (f_2 : (List Int × Unit) → Option (Bool × Unit)) {r : (Int × Unit) × (Unit)} (h : Ev (fun k => slices_IndexFunc_LLint64_Lint64.T k s_1 f_2) r) : slices_IndexFunc_LLint64_Lint64.F (s_1, f_2, ()) = some r := Ev.run (fun k => slices_IndexFunc_LLint64_Lint64.run k s_1 f_2) h
theorem slices_IndexFunc_LLint64_Lint64.ok : CtxOK Go.Proofs.Tryz.prog slices_IndexFunc_LLint64_Lint64.ctx := ⟨List.forall_mem_nil _, mixed_ok, tab_ok tab_good, List.forall_mem_nil _, List.forall_mem_nil _, List.forall_mem_nil _⟩
theorem slices_IndexFunc_LLint64_Lint64.S : Sound Go.Proofs.Tryz.prog ⟨123, slices_IndexFunc_LLint64_Lint64.sig, slices_IndexFunc_LLint64_Lint64.F⟩ := sound_any (fn := Go.Proofs.Tryz.f123) (code := slices_IndexFunc_LLint64_Lint64.code) (g := slices_IndexFunc_LLint64_Lint64.cfg) (res := [.tmp 4]) Go.Proofs.Tryz.func123 (by kernel_rfl) (by kernel_rfl) slices_IndexFunc_LLint64_Lint64.ok (by kernel_rfl) (by kernel_rfl) (Nat.le_of_ble_eq_true (by kernel_rfl)) (by kernel_rfl)
/-! ### slices_ContainsFunc_LLint64_Lint64 -/
noncomputable def slices_ContainsFunc_LLint64_Lint64.sig : Sig := ⟨[.val false (.sl (.sl (.int .i64))), .fnx ⟨[(false, (.sl (.int .i64)))], [(.val false, .bool, .deep)]⟩], [(.val false, .bool, .deep)]⟩
noncomputable def slices_ContainsFunc_LLint64_Lint64.ctx : Ctx := ⟨tabOf tabl, [⟨123, slices_IndexFunc_LLint64_Lint64.sig, slices_IndexFunc_LLint64_Lint64.F⟩], [], [], [], []⟩
noncomputable def slices_ContainsFunc_LLint64_Lint64.cfg : Cfg := ⟨slices_ContainsFunc_LLint64_Lint64.ctx, [], [], fun _ => ([], []), fun _ => []⟩
noncomputable def slices_ContainsFunc_LLint64_Lint64.code : Code := (Go.Proofs.Tryz.f96).body.getD .skip
noncomputable def slices_ContainsFunc_LLint64_Lint64.fin := finK slices_ContainsFunc_LLint64_Lint64.ctx slices_ContainsFunc_LLint64_Lint64.sig [.tmp 4]
noncomputable def slices_ContainsFunc_LLint64_Lint64.F (d : List (List Int) × ((List Int × Unit) → Option (Bool × Unit)) × Unit) : Option ((Bool × Unit) × (Unit)) := anyK (runFn slices_ContainsFunc_LLint64_Lint64.cfg slices_ContainsFunc_LLint64_Lint64.fin slices_ContainsFunc_LLint64_Lint64.code (initSt slices_ContainsFunc_LLint64_Lint64.sig.ps d 9))
noncomputable def slices_ContainsFunc_LLint64_Lint64.T (s_1 : List (List Int)) (f_2 : (List Int × Unit) → Option (Bool × Unit)) : Option ((Bool × Unit) × (Unit)) :=
  (slices_IndexFunc_LLint64_Lint64.F (s_1, f_2, ())).bind fun r3 =>
    some ((decide ((r3.1.1 : Int) ≥ (0 : Int)), ()), ())
theorem slices_ContainsFunc_LLint64_Lint64.run (k : Nat) (s_1 : List (List Int)) (f_2 : (List Int × Unit) → Option (Bool × Unit)) : runFn slices_ContainsFunc_LLint64_Lint64.cfg slices_ContainsFunc_LLint64_Lint64.fin slices_ContainsFunc_LLint64_Lint64.code (initSt slices_ContainsFunc_LLint64_Lint64.sig.ps (s_1, f_2, ()) 9) k = slices_ContainsFunc_LLint64_Lint64.T s_1 f_2 := by kernel_rfl
theorem slices_ContainsFunc_LLint64_Lint64.eq (s_1 : List (List Int)) (f_2 : (List Int × Unit) → Option (Bool × Unit)) : slices_ContainsFunc_LLint64_Lint64.F (s_1, f_2, ()) = slices_ContainsFunc_LLint64_Lint64.T s_1 f_2 := (congrArg anyK (funext fun k => slices_ContainsFunc_LLint64_Lint64.run k s_1 f_2)).trans (anyK_const _)
theorem slices_ContainsFunc_LLint64_Lint64.ok : CtxOK Go.Proofs.Tryz.prog slices_ContainsFunc_LLint64_Lint64.ctx := ⟨List.forall_mem_nil _, mixed_ok, tab_ok tab_good, List.forall_mem_cons.2 ⟨slices_IndexFunc_LLint64_Lint64.S, List.forall_mem_nil _⟩, List.forall_mem_nil _, List.forall_mem_nil _⟩
theorem slices_ContainsFunc_LLint64_Lint64.S : Sound Go.Proofs.Tryz.prog ⟨96, slices_ContainsFunc_LLint64_Lint64.sig, slices_ContainsFunc_LLint64_Lint64.F⟩ := sound_any (fn := Go.Proofs.Tryz.f96) (code := slices_ContainsFunc_LLint64_Lint64.code) (g := slices_ContainsFunc_LLint64_Lint64.cfg) (res := [.tmp 4]) Go.Proofs.Tryz.func96 (by kernel_rfl) (by kernel_rfl) slices_ContainsFunc_LLint64_Lint64.ok (by kernel_rfl) (by kernel_rfl) (Nat.le_of_ble_eq_true (by kernel_rfl)) (by kernel_rfl)
/-! ### slices_Concat_Lint64_int64 -/
noncomputable def slices_Concat_Lint64_int64.sig : Sig := ⟨[.val false (.sl (.sl (.int .i64)))], [(.val false, (.sl (.int .i64)), .deep)]⟩
noncomputable def slices_Concat_Lint64_int64.ctx : Ctx := ⟨tabOf tabl, [], [], [], [(134, (.int .i64))], []⟩
noncomputable def slices_Concat_Lint64_int64.cfg : Cfg := ⟨slices_Concat_Lint64_int64.ctx, [], [], fun id => match id with | 3 => ([0, 3, 9, 10, 11], []) | 11 => ([6, 25, 26, 27], [24]) | _ => ([], []), fun _ => []⟩
noncomputable def slices_Concat_Lint64_int64.code : Code := (Go.Proofs.Tryz.f124).body.getD .skip
noncomputable def slices_Concat_Lint64_int64.fin := finK slices_Concat_Lint64_int64.ctx slices_Concat_Lint64_int64.sig [.tmp 2]
noncomputable def slices_Concat_Lint64_int64.F (d : List (List Int) × Unit) : Option ((List Int × Unit) × (Unit)) := anyK (runFn slices_Concat_Lint64_int64.cfg slices_Concat_Lint64_int64.fin slices_Concat_Lint64_int64.code (initSt slices_Concat_Lint64_int64.sig.ps d 36))
noncomputable def slices_Concat_Lint64_int64.l3 (k : Nat) (x2 : List (List Int)) (i3 : Int) (x4 : List (List Int)) (i5 : Int) (i6 : Int) : Option ((List Int × Unit) × (Unit)) :=
  Go.Vm.runT slices_Concat_Lint64_int64.cfg slices_Concat_Lint64_int64.fin k [.inLoop (sub [1, 1, 0, 1, 0, 0] slices_Concat_Lint64_int64.code), .inBlock 0, .code (sub [1, 1, 1] slices_Concat_Lint64_int64.code)]
    ⟨[.val false [⟨(.sl (.sl (.int .i64))), .sh, x2⟩], .dead, .dead, .val false [⟨(.int .i64), .sh, i3⟩], .dead, .dead, .dead, .dead, .dead, .val false [⟨(.sl (.sl (.int .i64))), .sh, x4⟩], .val false [⟨(.int .i64), .sh, i5⟩], .val false [⟨(.int .i64), .sh, i6⟩]] ++ deads 24, []⟩
noncomputable def slices_Concat_Lint64_int64.l11 (k : Nat) (x7 : List (List Int)) (i8 : Int) (i9 : Int) (x10 : List Int) : Option ((List Int × Unit) × (Unit)) :=
  Go.Vm.runT slices_Concat_Lint64_int64.cfg slices_Concat_Lint64_int64.fin k [.inLoop (sub [1, 1, 1, 1, 0, 1, 0, 0] slices_Concat_Lint64_int64.code), .inBlock 2, .code (sub [1, 1, 1, 1, 1] slices_Concat_Lint64_int64.code)]
    ⟨[.dead, .dead, .dead, .dead, .dead, .dead, .view 24 (.root 0) 1 false, .dead, .dead, .dead, .dead, .dead, .dead, .dead, .dead, .dead, .dead, .dead, .dead, .dead, .dead, .dead, .dead, .dead, .dead, .val false [⟨(.sl (.sl (.int .i64))), .sh, x7⟩], .val false [⟨(.int .i64), .sh, i8⟩], .val false [⟨(.int .i64), .sh, i9⟩]] ++ deads 8, [(24, ⟨false, [⟨(.sl (.int .i64)), .deep, x10⟩]⟩)]⟩
theorem slices_Concat_Lint64_int64.l3_eq (k : Nat) (x2 : List (List Int)) (i3 : Int) (x4 : List (List Int)) (i5 : Int) (i6 : Int) : slices_Concat_Lint64_int64.l3 (k + 1) x2 i3 x4 i5 i6 =
  if (decide (i6 < i5)) = true then
    if 0 ≤ i6 ∧ i6 < (x4.length : Int) then
      if (decide ((IntKind.i64.wrap (i3 + ((x4.getD i6.toNat ([] : List Int)).length : Int))) < (0 : Int))) = true then
        none
      else
        slices_Concat_Lint64_int64.l3 k x2 (IntKind.i64.wrap (i3 + ((x4.getD i6.toNat ([] : List Int)).length : Int))) x4 i5 (IntKind.i64.wrap (i6 + (1 : Int)))
    else
      none
  else
    if 0 ≤ i3 ∧ i3 ≤ (bigN : Int) then
      slices_Concat_Lint64_int64.l11 k x2 (x2.length : Int) (0 : Int) ([] : List Int)
    else
      none := by kernel_rfl
theorem slices_Concat_Lint64_int64.l11_eq (k : Nat) (x7 : List (List Int)) (i8 : Int) (i9 : Int) (x10 : List Int) : slices_Concat_Lint64_int64.l11 (k + 1) x7 i8 i9 x10 =
  if (decide (i9 < i8)) = true then
    if 0 ≤ i9 ∧ i9 < (x7.length : Int) then
      if x10.length + (x7.getD i9.toNat ([] : List Int)).length ≤ bigA then
        slices_Concat_Lint64_int64.l11 k x7 i8 (IntKind.i64.wrap (i9 + (1 : Int))) (x10 ++ (x7.getD i9.toNat ([] : List Int)))
      else
        none
    else
      none
  else
    some ((x10, ()), ()) := by kernel_rfl
noncomputable def slices_Concat_Lint64_int64.T (k : Nat) (slices_1 : List (List Int)) : Option ((List Int × Unit) × (Unit)) :=
  slices_Concat_Lint64_int64.l3 k slices_1 (0 : Int) slices_1 (slices_1.length : Int) (0 : Int)
theorem slices_Concat_Lint64_int64.run (k : Nat) (slices_1 : List (List Int)) : runFn slices_Concat_Lint64_int64.cfg slices_Concat_Lint64_int64.fin slices_Concat_Lint64_int64.code (initSt slices_Concat_Lint64_int64.sig.ps (slices_1, ()) 36) k = slices_Concat_Lint64_int64.T k slices_1 := by kernel_rfl
theorem slices_Concat_Lint64_int64.of (slices_1 : List (List Int)) {r : (List Int × Unit) × (Unit)} (h : Ev (fun k => slices_Concat_Lint64_int64.T k slices_1) r) : slices_Concat_Lint64_int64.F (slices_1, ()) = some r := Ev.run (fun k => slices_Concat_Lint64_int64.run k slices_1) h
theorem slices_Concat_Lint64_int64.ok : CtxOK Go.Proofs.Tryz.prog slices_Concat_Lint64_int64.ctx := ⟨List.forall_mem_nil _, mixed_ok, tab_ok tab_good, List.forall_mem_nil _, List.forall_mem_nil _, List.forall_mem_cons.2 ⟨slices_Grow_Lint64_int64.growOK, List.forall_mem_nil _⟩⟩
theorem slices_Concat_Lint64_int64.S : Sound Go.Proofs.Tryz.prog ⟨124, slices_Concat_Lint64_int64.sig, slices_Concat_Lint64_int64.F⟩ := sound_any (fn := Go.Proofs.Tryz.f124) (code := slices_Concat_Lint64_int64.code) (g := slices_Concat_Lint64_int64.cfg) (res := [.tmp 2]) Go.Proofs.Tryz.func124 (by kernel_rfl) (by kernel_rfl) slices_Concat_Lint64_int64.ok (by kernel_rfl) (by kernel_rfl) (Nat.le_of_ble_eq_true (by kernel_rfl)) (by kernel_rfl)
/-! ### impl_facesOf -/
noncomputable def impl_facesOf.sig : Sig := ⟨[.val false (.sl (.int .i64))], [(.val false, (.sl (.sl (.int .i64))), .deep)]⟩
noncomputable def impl_facesOf.ctx : Ctx := ⟨tabOf tabl, [⟨124, slices_Concat_Lint64_int64.sig, slices_Concat_Lint64_int64.F⟩], [], [], [], []⟩
noncomputable def impl_facesOf.cfg : Cfg := ⟨impl_facesOf.ctx, [], [], fun id => match id with | 3 => ([0, 3, 6, 7], [12]) | _ => ([], []), fun _ => []⟩
noncomputable def impl_facesOf.code : Code := (Go.Proofs.Tryz.f97).body.getD .skip
noncomputable def impl_facesOf.fin := finK impl_facesOf.ctx impl_facesOf.sig [.tmp 2]
noncomputable def impl_facesOf.F (d : List Int × Unit) : Option ((List (List Int) × Unit) × (Unit)) := anyK (runFn impl_facesOf.cfg impl_facesOf.fin impl_facesOf.code (initSt impl_facesOf.sig.ps d 27))
noncomputable def impl_facesOf.l3 (k : Nat) (x2 : List Int) (i3 : Int) (i4 : Int) (x5 : List (List Int)) : Option ((List (List Int) × Unit) × (Unit)) :=
  Go.Vm.runT impl_facesOf.cfg impl_facesOf.fin k [.inLoop (sub [1, 1, 0, 1, 0, 0] impl_facesOf.code), .inBlock 0, .code (sub [1, 1, 1] impl_facesOf.code)]
    ⟨[.val false [⟨(.sl (.int .i64)), .sh, x2⟩], .dead, .dead, .view 12 (.root 0) 1 false, .dead, .dead, .val false [⟨(.int .i64), .sh, i3⟩], .val false [⟨(.int .i64), .sh, i4⟩]] ++ deads 19, [(12, ⟨false, [⟨(.sl (.sl (.int .i64))), .deep, x5⟩]⟩)]⟩
theorem impl_facesOf.l3_eq (k : Nat) (x2 : List Int) (i3 : Int) (i4 : Int) (x5 : List (List Int)) : impl_facesOf.l3 (k + 1) x2 i3 i4 x5 =
  if (decide (i4 < i3)) = true then
    if (decide ((x2.length : Int) > (1 : Int))) = true then
      if 0 ≤ (0 : Int) ∧ (0 : Int) ≤ i4 ∧ i4 ≤ (x2.length : Int) then
        if 0 ≤ (IntKind.i64.wrap (i4 + (1 : Int))) ∧ (IntKind.i64.wrap (i4 + (1 : Int))) ≤ (x2.length : Int) ∧ (x2.length : Int) ≤ (x2.length : Int) then
          (slices_Concat_Lint64_int64.F ([cutL x2 (0 : Int) i4, cutL x2 (IntKind.i64.wrap (i4 + (1 : Int))) (x2.length : Int)], ())).bind fun r6 =>
            if x5.length + ([r6.1.1] : List (List Int)).length ≤ bigA then
              impl_facesOf.l3 k x2 i3 (IntKind.i64.wrap (i4 + (1 : Int))) (x5 ++ ([r6.1.1]))
            else
              none
        else
          none
      else
        none
    else
      impl_facesOf.l3 k x2 i3 (IntKind.i64.wrap (i4 + (1 : Int))) x5
  else
    some ((x5, ()), ()) := by kernel_rfl
noncomputable def impl_facesOf.T (k : Nat) (s_1 : List Int) : Option ((List (List Int) × Unit) × (Unit)) :=
  impl_facesOf.l3 k s_1 (s_1.length : Int) (0 : Int) ([])
theorem impl_facesOf.run (k : Nat) (s_1 : List Int) : runFn impl_facesOf.cfg impl_facesOf.fin impl_facesOf.code (initSt impl_facesOf.sig.ps (s_1, ()) 27) k = impl_facesOf.T k s_1 := by kernel_rfl
theorem impl_facesOf.of (s_1 : List Int) {r : (List (List Int) × Unit) × (Unit)} (h : Ev (fun k => impl_facesOf.T k s_1) r) : impl_facesOf.F (s_1, ()) = some r := Ev.run (fun k => impl_facesOf.run k s_1) h
theorem impl_facesOf.ok : CtxOK Go.Proofs.Tryz.prog impl_facesOf.ctx := ⟨List.forall_mem_nil _, mixed_ok, tab_ok tab_good, List.forall_mem_cons.2 ⟨slices_Concat_Lint64_int64.S, List.forall_mem_nil _⟩, List.forall_mem_nil _, List.forall_mem_nil _⟩
theorem impl_facesOf.S : Sound Go.Proofs.Tryz.prog ⟨97, impl_facesOf.sig, impl_facesOf.F⟩ := sound_any (fn := Go.Proofs.Tryz.f97) (code := impl_facesOf.code) (g := impl_facesOf.cfg) (res := [.tmp 2]) Go.Proofs.Tryz.func97 (by kernel_rfl) (by kernel_rfl) impl_facesOf.ok (by kernel_rfl) (by kernel_rfl) (Nat.le_of_ble_eq_true (by kernel_rfl)) (by kernel_rfl)
/-! ### slices_BinarySearchFunc_LLint64_Lint64_Lint64 -/
noncomputable def slices_BinarySearchFunc_LLint64_Lint64_Lint64.sig : Sig := ⟨[.val false (.sl (.sl (.int .i64))), .val false (.sl (.int .i64)), .fnx ⟨[(false, (.sl (.int .i64))), (false, (.sl (.int .i64)))], [(.val false, (.int .i64), .deep)]⟩], [(.val false, (.int .i64), .deep), (.val false, .bool, .deep)]⟩
noncomputable def slices_BinarySearchFunc_LLint64_Lint64_Lint64.ctx : Ctx := ⟨tabOf tabl, [], [], [], [], []⟩
noncomputable def slices_BinarySearchFunc_LLint64_Lint64_Lint64.cfg : Cfg := ⟨slices_BinarySearchFunc_LLint64_Lint64_Lint64.ctx, [], [], fun id => match id with | 3 => ([0, 1, 2, 8, 9, 10], []) | _ => ([], []), fun _ => []⟩
noncomputable def slices_BinarySearchFunc_LLint64_Lint64_Lint64.code : Code := (Go.Proofs.Tryz.f125).body.getD .skip
noncomputable def slices_BinarySearchFunc_LLint64_Lint64_Lint64.fin := finK slices_BinarySearchFunc_LLint64_Lint64_Lint64.ctx slices_BinarySearchFunc_LLint64_Lint64_Lint64.sig [.tmp 6, .tmp 7]
noncomputable def slices_BinarySearchFunc_LLint64_Lint64_Lint64.F (d : List (List Int) × List Int × ((List Int × List Int × Unit) → Option (Int × Unit)) × Unit) : Option ((Int × Bool × Unit) × (Unit)) := anyK (runFn slices_BinarySearchFunc_LLint64_Lint64_Lint64.cfg slices_BinarySearchFunc_LLint64_Lint64_Lint64.fin slices_BinarySearchFunc_LLint64_Lint64_Lint64.code (initSt slices_BinarySearchFunc_LLint64_Lint64_Lint64.sig.ps d 49))
noncomputable def slices_BinarySearchFunc_LLint64_Lint64_Lint64.l3 (k : Nat) (x4 : List (List Int)) (x5 : List Int) (f6 : (List Int × List Int × Unit) → Option (Int × Unit)) (i7 : Int) (i8 : Int) (i9 : Int) : Option ((Int × Bool × Unit) × (Unit)) :=
  Go.Vm.runT slices_BinarySearchFunc_LLint64_Lint64_Lint64.cfg slices_BinarySearchFunc_LLint64_Lint64_Lint64.fin k [.inLoop (sub [1, 1, 1, 0, 0, 0] slices_BinarySearchFunc_LLint64_Lint64_Lint64.code), .inBlock 0, .code (sub [1, 1, 1, 1] slices_BinarySearchFunc_LLint64_Lint64_Lint64.code)]
    ⟨[.val false [⟨(.sl (.sl (.int .i64))), .sh, x4⟩], .val false [⟨(.sl (.int .i64)), .sh, x5⟩], .fnx ⟨[(false, (.sl (.int .i64))), (false, (.sl (.int .i64)))], [(.val false, (.int .i64), .deep)]⟩ f6, .dead, .dead, .dead, .dead, .dead, .val false [⟨(.int .i64), .sh, i7⟩], .val false [⟨(.int .i64), .sh, i8⟩], .val false [⟨(.int .i64), .sh, i9⟩]] ++ deads 38, []⟩
theorem slices_BinarySearchFunc_LLint64_Lint64_Lint64.l3_eq (k : Nat) (x4 : List (List Int)) (x5 : List Int) (f6 : (List Int × List Int × Unit) → Option (Int × Unit)) (i7 : Int) (i8 : Int) (i9 : Int) : slices_BinarySearchFunc_LLint64_Lint64_Lint64.l3 (k + 1) x4 x5 f6 i7 i8 i9 =
  if (decide (i8 < i9)) = true then
    if (1 : Int) < 0 then
      none
    else
      if 0 ≤ (IntKind.i64.wrap ((IntKind.u64.wrap (IntKind.i64.wrap (i8 + i9))).fdiv (2 ^ (min (1 : Int).toNat IntKind.u64.bits)))) ∧ (IntKind.i64.wrap ((IntKind.u64.wrap (IntKind.i64.wrap (i8 + i9))).fdiv (2 ^ (min (1 : Int).toNat IntKind.u64.bits)))) < (x4.length : Int) then
        (f6 (x4.getD (IntKind.i64.wrap ((IntKind.u64.wrap (IntKind.i64.wrap (i8 + i9))).fdiv (2 ^ (min (1 : Int).toNat IntKind.u64.bits)))).toNat ([] : List Int), x5, ())).bind fun r10 =>
          if (decide ((r10.1 : Int) < (0 : Int))) = true then
            slices_BinarySearchFunc_LLint64_Lint64_Lint64.l3 k x4 x5 f6 i7 (IntKind.i64.wrap ((IntKind.i64.wrap ((IntKind.u64.wrap (IntKind.i64.wrap (i8 + i9))).fdiv (2 ^ (min (1 : Int).toNat IntKind.u64.bits)))) + (1 : Int))) i9
          else
            slices_BinarySearchFunc_LLint64_Lint64_Lint64.l3 k x4 x5 f6 i7 i8 (IntKind.i64.wrap ((IntKind.u64.wrap (IntKind.i64.wrap (i8 + i9))).fdiv (2 ^ (min (1 : Int).toNat IntKind.u64.bits))))
      else
        none
  else
    if (decide (i8 < i7)) = true then
      if 0 ≤ i8 ∧ i8 < (x4.length : Int) then
        (f6 (x4.getD i8.toNat ([] : List Int), x5, ())).bind fun r11 =>
          some ((i8, ((r11.1 : Int) == (0 : Int), ())), ())
      else
        none
    else
      some ((i8, (false, ())), ()) := by kernel_rfl
noncomputable def slices_BinarySearchFunc_LLint64_Lint64_Lint64.T (k : Nat) (x_1 : List (List Int)) (target_2 : List Int) (f_3 : (List Int × List Int × Unit) → Option (Int × Unit)) : Option ((Int × Bool × Unit) × (Unit)) :=
  slices_BinarySearchFunc_LLint64_Lint64_Lint64.l3 k x_1 target_2 f_3 (x_1.length : Int) (0 : Int) (x_1.length : Int)
theorem slices_BinarySearchFunc_LLint64_Lint64_Lint64.run (k : Nat) (x_1 : List (List Int)) (target_2 : List Int) (f_3 : (List Int × List Int × Unit) → Option (Int × Unit)) : runFn slices_BinarySearchFunc_LLint64_Lint64_Lint64.cfg slices_BinarySearchFunc_LLint64_Lint64_Lint64.fin slices_BinarySearchFunc_LLint64_Lint64_Lint64.code (initSt slices_BinarySearchFunc_LLint64_Lint64_Lint64.sig.ps (x_1, target_2, f_3, ()) 49) k = slices_BinarySearchFunc_LLint64_Lint64_Lint64.T k x_1 target_2 f_3 := by kernel_rfl
theorem slices_BinarySearchFunc_LLint64_Lint64_Lint64.of (x_1 : List (List Int)) (target_2 : List Int) (f_3 : (List Int × List Int × Unit) → Option (Int × Unit)) {r : (Int × Bool × Unit) × (Unit)} (h : Ev (fun k => slices_BinarySearchFunc_LLint64_Lint64_Lint64.T k x_1 target_2 f_3) r) : slices_BinarySearchFunc_LLint64_Lint64_Lint64.F (x_1, target_2, f_3, ()) = some r := Ev.run (fun k => slices_BinarySearchFunc_LLint64_Lint64_Lint64.run k x_1 target_2 f_3) h
theorem slices_BinarySearchFunc_LLint64_Lint64_Lint64.ok : CtxOK Go.Proofs.Tryz.prog slices_BinarySearchFunc_LLint64_Lint64_Lint64.ctx := ⟨List.forall_mem_nil _, mixed_ok, tab_ok tab_good, List.forall_mem_nil _, List.forall_mem_nil _, List.forall_mem_nil _⟩
theorem slices_BinarySearchFunc_LLint64_Lint64_Lint64.S : Sound Go.Proofs.Tryz.prog ⟨125, slices_BinarySearchFunc_LLint64_Lint64_Lint64.sig, slices_BinarySearchFunc_LLint64_Lint64_Lint64.F⟩ := sound_any (fn := Go.Proofs.Tryz.f125) (code := slices_BinarySearchFunc_LLint64_Lint64_Lint64.code) (g := slices_BinarySearchFunc_LLint64_Lint64_Lint64.cfg) (res := [.tmp 6, .tmp 7]) Go.Proofs.Tryz.func125 (by kernel_rfl) (by kernel_rfl) slices_BinarySearchFunc_LLint64_Lint64_Lint64.ok (by kernel_rfl) (by kernel_rfl) (Nat.le_of_ble_eq_true (by kernel_rfl)) (by kernel_rfl)
/-! ### impl_indexOf -/
noncomputable def impl_indexOf.sig : Sig := ⟨[.val true (.sl (.sl (.int .i64))), .val false (.sl (.int .i64))], [(.val false, (.int .i64), .deep)]⟩
noncomputable def impl_indexOf.ctx : Ctx := ⟨tabOf tabl, [⟨125, slices_BinarySearchFunc_LLint64_Lint64_Lint64.sig, slices_BinarySearchFunc_LLint64_Lint64_Lint64.F⟩], [impl_compareSimplices.clo], [], [], []⟩
noncomputable def impl_indexOf.cfg : Cfg := ⟨impl_indexOf.ctx, [], [], fun _ => ([], []), fun _ => []⟩
noncomputable def impl_indexOf.code : Code := (Go.Proofs.Tryz.f99).body.getD .skip
noncomputable def impl_indexOf.fin := finK impl_indexOf.ctx impl_indexOf.sig [.tmp 4]
noncomputable def impl_indexOf.F (d : List (List Int) × List Int × Unit) : Option ((Int × Unit) × (Unit)) := anyK (runFn impl_indexOf.cfg impl_indexOf.fin impl_indexOf.code (initSt impl_indexOf.sig.ps d 17))
noncomputable def impl_indexOf.T (c_1 : List (List Int)) (s_2 : List Int) : Option ((Int × Unit) × (Unit)) :=
  (slices_BinarySearchFunc_LLint64_Lint64_Lint64.F (c_1, s_2, impl_compareSimplices.cloG (()), ())).bind fun r3 =>
    if (!(r3.1.2.1 : Bool)) = true then
      some (((-1 : Int), ()), ())
    else
      some (((r3.1.1 : Int), ()), ())
theorem impl_indexOf.run (k : Nat) (c_1 : List (List Int)) (s_2 : List Int) : runFn impl_indexOf.cfg impl_indexOf.fin impl_indexOf.code (initSt impl_indexOf.sig.ps (c_1, s_2, ()) 17) k = impl_indexOf.T c_1 s_2 := by kernel_rfl
theorem impl_indexOf.eq (c_1 : List (List Int)) (s_2 : List Int) : impl_indexOf.F (c_1, s_2, ()) = impl_indexOf.T c_1 s_2 := (congrArg anyK (funext fun k => impl_indexOf.run k c_1 s_2)).trans (anyK_const _)
theorem impl_indexOf.ok : CtxOK Go.Proofs.Tryz.prog impl_indexOf.ctx := ⟨List.forall_mem_nil _, mixed_ok, tab_ok tab_good, List.forall_mem_cons.2 ⟨slices_BinarySearchFunc_LLint64_Lint64_Lint64.S, List.forall_mem_nil _⟩, List.forall_mem_cons.2 ⟨impl_compareSimplices.cloS, List.forall_mem_nil _⟩, List.forall_mem_nil _⟩
theorem impl_indexOf.S : Sound Go.Proofs.Tryz.prog ⟨99, impl_indexOf.sig, impl_indexOf.F⟩ := sound_any (fn := Go.Proofs.Tryz.f99) (code := impl_indexOf.code) (g := impl_indexOf.cfg) (res := [.tmp 4]) Go.Proofs.Tryz.func99 (by kernel_rfl) (by kernel_rfl) impl_indexOf.ok (by kernel_rfl) (by kernel_rfl) (Nat.le_of_ble_eq_true (by kernel_rfl)) (by kernel_rfl)
/-! ### impl_ValidComplex_1 -/
noncomputable def impl_ValidComplex_1.sig : Sig := ⟨[.val false (.sl (.int .i64)), .rptr (.sl (.sl (.int .i64))), .rptr (.int .i64)], [(.val false, .bool, .deep)]⟩
noncomputable def impl_ValidComplex_1.ctx : Ctx := ⟨tabOf tabl, [⟨99, impl_indexOf.sig, impl_indexOf.F⟩], [], [], [], []⟩
noncomputable def impl_ValidComplex_1.cfg : Cfg := ⟨impl_ValidComplex_1.ctx, [], [], fun _ => ([], []), fun _ => []⟩
noncomputable def impl_ValidComplex_1.code : Code := (Go.Proofs.Tryz.f98).body.getD .skip
noncomputable def impl_ValidComplex_1.fin := finK impl_ValidComplex_1.ctx impl_ValidComplex_1.sig [.tmp 4]
noncomputable def impl_ValidComplex_1.F (d : List Int × List (List Int) × Int × Unit) : Option ((Bool × Unit) × (Unit)) := anyK (runFn impl_ValidComplex_1.cfg impl_ValidComplex_1.fin impl_ValidComplex_1.code (initSt impl_ValidComplex_1.sig.ps d 13))
noncomputable def impl_ValidComplex_1.T (f_1 : List Int) (a_2 : List (List Int)) (a_3 : Int) : Option ((Bool × Unit) × (Unit)) :=
  if 0 ≤ (0 : Int) ∧ (0 : Int) ≤ a_3 ∧ a_3 ≤ (a_2.length : Int) then
    (impl_indexOf.F (cutL a_2 (0 : Int) a_3, f_1, ())).bind fun r4 =>
      some ((decide ((r4.1.1 : Int) < (0 : Int)), ()), ())
  else
    none
theorem impl_ValidComplex_1.run (k : Nat) (f_1 : List Int) (a_2 : List (List Int)) (a_3 : Int) : runFn impl_ValidComplex_1.cfg impl_ValidComplex_1.fin impl_ValidComplex_1.code (initSt impl_ValidComplex_1.sig.ps (f_1, a_2, a_3, ()) 13) k = impl_ValidComplex_1.T f_1 a_2 a_3 := by kernel_rfl
theorem impl_ValidComplex_1.eq (f_1 : List Int) (a_2 : List (List Int)) (a_3 : Int) : impl_ValidComplex_1.F (f_1, a_2, a_3, ()) = impl_ValidComplex_1.T f_1 a_2 a_3 := (congrArg anyK (funext fun k => impl_ValidComplex_1.run k f_1 a_2 a_3)).trans (anyK_const _)
theorem impl_ValidComplex_1.ok : CtxOK Go.Proofs.Tryz.prog impl_ValidComplex_1.ctx := ⟨List.forall_mem_nil _, mixed_ok, tab_ok tab_good, List.forall_mem_cons.2 ⟨impl_indexOf.S, List.forall_mem_nil _⟩, List.forall_mem_nil _, List.forall_mem_nil _⟩
theorem impl_ValidComplex_1.S : Sound Go.Proofs.Tryz.prog ⟨98, impl_ValidComplex_1.sig, impl_ValidComplex_1.F⟩ := sound_any (fn := Go.Proofs.Tryz.f98) (code := impl_ValidComplex_1.code) (g := impl_ValidComplex_1.cfg) (res := [.tmp 4]) Go.Proofs.Tryz.func98 (by kernel_rfl) (by kernel_rfl) impl_ValidComplex_1.ok (by kernel_rfl) (by kernel_rfl) (Nat.le_of_ble_eq_true (by kernel_rfl)) (by kernel_rfl)
noncomputable def impl_ValidComplex_1.cloG (y : List (List Int) × Int × Unit) (d : List Int × Unit) : Option (Bool × Unit) := (impl_ValidComplex_1.F (joinIns [.rptr (.sl (.sl (.int .i64))), .rptr (.int .i64)] [(false, (.sl (.int .i64)))] d y)).map (·.1)
noncomputable def impl_ValidComplex_1.clo : Clo := ⟨98, ⟨[(false, (.sl (.int .i64)))], [(.val false, .bool, .deep)]⟩, [.rptr (.sl (.sl (.int .i64))), .rptr (.int .i64)], impl_ValidComplex_1.cloG⟩
theorem impl_ValidComplex_1.cloS : SoundClo Go.Proofs.Tryz.prog impl_ValidComplex_1.clo := sound_clo (s := ⟨[(false, (.sl (.int .i64)))], [(.val false, .bool, .deep)]⟩) (caps := [.rptr (.sl (.sl (.int .i64))), .rptr (.int .i64)]) rfl impl_ValidComplex_1.S
/-! ### impl_ValidComplex -/
noncomputable def impl_ValidComplex.sig : Sig := ⟨[.val true (.sl (.sl (.int .i64)))], [(.val false, .bool, .deep)]⟩
noncomputable def impl_ValidComplex.ctx : Ctx := ⟨tabOf tabl, [⟨94, impl_ValidSimplex.sig, impl_ValidSimplex.F⟩, ⟨95, impl_compareSimplices.sig, impl_compareSimplices.F⟩, ⟨96, slices_ContainsFunc_LLint64_Lint64.sig, slices_ContainsFunc_LLint64_Lint64.F⟩, ⟨97, impl_facesOf.sig, impl_facesOf.F⟩], [impl_ValidComplex_1.clo], [], [], []⟩
noncomputable def impl_ValidComplex.cfg : Cfg := ⟨impl_ValidComplex.ctx, [], [], fun id => match id with | 2 => ([1, 6, 7, 8], [4]) | _ => ([], []), fun _ => []⟩
noncomputable def impl_ValidComplex.code : Code := (Go.Proofs.Tryz.f64).body.getD .skip
noncomputable def impl_ValidComplex.fin := finK impl_ValidComplex.ctx impl_ValidComplex.sig [.tmp 2]
noncomputable def impl_ValidComplex.F (d : List (List Int) × Unit) : Option ((Bool × Unit) × (Unit)) := anyK (runFn impl_ValidComplex.cfg impl_ValidComplex.fin impl_ValidComplex.code (initSt impl_ValidComplex.sig.ps d 40))
noncomputable def impl_ValidComplex.l2 (k : Nat) (x2 : List (List Int)) (i3 : Int) (i4 : Int) (x5 : List (List Int)) : Option ((Bool × Unit) × (Unit)) :=
  Go.Vm.runT impl_ValidComplex.cfg impl_ValidComplex.fin k [.inLoop (sub [1, 0, 1, 0, 0] impl_ValidComplex.code), .inBlock 0, .code (sub [1, 1] impl_ValidComplex.code)]
    ⟨[.dead, .ref 4 (.root 0), .dead, .dead, .dead, .dead, .val false [⟨(.sl (.sl (.int .i64))), .sh, x2⟩], .val false [⟨(.int .i64), .sh, i3⟩], .val false [⟨(.int .i64), .sh, i4⟩]] ++ deads 31, [(4, ⟨true, [⟨(.sl (.sl (.int .i64))), .sh, x5⟩]⟩)]⟩
theorem impl_ValidComplex.l2_eq (k : Nat) (x2 : List (List Int)) (i3 : Int) (i4 : Int) (x5 : List (List Int)) : impl_ValidComplex.l2 (k + 1) x2 i3 i4 x5 =
  if (decide (i4 < i3)) = true then
    if 0 ≤ i4 ∧ i4 < (x2.length : Int) then
      (impl_ValidSimplex.F (x2.getD i4.toNat ([] : List Int), ())).bind fun r6 =>
        if (!(r6.1.1 : Bool)) = true then
          some ((false, ()), ())
        else
          if (decide (i4 > (0 : Int))) = true then
            if 0 ≤ (IntKind.i64.wrap (i4 - (1 : Int))) ∧ (IntKind.i64.wrap (i4 - (1 : Int))) < (x5.length : Int) then
              (impl_compareSimplices.F (x5.getD (IntKind.i64.wrap (i4 - (1 : Int))).toNat ([] : List Int), x2.getD i4.toNat ([] : List Int), ())).bind fun r7 =>
                if (decide ((r7.1.1 : Int) ≥ (0 : Int))) = true then
                  some ((false, ()), ())
                else
                  (impl_facesOf.F (x2.getD i4.toNat ([] : List Int), ())).bind fun r8 =>
                    (slices_ContainsFunc_LLint64_Lint64.F (r8.1.1, impl_ValidComplex_1.cloG (x5, i4, ()), ())).bind fun r9 =>
                      if (r9.1.1 : Bool) = true then
                        some ((false, ()), ())
                      else
                        impl_ValidComplex.l2 k x2 i3 (IntKind.i64.wrap (i4 + (1 : Int))) x5
            else
              none
          else
            (impl_facesOf.F (x2.getD i4.toNat ([] : List Int), ())).bind fun r10 =>
              (slices_ContainsFunc_LLint64_Lint64.F (r10.1.1, impl_ValidComplex_1.cloG (x5, i4, ()), ())).bind fun r11 =>
                if (r11.1.1 : Bool) = true then
                  some ((false, ()), ())
                else
                  impl_ValidComplex.l2 k x2 i3 (IntKind.i64.wrap (i4 + (1 : Int))) x5
    else
      none
  else
    some ((decide ((x5.length : Int) ≤ (48 : Int)), ()), ()) := by kernel_rfl
noncomputable def impl_ValidComplex.T (k : Nat) (c_1 : List (List Int)) : Option ((Bool × Unit) × (Unit)) :=
  impl_ValidComplex.l2 k c_1 (c_1.length : Int) (0 : Int) c_1
theorem impl_ValidComplex.run (k : Nat) (c_1 : List (List Int)) : runFn impl_ValidComplex.cfg impl_ValidComplex.fin impl_ValidComplex.code (initSt impl_ValidComplex.sig.ps (c_1, ()) 40) k = impl_ValidComplex.T k c_1 := by kernel_rfl
theorem impl_ValidComplex.of (c_1 : List (List Int)) {r : (Bool × Unit) × (Unit)} (h : Ev (fun k => impl_ValidComplex.T k c_1) r) : impl_ValidComplex.F (c_1, ()) = some r := Ev.run (fun k => impl_ValidComplex.run k c_1) h
theorem impl_ValidComplex.ok : CtxOK Go.Proofs.Tryz.prog impl_ValidComplex.ctx := ⟨List.forall_mem_nil _, mixed_ok, tab_ok tab_good, List.forall_mem_cons.2 ⟨impl_ValidSimplex.S, List.forall_mem_cons.2 ⟨impl_compareSimplices.S, List.forall_mem_cons.2 ⟨slices_ContainsFunc_LLint64_Lint64.S, List.forall_mem_cons.2 ⟨impl_facesOf.S, List.forall_mem_nil _⟩⟩⟩⟩, List.forall_mem_cons.2 ⟨impl_ValidComplex_1.cloS, List.forall_mem_nil _⟩, List.forall_mem_nil _⟩
theorem impl_ValidComplex.S : Sound Go.Proofs.Tryz.prog ⟨64, impl_ValidComplex.sig, impl_ValidComplex.F⟩ := sound_any (fn := Go.Proofs.Tryz.f64) (code := impl_ValidComplex.code) (g := impl_ValidComplex.cfg) (res := [.tmp 2]) Go.Proofs.Tryz.func64 (by kernel_rfl) (by kernel_rfl) impl_ValidComplex.ok (by kernel_rfl) (by kernel_rfl) (Nat.le_of_ble_eq_true (by kernel_rfl)) (by kernel_rfl)
/-! ### impl_ValidPrime -/
noncomputable def impl_ValidPrime.sig : Sig := ⟨[.val false (.int .i64)], [(.val false, .bool, .deep)]⟩
noncomputable def impl_ValidPrime.ctx : Ctx := ⟨tabOf tabl, [⟨100, impl_within.sig, impl_within.F⟩], [], [], [], []⟩
noncomputable def impl_ValidPrime.cfg : Cfg := ⟨impl_ValidPrime.ctx, [], [], fun id => match id with | 4 => ([0, 3], []) | _ => ([], []), fun _ => []⟩
noncomputable def impl_ValidPrime.code : Code := (Go.Proofs.Tryz.f65).body.getD .skip
noncomputable def impl_ValidPrime.fin := finK impl_ValidPrime.ctx impl_ValidPrime.sig [.tmp 2]
noncomputable def impl_ValidPrime.F (d : Int × Unit) : Option ((Bool × Unit) × (Unit)) := anyK (runFn impl_ValidPrime.cfg impl_ValidPrime.fin impl_ValidPrime.code (initSt impl_ValidPrime.sig.ps d 18))
noncomputable def impl_ValidPrime.l4 (k : Nat) (i3 : Int) (i4 : Int) : Option ((Bool × Unit) × (Unit)) :=
  Go.Vm.runT impl_ValidPrime.cfg impl_ValidPrime.fin k [.inLoop (sub [1, 1, 0, 1, 0, 0] impl_ValidPrime.code), .inBlock 0, .code (sub [1, 1, 1] impl_ValidPrime.code)]
    ⟨[.val false [⟨(.int .i64), .sh, i3⟩], .dead, .dead, .val false [⟨(.int .i64), .sh, i4⟩]] ++ deads 14, []⟩
theorem impl_ValidPrime.l4_eq (k : Nat) (i3 : Int) (i4 : Int) : impl_ValidPrime.l4 (k + 1) i3 i4 =
  if (decide ((IntKind.i64.wrap (i4 * i4)) ≤ i3)) = true then
    if i4 = 0 then
      none
    else
      if ((i3.tmod i4) == (0 : Int)) = true then
        some ((false, ()), ())
      else
        impl_ValidPrime.l4 k i3 (IntKind.i64.wrap (i4 + (1 : Int)))
  else
    some ((true, ()), ()) := by kernel_rfl
noncomputable def impl_ValidPrime.T (k : Nat) (p_1 : Int) : Option ((Bool × Unit) × (Unit)) :=
  (impl_within.F (p_1, (2 : Int), (251 : Int), ())).bind fun r2 =>
    if (!(r2.1.1 : Bool)) = true then
      some ((false, ()), ())
    else
      impl_ValidPrime.l4 k p_1 (2 : Int)
theorem impl_ValidPrime.run (k : Nat) (p_1 : Int) : runFn impl_ValidPrime.cfg impl_ValidPrime.fin impl_ValidPrime.code (initSt impl_ValidPrime.sig.ps (p_1, ()) 18) k = impl_ValidPrime.T k p_1 := by kernel_rfl
theorem impl_ValidPrime.of (p_1 : Int) {r : (Bool × Unit) × (Unit)} (h : Ev (fun k => impl_ValidPrime.T k p_1) r) : impl_ValidPrime.F (p_1, ()) = some r := Ev.run (fun k => impl_ValidPrime.run k p_1) h
theorem impl_ValidPrime.ok : CtxOK Go.Proofs.Tryz.prog impl_ValidPrime.ctx := ⟨List.forall_mem_nil _, mixed_ok, tab_ok tab_good, List.forall_mem_cons.2 ⟨impl_within.S, List.forall_mem_nil _⟩, List.forall_mem_nil _, List.forall_mem_nil _⟩
theorem impl_ValidPrime.S : Sound Go.Proofs.Tryz.prog ⟨65, impl_ValidPrime.sig, impl_ValidPrime.F⟩ := sound_any (fn := Go.Proofs.Tryz.f65) (code := impl_ValidPrime.code) (g := impl_ValidPrime.cfg) (res := [.tmp 2]) Go.Proofs.Tryz.func65 (by kernel_rfl) (by kernel_rfl) impl_ValidPrime.ok (by kernel_rfl) (by kernel_rfl) (Nat.le_of_ble_eq_true (by kernel_rfl)) (by kernel_rfl)
/-! ### impl_size_int64 -/
noncomputable def impl_size_int64.sig : Sig := ⟨[.val false (.sl (.int .i64))], [(.val false, (.int .i64), .deep)]⟩
noncomputable def impl_size_int64.ctx : Ctx := ⟨tabOf tabl, [], [], [], [], []⟩
noncomputable def impl_size_int64.cfg : Cfg := ⟨impl_size_int64.ctx, [], [], fun _ => ([], []), fun _ => []⟩
noncomputable def impl_size_int64.code : Code := (Go.Proofs.Tryz.f84).body.getD .skip
noncomputable def impl_size_int64.fin := finK impl_size_int64.ctx impl_size_int64.sig [.tmp 2]
noncomputable def impl_size_int64.F (d : List Int × Unit) : Option ((Int × Unit) × (Unit)) := anyK (runFn impl_size_int64.cfg impl_size_int64.fin impl_size_int64.code (initSt impl_size_int64.sig.ps d 5))
noncomputable def impl_size_int64.T (list_1 : List Int) : Option ((Int × Unit) × (Unit)) :=
  some (((list_1.length : Int), ()), ())
theorem impl_size_int64.run (k : Nat) (list_1 : List Int) : runFn impl_size_int64.cfg impl_size_int64.fin impl_size_int64.code (initSt impl_size_int64.sig.ps (list_1, ()) 5) k = impl_size_int64.T list_1 := by kernel_rfl
theorem impl_size_int64.eq (list_1 : List Int) : impl_size_int64.F (list_1, ()) = impl_size_int64.T list_1 := (congrArg anyK (funext fun k => impl_size_int64.run k list_1)).trans (anyK_const _)
theorem impl_size_int64.ok : CtxOK Go.Proofs.Tryz.prog impl_size_int64.ctx := ⟨List.forall_mem_nil _, mixed_ok, tab_ok tab_good, List.forall_mem_nil _, List.forall_mem_nil _, List.forall_mem_nil _⟩
theorem impl_size_int64.S : Sound Go.Proofs.Tryz.prog ⟨84, impl_size_int64.sig, impl_size_int64.F⟩ := sound_any (fn := Go.Proofs.Tryz.f84) (code := impl_size_int64.code) (g := impl_size_int64.cfg) (res := [.tmp 2]) Go.Proofs.Tryz.func84 (by kernel_rfl) (by kernel_rfl) impl_size_int64.ok (by kernel_rfl) (by kernel_rfl) (Nat.le_of_ble_eq_true (by kernel_rfl)) (by kernel_rfl)
/-! ### impl_simplicesOf -/
noncomputable def impl_simplicesOf.sig : Sig := ⟨[.val true (.sl (.sl (.int .i64))), .val false (.int .i64)], [(.val false, (.sl (.int .i64)), .deep)]⟩
noncomputable def impl_simplicesOf.ctx : Ctx := ⟨tabOf tabl, [⟨84, impl_size_int64.sig, impl_size_int64.F⟩], [], [], [], []⟩
noncomputable def impl_simplicesOf.cfg : Cfg := ⟨impl_simplicesOf.ctx, [], [], fun id => match id with | 3 => ([1, 5, 9, 10, 11], [20]) | _ => ([], []), fun _ => []⟩
noncomputable def impl_simplicesOf.code : Code := (Go.Proofs.Tryz.f86).body.getD .skip
noncomputable def impl_simplicesOf.fin := finK impl_simplicesOf.ctx impl_simplicesOf.sig [.tmp 4]
noncomputable def impl_simplicesOf.F (d : List (List Int) × Int × Unit) : Option ((List Int × Unit) × (Unit)) := anyK (runFn impl_simplicesOf.cfg impl_simplicesOf.fin impl_simplicesOf.code (initSt impl_simplicesOf.sig.ps d 27))
noncomputable def impl_simplicesOf.l3 (k : Nat) (i3 : Int) (x4 : List (List Int)) (i5 : Int) (i6 : Int) (x7 : List Int) : Option ((List Int × Unit) × (Unit)) :=
  Go.Vm.runT impl_simplicesOf.cfg impl_simplicesOf.fin k [.inLoop (sub [1, 1, 0, 1, 0, 0] impl_simplicesOf.code), .inBlock 0, .code (sub [1, 1, 1] impl_simplicesOf.code)]
    ⟨[.dead, .val false [⟨(.int .i64), .sh, i3⟩], .dead, .dead, .dead, .view 20 (.root 0) 1 false, .dead, .dead, .dead, .val false [⟨(.sl (.sl (.int .i64))), .sh, x4⟩], .val false [⟨(.int .i64), .sh, i5⟩], .val false [⟨(.int .i64), .sh, i6⟩]] ++ deads 15, [(20, ⟨false, [⟨(.sl (.int .i64)), .deep, x7⟩]⟩)]⟩
theorem impl_simplicesOf.l3_eq (k : Nat) (i3 : Int) (x4 : List (List Int)) (i5 : Int) (i6 : Int) (x7 : List Int) : impl_simplicesOf.l3 (k + 1) i3 x4 i5 i6 x7 =
  if (decide (i6 < i5)) = true then
    if 0 ≤ i6 ∧ i6 < (x4.length : Int) then
      (impl_size_int64.F (x4.getD i6.toNat ([] : List Int), ())).bind fun r8 =>
        if ((r8.1.1 : Int) == (IntKind.i64.wrap (i3 + (1 : Int)))) = true then
          if x7.length + ([i6] : List Int).length ≤ bigA then
            impl_simplicesOf.l3 k i3 x4 i5 (IntKind.i64.wrap (i6 + (1 : Int))) (x7 ++ ([i6]))
          else
            none
        else
          impl_simplicesOf.l3 k i3 x4 i5 (IntKind.i64.wrap (i6 + (1 : Int))) x7
    else
      none
  else
    some ((x7, ()), ()) := by kernel_rfl
noncomputable def impl_simplicesOf.T (k : Nat) (c_1 : List (List Int)) (dimension_2 : Int) : Option ((List Int × Unit) × (Unit)) :=
  impl_simplicesOf.l3 k dimension_2 c_1 (c_1.length : Int) (0 : Int) ([])
theorem impl_simplicesOf.run (k : Nat) (c_1 : List (List Int)) (dimension_2 : Int) : runFn impl_simplicesOf.cfg impl_simplicesOf.fin impl_simplicesOf.code (initSt impl_simplicesOf.sig.ps (c_1, dimension_2, ()) 27) k = impl_simplicesOf.T k c_1 dimension_2 := by kernel_rfl
theorem impl_simplicesOf.of (c_1 : List (List Int)) (dimension_2 : Int) {r : (List Int × Unit) × (Unit)} (h : Ev (fun k => impl_simplicesOf.T k c_1 dimension_2) r) : impl_simplicesOf.F (c_1, dimension_2, ()) = some r := Ev.run (fun k => impl_simplicesOf.run k c_1 dimension_2) h
theorem impl_simplicesOf.ok : CtxOK Go.Proofs.Tryz.prog impl_simplicesOf.ctx := ⟨List.forall_mem_nil _, mixed_ok, tab_ok tab_good, List.forall_mem_cons.2 ⟨impl_size_int64.S, List.forall_mem_nil _⟩, List.forall_mem_nil _, List.forall_mem_nil _⟩
theorem impl_simplicesOf.S : Sound Go.Proofs.Tryz.prog ⟨86, impl_simplicesOf.sig, impl_simplicesOf.F⟩ := sound_any (fn := Go.Proofs.Tryz.f86) (code := impl_simplicesOf.code) (g := impl_simplicesOf.cfg) (res := [.tmp 4]) Go.Proofs.Tryz.func86 (by kernel_rfl) (by kernel_rfl) impl_simplicesOf.ok (by kernel_rfl) (by kernel_rfl) (Nat.le_of_ble_eq_true (by kernel_rfl)) (by kernel_rfl)
/-! ### impl_stalkSum -/
noncomputable def impl_stalkSum.sig : Sig := ⟨[.val true TSheaf, .val false (.int .i64)], [(.val false, (.int .i64), .deep)]⟩
noncomputable def impl_stalkSum.ctx : Ctx := ⟨tabOf tabl, [⟨86, impl_simplicesOf.sig, impl_simplicesOf.F⟩], [], [], [], []⟩
noncomputable def impl_stalkSum.cfg : Cfg := ⟨impl_stalkSum.ctx, [], [], fun id => match id with | 3 => ([2, 5, 11, 12, 13], [8, 44]) | _ => ([], []), fun _ => []⟩
noncomputable def impl_stalkSum.code : Code := (Go.Proofs.Tryz.f49).body.getD .skip
noncomputable def impl_stalkSum.fin := finK impl_stalkSum.ctx impl_stalkSum.sig [.tmp 4]
noncomputable def impl_stalkSum.F (d : (List (List Int) × Int × List Int × List (Int × Int × Int × List Int)) × Int × Unit) : Option ((Int × Unit) × (Unit)) := anyK (runFn impl_stalkSum.cfg impl_stalkSum.fin impl_stalkSum.code (initSt impl_stalkSum.sig.ps d 26))
noncomputable def impl_stalkSum.l3 (k : Nat) (i7 : Int) (i8 : Int) (i9 : Int) (x10 : List (List Int)) (i11 : Int) (x12 : List Int) (x13 : List (Int × Int × Int × List Int)) (x14 : List Int) : Option ((Int × Unit) × (Unit)) :=
  Go.Vm.runT impl_stalkSum.cfg impl_stalkSum.fin k [.inLoop (sub [1, 1, 0, 1, 0, 0] impl_stalkSum.code), .inBlock 0, .code (sub [1, 1, 1] impl_stalkSum.code)]
    ⟨[.dead, .dead, .ref 8 (.root 0), .dead, .dead, .val false [⟨(.int .i64), .sh, i7⟩], .dead, .dead, .dead, .dead, .dead, .view 44 (.root 0) 1 false, .val false [⟨(.int .i64), .sh, i8⟩], .val false [⟨(.int .i64), .sh, i9⟩]] ++ deads 12, [(8, ⟨true, [⟨(.sl (.sl (.int .i64))), .sh, x10⟩, ⟨(.int .i64), .sh, i11⟩, ⟨(.sl (.int .i64)), .sh, x12⟩, ⟨(.sl TMatrix), .sh, x13⟩]⟩), (44, ⟨false, [⟨(.sl (.int .i64)), .deep, x14⟩]⟩)]⟩
theorem impl_stalkSum.l3_eq (k : Nat) (i7 : Int) (i8 : Int) (i9 : Int) (x10 : List (List Int)) (i11 : Int) (x12 : List Int) (x13 : List (Int × Int × Int × List Int)) (x14 : List Int) : impl_stalkSum.l3 (k + 1) i7 i8 i9 x10 i11 x12 x13 x14 =
  if (decide (i9 < i8)) = true then
    if 0 ≤ i9 ∧ i9 < (x14.length : Int) then
      if 0 ≤ (x14.getD i9.toNat 0 : Int) ∧ (x14.getD i9.toNat 0 : Int) < (x12.length : Int) then
        impl_stalkSum.l3 k (IntKind.i64.wrap (i7 + (x12.getD (x14.getD i9.toNat 0 : Int).toNat 0))) i8 (IntKind.i64.wrap (i9 + (1 : Int))) x10 i11 x12 x13 x14
      else
        none
    else
      none
  else
    some ((i7, ()), ()) := by kernel_rfl
noncomputable def impl_stalkSum.T (k : Nat) (s_1 : List (List Int)) (s_2 : Int) (s_3 : List Int) (s_4 : List (Int × Int × Int × List Int)) (k_5 : Int) : Option ((Int × Unit) × (Unit)) :=
  (impl_simplicesOf.F (s_1, k_5, ())).bind fun r6 =>
    impl_stalkSum.l3 k (0 : Int) (r6.1.1.length : Int) (0 : Int) s_1 s_2 s_3 s_4 r6.1.1
theorem impl_stalkSum.run (k : Nat) (s_1 : List (List Int)) (s_2 : Int) (s_3 : List Int) (s_4 : List (Int × Int × Int × List Int)) (k_5 : Int) : runFn impl_stalkSum.cfg impl_stalkSum.fin impl_stalkSum.code (initSt impl_stalkSum.sig.ps ((s_1, (s_2, (s_3, s_4))), k_5, ()) 26) k = impl_stalkSum.T k s_1 s_2 s_3 s_4 k_5 := by kernel_rfl
theorem impl_stalkSum.of (s_1 : List (List Int)) (s_2 : Int) (s_3 : List Int) (s_4 : List (Int × Int × Int × List Int)) (k_5 : Int) {r : (Int × Unit) × (Unit)} (h : Ev (fun k => impl_stalkSum.T k s_1 s_2 s_3 s_4 k_5) r) : impl_stalkSum.F ((s_1, (s_2, (s_3, s_4))), k_5, ()) = some r := Ev.run (fun k => impl_stalkSum.run k s_1 s_2 s_3 s_4 k_5) h
theorem impl_stalkSum.ok : CtxOK Go.Proofs.Tryz.prog impl_stalkSum.ctx := ⟨List.forall_mem_nil _, mixed_ok, tab_ok tab_good, List.forall_mem_cons.2 ⟨impl_simplicesOf.S, List.forall_mem_nil _⟩, List.forall_mem_nil _, List.forall_mem_nil _⟩
theorem impl_stalkSum.S : Sound Go.Proofs.Tryz.prog ⟨49, impl_stalkSum.sig, impl_stalkSum.F⟩ := sound_any (fn := Go.Proofs.Tryz.f49) (code := impl_stalkSum.code) (g := impl_stalkSum.cfg) (res := [.tmp 4]) Go.Proofs.Tryz.func49 (by kernel_rfl) (by kernel_rfl) impl_stalkSum.ok (by kernel_rfl) (by kernel_rfl) (Nat.le_of_ble_eq_true (by kernel_rfl)) (by kernel_rfl)
/-! ### impl_areStalks_1 -/
noncomputable def impl_areStalks_1.sig : Sig := ⟨[.val false (.int .i64)], [(.val false, .bool, .deep)]⟩
noncomputable def impl_areStalks_1.ctx : Ctx := ⟨tabOf tabl, [⟨100, impl_within.sig, impl_within.F⟩], [], [], [], []⟩
noncomputable def impl_areStalks_1.cfg : Cfg := ⟨impl_areStalks_1.ctx, [], [], fun _ => ([], []), fun _ => []⟩
noncomputable def impl_areStalks_1.code : Code := (Go.Proofs.Tryz.f102).body.getD .skip
noncomputable def impl_areStalks_1.fin := finK impl_areStalks_1.ctx impl_areStalks_1.sig [.tmp 2]
noncomputable def impl_areStalks_1.F (d : Int × Unit) : Option ((Bool × Unit) × (Unit)) := anyK (runFn impl_areStalks_1.cfg impl_areStalks_1.fin impl_areStalks_1.code (initSt impl_areStalks_1.sig.ps d 6))
noncomputable def impl_areStalks_1.T (n_1 : Int) : Option ((Bool × Unit) × (Unit)) :=
  (impl_within.F (n_1, (0 : Int), (3 : Int), ())).bind fun r2 =>
    some ((!(r2.1.1 : Bool), ()), ())
theorem impl_areStalks_1.run (k : Nat) (n_1 : Int) : runFn impl_areStalks_1.cfg impl_areStalks_1.fin impl_areStalks_1.code (initSt impl_areStalks_1.sig.ps (n_1, ()) 6) k = impl_areStalks_1.T n_1 := by kernel_rfl
theorem impl_areStalks_1.eq (n_1 : Int) : impl_areStalks_1.F (n_1, ()) = impl_areStalks_1.T n_1 := (congrArg anyK (funext fun k => impl_areStalks_1.run k n_1)).trans (anyK_const _)
theorem impl_areStalks_1.ok : CtxOK Go.Proofs.Tryz.prog impl_areStalks_1.ctx := ⟨List.forall_mem_nil _, mixed_ok, tab_ok tab_good, List.forall_mem_cons.2 ⟨impl_within.S, List.forall_mem_nil _⟩, List.forall_mem_nil _, List.forall_mem_nil _⟩
theorem impl_areStalks_1.S : Sound Go.Proofs.Tryz.prog ⟨102, impl_areStalks_1.sig, impl_areStalks_1.F⟩ := sound_any (fn := Go.Proofs.Tryz.f102) (code := impl_areStalks_1.code) (g := impl_areStalks_1.cfg) (res := [.tmp 2]) Go.Proofs.Tryz.func102 (by kernel_rfl) (by kernel_rfl) impl_areStalks_1.ok (by kernel_rfl) (by kernel_rfl) (Nat.le_of_ble_eq_true (by kernel_rfl)) (by kernel_rfl)
noncomputable def impl_areStalks_1.cloG (y : Unit) (d : Int × Unit) : Option (Bool × Unit) := (impl_areStalks_1.F (joinIns [] [(false, (.int .i64))] d y)).map (·.1)
noncomputable def impl_areStalks_1.clo : Clo := ⟨102, ⟨[(false, (.int .i64))], [(.val false, .bool, .deep)]⟩, [], impl_areStalks_1.cloG⟩
theorem impl_areStalks_1.cloS : SoundClo Go.Proofs.Tryz.prog impl_areStalks_1.clo := sound_clo (s := ⟨[(false, (.int .i64))], [(.val false, .bool, .deep)]⟩) (caps := []) rfl impl_areStalks_1.S
/-! ### impl_areStalks -/
noncomputable def impl_areStalks.sig : Sig := ⟨[.val true (.sl (.sl (.int .i64))), .val false (.sl (.int .i64))], [(.val false, .bool, .deep)]⟩
noncomputable def impl_areStalks.ctx : Ctx := ⟨tabOf tabl, [⟨49, impl_stalkSum.sig, impl_stalkSum.F⟩, ⟨101, slices_ContainsFunc_Lint64_int64.sig, slices_ContainsFunc_Lint64_int64.F⟩], [impl_areStalks_1.clo], [], [], []⟩
noncomputable def impl_areStalks.cfg : Cfg := ⟨impl_areStalks.ctx, [], [], fun id => match id with | 4 => ([1, 2, 16], [8]) | _ => ([], []), fun _ => []⟩
noncomputable def impl_areStalks.code : Code := (Go.Proofs.Tryz.f66).body.getD .skip
noncomputable def impl_areStalks.fin := finK impl_areStalks.ctx impl_areStalks.sig [.tmp 4]
noncomputable def impl_areStalks.F (d : List (List Int) × List Int × Unit) : Option ((Bool × Unit) × (Unit)) := anyK (runFn impl_areStalks.cfg impl_areStalks.fin impl_areStalks.code (initSt impl_areStalks.sig.ps d 26))
noncomputable def impl_areStalks.l4 (k : Nat) (x4 : List Int) (i5 : Int) (x6 : List (List Int)) : Option ((Bool × Unit) × (Unit)) :=
  Go.Vm.runT impl_areStalks.cfg impl_areStalks.fin k [.inLoop (sub [1, 1, 0, 1, 0, 0] impl_areStalks.code), .inBlock 0, .code (sub [1, 1, 1] impl_areStalks.code)]
    ⟨[.dead, .val false [⟨(.sl (.int .i64)), .sh, x4⟩], .ref 8 (.root 0), .dead, .dead, .dead, .dead, .dead, .dead, .dead, .dead, .dead, .dead, .dead, .dead, .dead, .val false [⟨(.int .i64), .sh, i5⟩]] ++ deads 9, [(8, ⟨true, [⟨(.sl (.sl (.int .i64))), .sh, x6⟩]⟩)]⟩
theorem impl_areStalks.l4_eq (k : Nat) (x4 : List Int) (i5 : Int) (x6 : List (List Int)) : impl_areStalks.l4 (k + 1) x4 i5 x6 =
  if (decide (i5 < (4 : Int))) = true then
    (impl_stalkSum.F ((x6, (0, (x4, []))), i5, ())).bind fun r7 =>
      if (decide ((r7.1.1 : Int) > (32 : Int))) = true then
        some ((false, ()), ())
      else
        impl_areStalks.l4 k x4 (IntKind.i64.wrap (i5 + (1 : Int))) x6
  else
    some ((true, ()), ()) := by kernel_rfl
noncomputable def impl_areStalks.T (k : Nat) (c_1 : List (List Int)) (stalks_2 : List Int) : Option ((Bool × Unit) × (Unit)) :=
  if ((stalks_2.length : Int) != (c_1.length : Int)) = true then
    some ((false, ()), ())
  else
    (slices_ContainsFunc_Lint64_int64.F (stalks_2, impl_areStalks_1.cloG (()), ())).bind fun r3 =>
      if (r3.1.1 : Bool) = true then
        some ((false, ()), ())
      else
        impl_areStalks.l4 k stalks_2 (0 : Int) c_1
theorem impl_areStalks.run (k : Nat) (c_1 : List (List Int)) (stalks_2 : List Int) : runFn impl_areStalks.cfg impl_areStalks.fin impl_areStalks.code (initSt impl_areStalks.sig.ps (c_1, stalks_2, ()) 26) k = impl_areStalks.T k c_1 stalks_2 := by kernel_rfl
theorem impl_areStalks.of (c_1 : List (List Int)) (stalks_2 : List Int) {r : (Bool × Unit) × (Unit)} (h : Ev (fun k => impl_areStalks.T k c_1 stalks_2) r) : impl_areStalks.F (c_1, stalks_2, ()) = some r := Ev.run (fun k => impl_areStalks.run k c_1 stalks_2) h
theorem impl_areStalks.ok : CtxOK Go.Proofs.Tryz.prog impl_areStalks.ctx := ⟨List.forall_mem_nil _, mixed_ok, tab_ok tab_good, List.forall_mem_cons.2 ⟨impl_stalkSum.S, List.forall_mem_cons.2 ⟨slices_ContainsFunc_Lint64_int64.S, List.forall_mem_nil _⟩⟩, List.forall_mem_cons.2 ⟨impl_areStalks_1.cloS, List.forall_mem_nil _⟩, List.forall_mem_nil _⟩
theorem impl_areStalks.S : Sound Go.Proofs.Tryz.prog ⟨66, impl_areStalks.sig, impl_areStalks.F⟩ := sound_any (fn := Go.Proofs.Tryz.f66) (code := impl_areStalks.code) (g := impl_areStalks.cfg) (res := [.tmp 4]) Go.Proofs.Tryz.func66 (by kernel_rfl) (by kernel_rfl) impl_areStalks.ok (by kernel_rfl) (by kernel_rfl) (Nat.le_of_ble_eq_true (by kernel_rfl)) (by kernel_rfl)
/-! ### impl_size_Lint64 -/
noncomputable def impl_size_Lint64.sig : Sig := ⟨[.val false (.sl (.sl (.int .i64)))], [(.val false, (.int .i64), .deep)]⟩
noncomputable def impl_size_Lint64.ctx : Ctx := ⟨tabOf tabl, [], [], [], [], []⟩
noncomputable def impl_size_Lint64.cfg : Cfg := ⟨impl_size_Lint64.ctx, [], [], fun _ => ([], []), fun _ => []⟩
noncomputable def impl_size_Lint64.code : Code := (Go.Proofs.Tryz.f103).body.getD .skip
noncomputable def impl_size_Lint64.fin := finK impl_size_Lint64.ctx impl_size_Lint64.sig [.tmp 2]
noncomputable def impl_size_Lint64.F (d : List (List Int) × Unit) : Option ((Int × Unit) × (Unit)) := anyK (runFn impl_size_Lint64.cfg impl_size_Lint64.fin impl_size_Lint64.code (initSt impl_size_Lint64.sig.ps d 5))
noncomputable def impl_size_Lint64.T (list_1 : List (List Int)) : Option ((Int × Unit) × (Unit)) :=
  some (((list_1.length : Int), ()), ())
theorem impl_size_Lint64.run (k : Nat) (list_1 : List (List Int)) : runFn impl_size_Lint64.cfg impl_size_Lint64.fin impl_size_Lint64.code (initSt impl_size_Lint64.sig.ps (list_1, ()) 5) k = impl_size_Lint64.T list_1 := by kernel_rfl
theorem impl_size_Lint64.eq (list_1 : List (List Int)) : impl_size_Lint64.F (list_1, ()) = impl_size_Lint64.T list_1 := (congrArg anyK (funext fun k => impl_size_Lint64.run k list_1)).trans (anyK_const _)
theorem impl_size_Lint64.ok : CtxOK Go.Proofs.Tryz.prog impl_size_Lint64.ctx := ⟨List.forall_mem_nil _, mixed_ok, tab_ok tab_good, List.forall_mem_nil _, List.forall_mem_nil _, List.forall_mem_nil _⟩
theorem impl_size_Lint64.S : Sound Go.Proofs.Tryz.prog ⟨103, impl_size_Lint64.sig, impl_size_Lint64.F⟩ := sound_any (fn := Go.Proofs.Tryz.f103) (code := impl_size_Lint64.code) (g := impl_size_Lint64.cfg) (res := [.tmp 2]) Go.Proofs.Tryz.func103 (by kernel_rfl) (by kernel_rfl) impl_size_Lint64.ok (by kernel_rfl) (by kernel_rfl) (Nat.le_of_ble_eq_true (by kernel_rfl)) (by kernel_rfl)
/-! ### impl_faceIndices -/
noncomputable def impl_faceIndices.sig : Sig := ⟨[.val true (.sl (.sl (.int .i64))), .val false (.int .i64)], [(.val false, (.sl (.int .i64)), .deep)]⟩
noncomputable def impl_faceIndices.ctx : Ctx := ⟨tabOf tabl, [⟨97, impl_facesOf.sig, impl_facesOf.F⟩, ⟨99, impl_indexOf.sig, impl_indexOf.F⟩], [], [], [], []⟩
noncomputable def impl_faceIndices.cfg : Cfg := ⟨impl_faceIndices.ctx, [], [], fun id => match id with | 3 => ([2, 5, 13, 14, 15], [8, 20, 52]) | _ => ([], []), fun _ => []⟩
noncomputable def impl_faceIndices.code : Code := (Go.Proofs.Tryz.f104).body.getD .skip
noncomputable def impl_faceIndices.fin := finK impl_faceIndices.ctx impl_faceIndices.sig [.tmp 4]
noncomputable def impl_faceIndices.F (d : List (List Int) × Int × Unit) : Option ((List Int × Unit) × (Unit)) := anyK (runFn impl_faceIndices.cfg impl_faceIndices.fin impl_faceIndices.code (initSt impl_faceIndices.sig.ps d 27))
noncomputable def impl_faceIndices.l3 (k : Nat) (i4 : Int) (i5 : Int) (x6 : List (List Int)) (x7 : List Int) (x8 : List (List Int)) : Option ((List Int × Unit) × (Unit)) :=
  Go.Vm.runT impl_faceIndices.cfg impl_faceIndices.fin k [.inLoop (sub [1, 1, 0, 1, 0, 0] impl_faceIndices.code), .inBlock 0, .code (sub [1, 1, 1] impl_faceIndices.code)]
    ⟨[.dead, .dead, .ref 8 (.root 0), .dead, .dead, .view 20 (.root 0) 1 false, .dead, .dead, .dead, .dead, .dead, .dead, .dead, .view 52 (.root 0) 1 false, .val false [⟨(.int .i64), .sh, i4⟩], .val false [⟨(.int .i64), .sh, i5⟩]] ++ deads 11, [(8, ⟨true, [⟨(.sl (.sl (.int .i64))), .sh, x6⟩]⟩), (20, ⟨false, [⟨(.sl (.int .i64)), .deep, x7⟩]⟩), (52, ⟨false, [⟨(.sl (.sl (.int .i64))), .deep, x8⟩]⟩)]⟩
theorem impl_faceIndices.l3_eq (k : Nat) (i4 : Int) (i5 : Int) (x6 : List (List Int)) (x7 : List Int) (x8 : List (List Int)) : impl_faceIndices.l3 (k + 1) i4 i5 x6 x7 x8 =
  if (decide (i5 < i4)) = true then
    if 0 ≤ i5 ∧ i5 < (x8.length : Int) then
      (impl_indexOf.F (x6, x8.getD i5.toNat ([] : List Int), ())).bind fun r9 =>
        if x7.length + ([(r9.1.1 : Int)] : List Int).length ≤ bigA then
          impl_faceIndices.l3 k i4 (IntKind.i64.wrap (i5 + (1 : Int))) x6 (x7 ++ ([(r9.1.1 : Int)])) x8
        else
          none
    else
      none
  else
    some ((x7, ()), ()) := by kernel_rfl
noncomputable def impl_faceIndices.T (k : Nat) (c_1 : List (List Int)) (k_2 : Int) : Option ((List Int × Unit) × (Unit)) :=
  if 0 ≤ k_2 ∧ k_2 < (c_1.length : Int) then
    (impl_facesOf.F (c_1.getD k_2.toNat ([] : List Int), ())).bind fun r3 =>
      impl_faceIndices.l3 k (r3.1.1.length : Int) (0 : Int) c_1 ([]) r3.1.1
  else
    none
theorem impl_faceIndices.run (k : Nat) (c_1 : List (List Int)) (k_2 : Int) : runFn impl_faceIndices.cfg impl_faceIndices.fin impl_faceIndices.code (initSt impl_faceIndices.sig.ps (c_1, k_2, ()) 27) k = impl_faceIndices.T k c_1 k_2 := by kernel_rfl
theorem impl_faceIndices.of (c_1 : List (List Int)) (k_2 : Int) {r : (List Int × Unit) × (Unit)} (h : Ev (fun k => impl_faceIndices.T k c_1 k_2) r) : impl_faceIndices.F (c_1, k_2, ()) = some r := Ev.run (fun k => impl_faceIndices.run k c_1 k_2) h
theorem impl_faceIndices.ok : CtxOK Go.Proofs.Tryz.prog impl_faceIndices.ctx := ⟨List.forall_mem_nil _, mixed_ok, tab_ok tab_good, List.forall_mem_cons.2 ⟨impl_facesOf.S, List.forall_mem_cons.2 ⟨impl_indexOf.S, List.forall_mem_nil _⟩⟩, List.forall_mem_nil _, List.forall_mem_nil _⟩
theorem impl_faceIndices.S : Sound Go.Proofs.Tryz.prog ⟨104, impl_faceIndices.sig, impl_faceIndices.F⟩ := sound_any (fn := Go.Proofs.Tryz.f104) (code := impl_faceIndices.code) (g := impl_faceIndices.cfg) (res := [.tmp 4]) Go.Proofs.Tryz.func104 (by kernel_rfl) (by kernel_rfl) impl_faceIndices.ok (by kernel_rfl) (by kernel_rfl) (Nat.le_of_ble_eq_true (by kernel_rfl)) (by kernel_rfl)
/-! ### impl_arrows -/
noncomputable def impl_arrows.sig : Sig := ⟨[.val true (.sl (.sl (.int .i64)))], [(.val false, (.sl TEdge), .deep)]⟩
noncomputable def impl_arrows.ctx : Ctx := ⟨tabOf tabl, [⟨103, impl_size_Lint64.sig, impl_size_Lint64.F⟩, ⟨104, impl_faceIndices.sig, impl_faceIndices.F⟩], [], [], [], []⟩
noncomputable def impl_arrows.cfg : Cfg := ⟨impl_arrows.ctx, [], [], fun id => match id with | 3 => ([1, 3, 9, 10], [4, 12]) | 6 => ([1, 3, 4, 9, 10, 15, 16, 17], [4, 12, 60]) | _ => ([], []), fun _ => []⟩
noncomputable def impl_arrows.code : Code := (Go.Proofs.Tryz.f67).body.getD .skip
noncomputable def impl_arrows.fin := finK impl_arrows.ctx impl_arrows.sig [.tmp 2]
noncomputable def impl_arrows.F (d : List (List Int) × Unit) : Option ((List (Int × Int × Int) × Unit) × (Unit)) := anyK (runFn impl_arrows.cfg impl_arrows.fin impl_arrows.code (initSt impl_arrows.sig.ps d 32))
noncomputable def impl_arrows.l3 (k : Nat) (i3 : Int) (i4 : Int) (x5 : List (List Int)) (x6 : List (Int × Int × Int)) : Option ((List (Int × Int × Int) × Unit) × (Unit)) :=
  Go.Vm.runT impl_arrows.cfg impl_arrows.fin k [.inLoop (sub [1, 1, 0, 1, 0, 0] impl_arrows.code), .inBlock 0, .code (sub [1, 1, 1] impl_arrows.code)]
    ⟨[.dead, .ref 4 (.root 0), .dead, .view 12 (.root 0) 1 false, .dead, .dead, .dead, .dead, .dead, .val false [⟨(.int .i64), .sh, i3⟩], .val false [⟨(.int .i64), .sh, i4⟩]] ++ deads 21, [(4, ⟨true, [⟨(.sl (.sl (.int .i64))), .sh, x5⟩]⟩), (12, ⟨false, [⟨(.sl TEdge), .deep, x6⟩]⟩)]⟩
noncomputable def impl_arrows.l6 (k : Nat) (i8 : Int) (i9 : Int) (i10 : Int) (i11 : Int) (i12 : Int) (x13 : List (List Int)) (x14 : List (Int × Int × Int)) (x15 : List Int) : Option ((List (Int × Int × Int) × Unit) × (Unit)) :=
  Go.Vm.runT impl_arrows.cfg impl_arrows.fin k [.inLoop (sub [1, 1, 0, 1, 0, 0, 1, 1, 0, 0, 1, 1, 0, 0] impl_arrows.code), .inBlock 2, .inBlock 1, .code (sub [1, 1, 0, 1, 0, 0, 1, 1, 1] impl_arrows.code), .inLoop (sub [1, 1, 0, 1, 0, 0] impl_arrows.code), .inBlock 0, .code (sub [1, 1, 1] impl_arrows.code)]
    ⟨[.dead, .ref 4 (.root 0), .dead, .view 12 (.root 0) 1 false, .val false [⟨(.int .i64), .sh, i8⟩], .dead, .dead, .dead, .dead, .val false [⟨(.int .i64), .sh, i9⟩], .val false [⟨(.int .i64), .sh, i10⟩], .dead, .dead, .dead, .dead, .view 60 (.root 0) 1 false, .val false [⟨(.int .i64), .sh, i11⟩], .val false [⟨(.int .i64), .sh, i12⟩]] ++ deads 14, [(4, ⟨true, [⟨(.sl (.sl (.int .i64))), .sh, x13⟩]⟩), (12, ⟨false, [⟨(.sl TEdge), .deep, x14⟩]⟩), (60, ⟨false, [⟨(.sl (.int .i64)), .deep, x15⟩]⟩)]⟩
theorem impl_arrows.l3_eq (k : Nat) (i3 : Int) (i4 : Int) (x5 : List (List Int)) (x6 : List (Int × Int × Int)) : impl_arrows.l3 (k + 1) i3 i4 x5 x6 =
  if (decide (i4 < i3)) = true then
    (impl_faceIndices.F (x5, i4, ())).bind fun r7 =>
      impl_arrows.l6 k i4 i3 i4 (r7.1.1.length : Int) (0 : Int) x5 x6 r7.1.1
  else
    some ((x6, ()), ()) := by kernel_rfl
theorem impl_arrows.l6_eq (k : Nat) (i8 : Int) (i9 : Int) (i10 : Int) (i11 : Int) (i12 : Int) (x13 : List (List Int)) (x14 : List (Int × Int × Int)) (x15 : List Int) : impl_arrows.l6 (k + 1) i8 i9 i10 i11 i12 x13 x14 x15 =
  if (decide (i12 < i11)) = true then
    if 0 ≤ i12 ∧ i12 < (x15.length : Int) then
      if x14.length + ([(i8, (i12, (x15.getD i12.toNat 0 : Int)))] : List (Int × Int × Int)).length ≤ bigA then
        impl_arrows.l6 k i8 i9 i10 i11 (IntKind.i64.wrap (i12 + (1 : Int))) x13 (x14 ++ ([(i8, (i12, (x15.getD i12.toNat 0 : Int)))])) x15
      else
        none
    else
      none
  else
    impl_arrows.l3 k i9 (IntKind.i64.wrap (i10 + (1 : Int))) x13 x14 := by kernel_rfl
noncomputable def impl_arrows.T (k : Nat) (c_1 : List (List Int)) : Option ((List (Int × Int × Int) × Unit) × (Unit)) :=
  (impl_size_Lint64.F (c_1, ())).bind fun r2 =>
    impl_arrows.l3 k (r2.1.1 : Int) (0 : Int) c_1 ([])
theorem impl_arrows.run (k : Nat) (c_1 : List (List Int)) : runFn impl_arrows.cfg impl_arrows.fin impl_arrows.code (initSt impl_arrows.sig.ps (c_1, ()) 32) k = impl_arrows.T k c_1 := by kernel_rfl
theorem impl_arrows.of (c_1 : List (List Int)) {r : (List (Int × Int × Int) × Unit) × (Unit)} (h : Ev (fun k => impl_arrows.T k c_1) r) : impl_arrows.F (c_1, ()) = some r := Ev.run (fun k => impl_arrows.run k c_1) h
theorem impl_arrows.ok : CtxOK Go.Proofs.Tryz.prog impl_arrows.ctx := ⟨List.forall_mem_nil _, mixed_ok, tab_ok tab_good, List.forall_mem_cons.2 ⟨impl_size_Lint64.S, List.forall_mem_cons.2 ⟨impl_faceIndices.S, List.forall_mem_nil _⟩⟩, List.forall_mem_nil _, List.forall_mem_nil _⟩
theorem impl_arrows.S : Sound Go.Proofs.Tryz.prog ⟨67, impl_arrows.sig, impl_arrows.F⟩ := sound_any (fn := Go.Proofs.Tryz.f67) (code := impl_arrows.code) (g := impl_arrows.cfg) (res := [.tmp 2]) Go.Proofs.Tryz.func67 (by kernel_rfl) (by kernel_rfl) impl_arrows.ok (by kernel_rfl) (by kernel_rfl) (Nat.le_of_ble_eq_true (by kernel_rfl)) (by kernel_rfl)
/-! ### impl_isElement -/
noncomputable def impl_isElement.sig : Sig := ⟨[.val false (.int .i64), .val false (.int .i64)], [(.val false, .bool, .deep)]⟩
noncomputable def impl_isElement.ctx : Ctx := ⟨tabOf tabl, [⟨100, impl_within.sig, impl_within.F⟩], [], [], [], []⟩
noncomputable def impl_isElement.cfg : Cfg := ⟨impl_isElement.ctx, [], [], fun _ => ([], []), fun _ => []⟩
noncomputable def impl_isElement.code : Code := (Go.Proofs.Tryz.f114).body.getD .skip
noncomputable def impl_isElement.fin := finK impl_isElement.ctx impl_isElement.sig [.tmp 4]
noncomputable def impl_isElement.F (d : Int × Int × Unit) : Option ((Bool × Unit) × (Unit)) := anyK (runFn impl_isElement.cfg impl_isElement.fin impl_isElement.code (initSt impl_isElement.sig.ps d 9))
noncomputable def impl_isElement.T (a_1 : Int) (p_2 : Int) : Option ((Bool × Unit) × (Unit)) :=
  (impl_within.F (a_1, (0 : Int), IntKind.i64.wrap (p_2 - (1 : Int)), ())).bind fun r3 =>
    some (((r3.1.1 : Bool), ()), ())
theorem impl_isElement.run (k : Nat) (a_1 : Int) (p_2 : Int) : runFn impl_isElement.cfg impl_isElement.fin impl_isElement.code (initSt impl_isElement.sig.ps (a_1, p_2, ()) 9) k = impl_isElement.T a_1 p_2 := by kernel_rfl
theorem impl_isElement.eq (a_1 : Int) (p_2 : Int) : impl_isElement.F (a_1, p_2, ()) = impl_isElement.T a_1 p_2 := (congrArg anyK (funext fun k => impl_isElement.run k a_1 p_2)).trans (anyK_const _)
theorem impl_isElement.ok : CtxOK Go.Proofs.Tryz.prog impl_isElement.ctx := ⟨List.forall_mem_nil _, mixed_ok, tab_ok tab_good, List.forall_mem_cons.2 ⟨impl_within.S, List.forall_mem_nil _⟩, List.forall_mem_nil _, List.forall_mem_nil _⟩
theorem impl_isElement.S : Sound Go.Proofs.Tryz.prog ⟨114, impl_isElement.sig, impl_isElement.F⟩ := sound_any (fn := Go.Proofs.Tryz.f114) (code := impl_isElement.code) (g := impl_isElement.cfg) (res := [.tmp 4]) Go.Proofs.Tryz.func114 (by kernel_rfl) (by kernel_rfl) impl_isElement.ok (by kernel_rfl) (by kernel_rfl) (Nat.le_of_ble_eq_true (by kernel_rfl)) (by kernel_rfl)
/-! ### impl_areElements_1 -/
noncomputable def impl_areElements_1.sig : Sig := ⟨[.val false (.int .i64), .rptr (.int .i64)], [(.val false, .bool, .deep)]⟩
noncomputable def impl_areElements_1.ctx : Ctx := ⟨tabOf tabl, [⟨114, impl_isElement.sig, impl_isElement.F⟩], [], [], [], []⟩
noncomputable def impl_areElements_1.cfg : Cfg := ⟨impl_areElements_1.ctx, [], [], fun _ => ([], []), fun _ => []⟩
noncomputable def impl_areElements_1.code : Code := (Go.Proofs.Tryz.f113).body.getD .skip
noncomputable def impl_areElements_1.fin := finK impl_areElements_1.ctx impl_areElements_1.sig [.tmp 3]
noncomputable def impl_areElements_1.F (d : Int × Int × Unit) : Option ((Bool × Unit) × (Unit)) := anyK (runFn impl_areElements_1.cfg impl_areElements_1.fin impl_areElements_1.code (initSt impl_areElements_1.sig.ps d 8))
noncomputable def impl_areElements_1.T (a_1 : Int) (a_2 : Int) : Option ((Bool × Unit) × (Unit)) :=
  (impl_isElement.F (a_1, a_2, ())).bind fun r3 =>
    some ((!(r3.1.1 : Bool), ()), ())
theorem impl_areElements_1.run (k : Nat) (a_1 : Int) (a_2 : Int) : runFn impl_areElements_1.cfg impl_areElements_1.fin impl_areElements_1.code (initSt impl_areElements_1.sig.ps (a_1, a_2, ()) 8) k = impl_areElements_1.T a_1 a_2 := by kernel_rfl
theorem impl_areElements_1.eq (a_1 : Int) (a_2 : Int) : impl_areElements_1.F (a_1, a_2, ()) = impl_areElements_1.T a_1 a_2 := (congrArg anyK (funext fun k => impl_areElements_1.run k a_1 a_2)).trans (anyK_const _)
theorem impl_areElements_1.ok : CtxOK Go.Proofs.Tryz.prog impl_areElements_1.ctx := ⟨List.forall_mem_nil _, mixed_ok, tab_ok tab_good, List.forall_mem_cons.2 ⟨impl_isElement.S, List.forall_mem_nil _⟩, List.forall_mem_nil _, List.forall_mem_nil _⟩
theorem impl_areElements_1.S : Sound Go.Proofs.Tryz.prog ⟨113, impl_areElements_1.sig, impl_areElements_1.F⟩ := sound_any (fn := Go.Proofs.Tryz.f113) (code := impl_areElements_1.code) (g := impl_areElements_1.cfg) (res := [.tmp 3]) Go.Proofs.Tryz.func113 (by kernel_rfl) (by kernel_rfl) impl_areElements_1.ok (by kernel_rfl) (by kernel_rfl) (Nat.le_of_ble_eq_true (by kernel_rfl)) (by kernel_rfl)
noncomputable def impl_areElements_1.cloG (y : Int × Unit) (d : Int × Unit) : Option (Bool × Unit) := (impl_areElements_1.F (joinIns [.rptr (.int .i64)] [(false, (.int .i64))] d y)).map (·.1)
noncomputable def impl_areElements_1.clo : Clo := ⟨113, ⟨[(false, (.int .i64))], [(.val false, .bool, .deep)]⟩, [.rptr (.int .i64)], impl_areElements_1.cloG⟩
theorem impl_areElements_1.cloS : SoundClo Go.Proofs.Tryz.prog impl_areElements_1.clo := sound_clo (s := ⟨[(false, (.int .i64))], [(.val false, .bool, .deep)]⟩) (caps := [.rptr (.int .i64)]) rfl impl_areElements_1.S
/-! ### impl_areElements -/
noncomputable def impl_areElements.sig : Sig := ⟨[.val false (.sl (.int .i64)), .val false (.int .i64)], [(.val false, .bool, .deep)]⟩
noncomputable def impl_areElements.ctx : Ctx := ⟨tabOf tabl, [⟨101, slices_ContainsFunc_Lint64_int64.sig, slices_ContainsFunc_Lint64_int64.F⟩], [impl_areElements_1.clo], [], [], []⟩
noncomputable def impl_areElements.cfg : Cfg := ⟨impl_areElements.ctx, [], [], fun _ => ([], []), fun _ => []⟩
noncomputable def impl_areElements.code : Code := (Go.Proofs.Tryz.f85).body.getD .skip
noncomputable def impl_areElements.fin := finK impl_areElements.ctx impl_areElements.sig [.tmp 4]
noncomputable def impl_areElements.F (d : List Int × Int × Unit) : Option ((Bool × Unit) × (Unit)) := anyK (runFn impl_areElements.cfg impl_areElements.fin impl_areElements.code (initSt impl_areElements.sig.ps d 9))
noncomputable def impl_areElements.T (list_1 : List Int) (p_2 : Int) : Option ((Bool × Unit) × (Unit)) :=
  (slices_ContainsFunc_Lint64_int64.F (list_1, impl_areElements_1.cloG (p_2, ()), ())).bind fun r3 =>
    some ((!(r3.1.1 : Bool), ()), ())
theorem impl_areElements.run (k : Nat) (list_1 : List Int) (p_2 : Int) : runFn impl_areElements.cfg impl_areElements.fin impl_areElements.code (initSt impl_areElements.sig.ps (list_1, p_2, ()) 9) k = impl_areElements.T list_1 p_2 := by kernel_rfl
theorem impl_areElements.eq (list_1 : List Int) (p_2 : Int) : impl_areElements.F (list_1, p_2, ()) = impl_areElements.T list_1 p_2 := (congrArg anyK (funext fun k => impl_areElements.run k list_1 p_2)).trans (anyK_const _)
theorem impl_areElements.ok : CtxOK Go.Proofs.Tryz.prog impl_areElements.ctx := ⟨List.forall_mem_nil _, mixed_ok, tab_ok tab_good, List.forall_mem_cons.2 ⟨slices_ContainsFunc_Lint64_int64.S, List.forall_mem_nil _⟩, List.forall_mem_cons.2 ⟨impl_areElements_1.cloS, List.forall_mem_nil _⟩, List.forall_mem_nil _⟩
theorem impl_areElements.S : Sound Go.Proofs.Tryz.prog ⟨85, impl_areElements.sig, impl_areElements.F⟩ := sound_any (fn := Go.Proofs.Tryz.f85) (code := impl_areElements.code) (g := impl_areElements.cfg) (res := [.tmp 4]) Go.Proofs.Tryz.func85 (by kernel_rfl) (by kernel_rfl) impl_areElements.ok (by kernel_rfl) (by kernel_rfl) (Nat.le_of_ble_eq_true (by kernel_rfl)) (by kernel_rfl)
/-! ### impl_isSide -/
noncomputable def impl_isSide.sig : Sig := ⟨[.val false (.int .i64)], [(.val false, .bool, .deep)]⟩
noncomputable def impl_isSide.ctx : Ctx := ⟨tabOf tabl, [⟨100, impl_within.sig, impl_within.F⟩], [], [], [], []⟩
noncomputable def impl_isSide.cfg : Cfg := ⟨impl_isSide.ctx, [], [], fun _ => ([], []), fun _ => []⟩
noncomputable def impl_isSide.code : Code := (Go.Proofs.Tryz.f106).body.getD .skip
noncomputable def impl_isSide.fin := finK impl_isSide.ctx impl_isSide.sig [.tmp 2]
noncomputable def impl_isSide.F (d : Int × Unit) : Option ((Bool × Unit) × (Unit)) := anyK (runFn impl_isSide.cfg impl_isSide.fin impl_isSide.code (initSt impl_isSide.sig.ps d 5))
noncomputable def impl_isSide.T (n_1 : Int) : Option ((Bool × Unit) × (Unit)) :=
  (impl_within.F (n_1, (0 : Int), (32 : Int), ())).bind fun r2 =>
    some (((r2.1.1 : Bool), ()), ())
theorem impl_isSide.run (k : Nat) (n_1 : Int) : runFn impl_isSide.cfg impl_isSide.fin impl_isSide.code (initSt impl_isSide.sig.ps (n_1, ()) 5) k = impl_isSide.T n_1 := by kernel_rfl
theorem impl_isSide.eq (n_1 : Int) : impl_isSide.F (n_1, ()) = impl_isSide.T n_1 := (congrArg anyK (funext fun k => impl_isSide.run k n_1)).trans (anyK_const _)
theorem impl_isSide.ok : CtxOK Go.Proofs.Tryz.prog impl_isSide.ctx := ⟨List.forall_mem_nil _, mixed_ok, tab_ok tab_good, List.forall_mem_cons.2 ⟨impl_within.S, List.forall_mem_nil _⟩, List.forall_mem_nil _, List.forall_mem_nil _⟩
theorem impl_isSide.S : Sound Go.Proofs.Tryz.prog ⟨106, impl_isSide.sig, impl_isSide.F⟩ := sound_any (fn := Go.Proofs.Tryz.f106) (code := impl_isSide.code) (g := impl_isSide.cfg) (res := [.tmp 2]) Go.Proofs.Tryz.func106 (by kernel_rfl) (by kernel_rfl) impl_isSide.ok (by kernel_rfl) (by kernel_rfl) (Nat.le_of_ble_eq_true (by kernel_rfl)) (by kernel_rfl)
end Go.Proofs.YtpibalgbkhpcbaaGreat
