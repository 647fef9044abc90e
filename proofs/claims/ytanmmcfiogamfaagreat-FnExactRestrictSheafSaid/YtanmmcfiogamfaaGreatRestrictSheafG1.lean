/- The functions, as the machine runs them. -/
import Derived.Test.YtanmmcfiogamfaaGreatVm3
import Derived.Test.YtanmmcfiogamfaaGreatProg
import Derived.KernelRfl
import Derived.WalkKit
import Derived.Lib.Walk
import Derived.Lib.AppendZeros
import Derived.Sort.WalkA
import Derived.Sort.WalkB2
import Derived.Sort.WalkB12
import Derived.Deep.LoopGhost
import Derived.Shelf.RegionOpenPlain
import Derived.Lib.SliceRun
namespace Go.Proofs.YtanmmcfiogamfaaGreat
open Go Go.Vm
set_option linter.unusedVariables false
set_option linter.unusedSimpArgs false
open Go.Proofs.Tryz
abbrev LI := List Int
abbrev LL := List LI
abbrev MX := Int × Int × Int × LI
abbrev LM := List MX
abbrev SF := LL × Int × LI × LM
abbrev OI := Option ((Int × Unit) × Unit)
abbrev OB := Option ((Bool × Unit) × Unit)
abbrev OL := Option ((LI × Unit) × Unit)
abbrev OQ := Option ((LL × Unit) × Unit)
abbrev OM := Option ((MX × Unit) × Unit)
abbrev OS := Option ((SF × Unit) × Unit)
abbrev tI : Ty := .int .i64
abbrev tL : Ty := .sl tI
abbrev tQ : Ty := .sl tL
abbrev cI (x : Int) : Cell := ⟨tI, .sh, x⟩
abbrev cL (x : LI) : Cell := ⟨tL, .sh, x⟩
abbrev dL (x : LI) : Cell := ⟨tL, .deep, x⟩
abbrev cQ (x : LL) : Cell := ⟨tQ, .sh, x⟩
abbrev dQ (x : LL) : Cell := ⟨tQ, .deep, x⟩
abbrev vI (x : Int) : TV := .val false [cI x]
abbrev vL (x : LI) : TV := .val false [cL x]
abbrev vQ (x : LL) : TV := .val false [cQ x]
abbrev TMatrix_2 : Ty := .pair tI tL
abbrev TMatrix_1 : Ty := .pair tI TMatrix_2
abbrev TMatrix : Ty := .pair tI TMatrix_1
abbrev TEdge_1 : Ty := .pair tI tI
abbrev TEdge : Ty := .pair tI TEdge_1
abbrev TSheaf_2 : Ty := .pair tL (.sl TMatrix)
abbrev TSheaf_1 : Ty := .pair tI TSheaf_2
abbrev TSheaf : Ty := .pair tQ TSheaf_1
def tabl : List (Nat × TInfo) := [
  (2, ⟨false, tI, 0, []⟩),
  (3, ⟨false, tI, 0, []⟩),
  (4, ⟨false, .bool, 0, []⟩),
  (22, ⟨false, tQ, 25, []⟩),
  (24, ⟨true, tQ, 0, [(0, 1, false)]⟩),
  (25, ⟨false, tL, 2, []⟩),
  (26, ⟨false, (.sl TMatrix), 90, []⟩),
  (28, ⟨true, TSheaf, 0, [(0, 1, true), (1, 1, false), (2, 1, false), (3, 1, false)]⟩),
  (31, ⟨true, tQ, 0, [(0, 1, false)]⟩),
  (32, ⟨false, (.sl TMatrix), 86, []⟩),
  (34, ⟨true, TSheaf, 0, [(0, 1, true), (1, 1, false), (2, 1, false), (3, 1, false)]⟩),
  (86, ⟨true, TMatrix, 0, [(0, 1, false), (1, 1, false), (2, 1, false), (3, 1, false)]⟩),
  (90, ⟨true, TMatrix, 0, [(0, 1, false), (1, 1, false), (2, 1, false), (3, 1, false)]⟩),
  (146, ⟨true, TEdge, 0, [(0, 1, false), (1, 1, false), (2, 1, false)]⟩),
  (153, ⟨false, (.int .u64), 0, []⟩),
  (163, ⟨false, (.sl TEdge), 146, []⟩),
  (175, ⟨false, tL, 3, []⟩)]
theorem tab_good : tabB Go.Proofs.Tryz.prog tabl = true := by kernel_rfl
theorem tab_open : openB Go.Proofs.Tryz.prog tabl = true := by kernel_rfl
theorem mixed_ok : Go.Proofs.Tryz.prog.follows .mixedOrders = true := by kernel_rfl
set_option maxHeartbeats 2000000 in
set_option maxRecDepth 100000 in
theorem slices_Grow_Lint64_int64.grow0 (w : World) : Calls Go.Proofs.Tryz.prog 195 #[.slice none 0 0, .int .i64 ((0 : Nat) : Int)] w fun e w' => e = .returned (.slice none 0 0) ∧ w' = w := by
  have h2 : Go.RowKit.wrap64 (((0 : Nat) : Int) - ((0 : Nat) : Int)) = 0 := by unfold Go.RowKit.wrap64; omega
  go_enter Go.Proofs.Tryz.func195, Go.Proofs.Tryz.ntmps195
  go_wp2
  go_ret
  exact ⟨rfl, rfl⟩
set_option maxHeartbeats 4000000 in
set_option maxRecDepth 100000 in
theorem slices_Grow_Lint64_int64.grow1 (w : World) (n : Nat) (h0 : 0 < n) (hn : n ≤ 1099511627776) (i : TypeInfo) (z : Value) (hi : Go.Proofs.Tryz.prog.info? 2 = some i) (hz : i.zero = some z) (hs : 0 < i.size) (hb : i.bytes ≤ 256) :
    Calls Go.Proofs.Tryz.prog 195 #[.slice none 0 0, .int .i64 (n : Int)] w fun e w' => ∃ G, n ≤ G ∧ G ≤ 9223372036854775807 ∧ e = .returned (.slice (some ⟨w.heap.size, 0, none⟩) 0 G) ∧ w' = w.drew.alloc (.cells (Builtin.zeroCells z.cells n ++ Builtin.zeroCells z.cells (G - n)) 2) := by
  have h1 : ¬ ((n : Int) < 0) := by omega
  have h2 : Go.RowKit.wrap64 (((0 : Nat) : Int) - ((0 : Nat) : Int)) = 0 := by unfold Go.RowKit.wrap64; omega
  have h3 : Go.RowKit.wrap64 ((n : Int) - 0) = (n : Int) := by unfold Go.RowKit.wrap64; omega
  have h4 : (n : Int) > 0 := by omega
  have hm : n * i.bytes ≤ 1099511627776 * 256 := Nat.mul_le_mul hn hb
  have hrz : ∀ ty, (Builtin.append_ #[25, 3] ty #[.slice none 0 0, .int .i64 (n : Int)]).run Go.Proofs.Tryz.prog w =
      .ok (.slice (some ⟨w.heap.size, 0, none⟩) n (grownCap w n 0 2)) (w.drew.alloc (.cells (Builtin.zeroCells z.cells n ++ Builtin.zeroCells z.cells (grownCap w n 0 2 - n)) 2)) := fun ty =>
    Lib.run_append_nil_zeros (P := Go.Proofs.Tryz.prog) w 25 3 ty 2 i z .i64 .i64 (by kernel_rfl) (by kernel_rfl) hi hz n h0 hs (by omega) (by omega)
  have hGn : n ≤ grownCap w n 0 2 := grownCap_ge w _ _ _
  obtain ⟨G, hG⟩ : ∃ G, G = grownCap w n 0 2 := ⟨_, rfl⟩
  have hG63 : G ≤ 9223372036854775807 := by
    have := grownCap_le_maxLen w n 0 2 (by unfold maxLen; omega)
    rw [← hG] at this
    unfold maxLen at this
    omega
  rw [← hG] at hrz hGn
  clear hG
  refine Calls.mono (R := fun e w' => e = .returned (.slice (some ⟨w.heap.size, 0, none⟩) 0 G) ∧ w' = w.drew.alloc (.cells (Builtin.zeroCells z.cells n ++ Builtin.zeroCells z.cells (G - n)) 2)) ?_ fun e w' h => ⟨G, hGn, hG63, h.1, h.2⟩
  clear hi hz hs hb hm
  go_enter Go.Proofs.Tryz.func195, Go.Proofs.Tryz.ntmps195
  go_wp2_with (at_builtin; refine Lib.wpList_append_run _ rfl _ _ _ _ rfl _ _ rfl rfl _ _ (hrz _) ?_)
  all_goals (go_ret; exact ⟨rfl, rfl⟩)
theorem slices_Grow_Lint64_int64.growOK : GrowOK Go.Proofs.Tryz.prog (195, tI) := by
  have hT : tabOf tabl 2 = some ⟨false, tI, 0, []⟩ := by kernel_rfl
  obtain ⟨inf, h1, h2, h3, h4, h5⟩ := (tab_ok tab_good).info 2 _ hT
  exact growOK_of ⟨Go.Proofs.Tryz.f195, Go.Proofs.Tryz.func195, by kernel_rfl, by kernel_rfl⟩ (zero_size (tab_ok tab_good) hT) slices_Grow_Lint64_int64.grow0 fun w n a b => slices_Grow_Lint64_int64.grow1 w n a b inf _ h1 h5 (by rw [h2]; exact sz_pos _) h4
namespace laws_szInt64S
noncomputable def sig : Sig := ⟨[.val false tL, .val false tI], [(.val false, tI, .deep)]⟩
noncomputable def ctx : Ctx := ⟨tabOf tabl, [], [], [], [], []⟩
noncomputable def cfg : Cfg := ⟨ctx, [], [], fun _ => ([], []), fun _ => []⟩
noncomputable def code : Code := (f28).body.getD .skip
noncomputable def fin := finK ctx sig [.tmp 4]
noncomputable def F (d : LI × Int × Unit) : OI := anyK (runFn cfg fin code (initSt sig.ps d 12))
variable (a_1 : LI) (left_2 : Int)
noncomputable def T : OI := if (decide ((IntKind.i64.wrap (left_2 - (a_1.length : Int))) < (0 : Int))) = true then some (((-1 : Int), ()), ()) else some ((IntKind.i64.wrap (left_2 - (a_1.length : Int)), ()), ())
theorem eq : F (a_1, left_2, ()) = T a_1 left_2 := eq_any fun k => by kernel_rfl
theorem ok : CtxOK prog ctx := ⟨nilM, mixed_ok, tab_ok tab_good, nilM, nilM, nilM⟩
theorem S : Sound prog ⟨28, sig, F⟩ := sound_k (res := [.tmp 4]) func28 ok
end laws_szInt64S
namespace laws_szInt64SS
noncomputable def sig : Sig := ⟨[.val false tQ, .val false tI], [(.val false, tI, .deep)]⟩
noncomputable def ctx : Ctx := ⟨tabOf tabl, [⟨28, laws_szInt64S.sig, laws_szInt64S.F⟩], [], [], [], []⟩
noncomputable def cfg : Cfg := ⟨ctx, [], [], fun id => match id with | 5 => ([0, 1, 5], []) | _ => ([], []), fun _ => []⟩
noncomputable def code : Code := (f30).body.getD .skip
noncomputable def fin := finK ctx sig [.tmp 4]
noncomputable def F (d : LL × Int × Unit) : OI := anyK (runFn cfg fin code (initSt sig.ps d 27))
variable (k : Nat) (x3 : LL) (i4 i5 : Int)
noncomputable def l5 : OI := Go.Vm.runT cfg fin k [.inLoop (sub [1, 1, 1, 0, 1, 0, 0] code), .inBlock 0, .code (sub [1, 1, 1, 1] code)] ⟨[vQ x3, vI i4, .dead, .dead, .dead, vI i5] ++ deads 21, []⟩
theorem l5_eq : l5 (k + 1) x3 i4 i5 = if (decide (i5 < (x3.length : Int))) = true then if 0 ≤ i5 ∧ i5 < (x3.length : Int) then (laws_szInt64S.F (x3.getD i5.toNat ([] : LI), i4, ())).bind fun r6 => if (decide ((r6.1.1 : Int) < (0 : Int))) = true then some (((-1 : Int), ()), ()) else l5 k x3 (r6.1.1 : Int) (IntKind.i64.wrap (i5 + (1 : Int))) else none else some ((i4, ()), ()) := by kernel_rfl
variable (a_1 : LL) (left_2 : Int)
noncomputable def T : OI := if (decide ((IntKind.i64.wrap (left_2 - (a_1.length : Int))) < (0 : Int))) = true then some (((-1 : Int), ()), ()) else l5 k a_1 (IntKind.i64.wrap (left_2 - (a_1.length : Int))) (0 : Int)
theorem of {r : (Int × Unit) × (Unit)} (h : Ev (fun k => T k a_1 left_2) r) : F (a_1, left_2, ()) = some r := Ev.run (fun k => by kernel_rfl) h
theorem ok : CtxOK prog ctx := ⟨nilM, mixed_ok, tab_ok tab_good, consM ⟨laws_szInt64S.S, nilM⟩, nilM, nilM⟩
theorem S : Sound prog ⟨30, sig, F⟩ := sound_k (res := [.tmp 4]) func30 ok
end laws_szInt64SS
namespace laws_szComplex
noncomputable def sig : Sig := ⟨[.val true tQ, .val false tI], [(.val false, tI, .deep)]⟩
noncomputable def ctx : Ctx := ⟨tabOf tabl, [⟨30, laws_szInt64SS.sig, laws_szInt64SS.F⟩], [], [], [], []⟩
noncomputable def cfg : Cfg := ⟨ctx, [], [], fun _ => ([], []), fun _ => []⟩
noncomputable def code : Code := (f8).body.getD .skip
noncomputable def fin := finK ctx sig [.tmp 4]
noncomputable def F (d : LL × Int × Unit) : OI := anyK (runFn cfg fin code (initSt sig.ps d 12))
variable (a_1 : LL) (left_2 : Int)
noncomputable def T : OI := (laws_szInt64SS.F (a_1, left_2, ())).bind fun r3 => if (decide ((r3.1.1 : Int) < (0 : Int))) = true then some (((-1 : Int), ()), ()) else some (((r3.1.1 : Int), ()), ())
theorem eq : F (a_1, left_2, ()) = T a_1 left_2 := eq_any fun k => by kernel_rfl
theorem ok : CtxOK prog ctx := ⟨nilM, mixed_ok, tab_ok tab_good, consM ⟨laws_szInt64SS.S, nilM⟩, nilM, nilM⟩
theorem S : Sound prog ⟨8, sig, F⟩ := sound_k (res := [.tmp 4]) func8 ok
end laws_szComplex
namespace laws_szMatrix
noncomputable def sig : Sig := ⟨[.val true TMatrix, .val false tI], [(.val false, tI, .deep)]⟩
noncomputable def ctx : Ctx := ⟨tabOf tabl, [⟨28, laws_szInt64S.sig, laws_szInt64S.F⟩], [], [], [], []⟩
noncomputable def cfg : Cfg := ⟨ctx, [], [], fun _ => ([], []), fun _ => []⟩
noncomputable def code : Code := (f66).body.getD .skip
noncomputable def fin := finK ctx sig [.tmp 4]
noncomputable def F (d : MX × Int × Unit) : OI := anyK (runFn cfg fin code (initSt sig.ps d 12))
noncomputable def T (a_1 a_2 a_3 : Int) (a_4 : LI) (left_5 : Int) : OI := (laws_szInt64S.F (a_4, left_5, ())).bind fun r6 => if (decide ((r6.1.1 : Int) < (0 : Int))) = true then some (((-1 : Int), ()), ()) else some (((r6.1.1 : Int), ()), ())
theorem eq (a_1 a_2 a_3 : Int) (a_4 : LI) (left_5 : Int) : F ((a_1, (a_2, (a_3, a_4))), left_5, ()) = T a_1 a_2 a_3 a_4 left_5 := eq_any fun k => by kernel_rfl
theorem ok : CtxOK prog ctx := ⟨nilM, mixed_ok, tab_ok tab_good, consM ⟨laws_szInt64S.S, nilM⟩, nilM, nilM⟩
theorem S : Sound prog ⟨66, sig, F⟩ := sound_k (res := [.tmp 4]) func66 ok
end laws_szMatrix
namespace laws_szMatrixS
noncomputable def sig : Sig := ⟨[.val false (.sl TMatrix), .val false tI], [(.val false, tI, .deep)]⟩
noncomputable def ctx : Ctx := ⟨tabOf tabl, [⟨66, laws_szMatrix.sig, laws_szMatrix.F⟩], [], [], [], []⟩
noncomputable def cfg : Cfg := ⟨ctx, [], [], fun id => match id with | 5 => ([0, 1, 5], []) | _ => ([], []), fun _ => []⟩
noncomputable def code : Code := (f29).body.getD .skip
noncomputable def fin := finK ctx sig [.tmp 4]
noncomputable def F (d : LM × Int × Unit) : OI := anyK (runFn cfg fin code (initSt sig.ps d 27))
variable (k : Nat) (x3 : LM) (i4 i5 : Int)
noncomputable def l5 : OI := Go.Vm.runT cfg fin k [.inLoop (sub [1, 1, 1, 0, 1, 0, 0] code), .inBlock 0, .code (sub [1, 1, 1, 1] code)] ⟨[.val false [⟨(.sl TMatrix), .sh, x3⟩], vI i4, .dead, .dead, .dead, vI i5] ++ deads 21, []⟩
theorem l5_eq : l5 (k + 1) x3 i4 i5 = if (decide (i5 < (x3.length : Int))) = true then if 0 ≤ i5 ∧ i5 < (x3.length : Int) then (laws_szMatrix.F (x3.getD i5.toNat (0, 0, 0, ([] : LI)), i4, ())).bind fun r6 => if (decide ((r6.1.1 : Int) < (0 : Int))) = true then some (((-1 : Int), ()), ()) else l5 k x3 (r6.1.1 : Int) (IntKind.i64.wrap (i5 + (1 : Int))) else none else some ((i4, ()), ()) := by kernel_rfl
variable (a_1 : LM) (left_2 : Int)
noncomputable def T : OI := if (decide ((IntKind.i64.wrap (left_2 - (a_1.length : Int))) < (0 : Int))) = true then some (((-1 : Int), ()), ()) else l5 k a_1 (IntKind.i64.wrap (left_2 - (a_1.length : Int))) (0 : Int)
theorem of {r : (Int × Unit) × (Unit)} (h : Ev (fun k => T k a_1 left_2) r) : F (a_1, left_2, ()) = some r := Ev.run (fun k => by kernel_rfl) h
theorem ok : CtxOK prog ctx := ⟨nilM, mixed_ok, tab_ok tab_good, consM ⟨laws_szMatrix.S, nilM⟩, nilM, nilM⟩
theorem S : Sound prog ⟨29, sig, F⟩ := sound_k (res := [.tmp 4]) func29 ok
end laws_szMatrixS
namespace laws_szSheaf
noncomputable def sig : Sig := ⟨[.val true TSheaf, .val false tI], [(.val false, tI, .deep)]⟩
noncomputable def ctx : Ctx := ⟨tabOf tabl, [⟨8, laws_szComplex.sig, laws_szComplex.F⟩, ⟨28, laws_szInt64S.sig, laws_szInt64S.F⟩, ⟨29, laws_szMatrixS.sig, laws_szMatrixS.F⟩], [], [], [], []⟩
noncomputable def cfg : Cfg := ⟨ctx, [], [], fun _ => ([], []), fun _ => []⟩
noncomputable def code : Code := (f7).body.getD .skip
noncomputable def fin := finK ctx sig [.tmp 4]
noncomputable def F (d : SF × Int × Unit) : OI := anyK (runFn cfg fin code (initSt sig.ps d 24))
noncomputable def T (a_1 : LL) (a_2 : Int) (a_3 : LI) (a_4 : LM) (left_5 : Int) : OI := (laws_szComplex.F (a_1, left_5, ())).bind fun r6 => if (decide ((r6.1.1 : Int) < (0 : Int))) = true then some (((-1 : Int), ()), ()) else (laws_szInt64S.F (a_3, (r6.1.1 : Int), ())).bind fun r7 => if (decide ((r7.1.1 : Int) < (0 : Int))) = true then some (((-1 : Int), ()), ()) else (laws_szMatrixS.F (a_4, (r7.1.1 : Int), ())).bind fun r8 => if (decide ((r8.1.1 : Int) < (0 : Int))) = true then some (((-1 : Int), ()), ()) else some (((r8.1.1 : Int), ()), ())
theorem eq (a_1 : LL) (a_2 : Int) (a_3 : LI) (a_4 : LM) (left_5 : Int) : F ((a_1, (a_2, (a_3, a_4))), left_5, ()) = T a_1 a_2 a_3 a_4 left_5 := eq_any fun k => by kernel_rfl
theorem ok : CtxOK prog ctx := ⟨nilM, mixed_ok, tab_ok tab_good, consM ⟨laws_szComplex.S, consM ⟨laws_szInt64S.S, consM ⟨laws_szMatrixS.S, nilM⟩⟩⟩, nilM, nilM⟩
theorem S : Sound prog ⟨7, sig, F⟩ := sound_k (res := [.tmp 4]) func7 ok
end laws_szSheaf
namespace spec_l00In
noncomputable def sig : Sig := ⟨[.val false tI, .val false tI, .val false tI], [(.val false, .bool, .deep)]⟩
noncomputable def ctx : Ctx := ⟨tabOf tabl, [], [], [], [], []⟩
noncomputable def cfg : Cfg := ⟨ctx, [], [], fun _ => ([], []), fun _ => []⟩
noncomputable def code : Code := (f118).body.getD .skip
noncomputable def fin := finK ctx sig [.tmp 6]
noncomputable def F (d : Int × Int × Int × Unit) : OB := anyK (runFn cfg fin code (initSt sig.ps d 15))
variable (n_1 low_2 high_3 : Int)
noncomputable def T : OB := if (decide (n_1 ≥ low_2)) = true then some ((decide (n_1 ≤ high_3), ()), ()) else some ((false, ()), ())
theorem eq : F (n_1, low_2, high_3, ()) = T n_1 low_2 high_3 := eq_any fun k => by kernel_rfl
theorem ok : CtxOK prog ctx := ⟨nilM, mixed_ok, tab_ok tab_good, nilM, nilM, nilM⟩
theorem S : Sound prog ⟨118, sig, F⟩ := sound_k (res := [.tmp 6]) func118 ok
end spec_l00In
namespace spec_l00Rises
noncomputable def sig : Sig := ⟨[.val false tL, .val false tI, .val false tI], [(.val false, .bool, .deep)]⟩
noncomputable def ctx : Ctx := ⟨tabOf tabl, [⟨118, spec_l00In.sig, spec_l00In.F⟩], [], [], [], []⟩
noncomputable def cfg : Cfg := ⟨ctx, [], [], fun id => match id with | 2 => ([0, 1, 2, 7], []) | _ => ([], []), fun _ => []⟩
noncomputable def code : Code := (f119).body.getD .skip
noncomputable def fin := finK ctx sig [.tmp 6]
noncomputable def F (d : LI × Int × Int × Unit) : OB := anyK (runFn cfg fin code (initSt sig.ps d 38))
variable (k : Nat) (x4 : LI) (i5 i6 i7 : Int)
noncomputable def l2 : OB := Go.Vm.runT cfg fin k [.inLoop (sub [1, 0, 1, 0, 0] code), .inBlock 0, .code (sub [1, 1] code)] ⟨[vL x4, vI i5, vI i6, .dead, .dead, .dead, .dead, vI i7] ++ deads 30, []⟩
theorem l2_eq : l2 (k + 1) x4 i5 i6 i7 = if (decide (i7 < (x4.length : Int))) = true then if 0 ≤ i7 ∧ i7 < (x4.length : Int) then (spec_l00In.F ((x4.getD i7.toNat 0 : Int), i5, i6, ())).bind fun r8 => if (!(r8.1.1 : Bool)) = true then some ((false, ()), ()) else if (decide (i7 > (0 : Int))) = true then if 0 ≤ (IntKind.i64.wrap (i7 - (1 : Int))) ∧ (IntKind.i64.wrap (i7 - (1 : Int))) < (x4.length : Int) then if 0 ≤ i7 ∧ i7 < (x4.length : Int) then if (decide ((x4.getD (IntKind.i64.wrap (i7 - (1 : Int))).toNat 0) ≥ (x4.getD i7.toNat 0 : Int))) = true then some ((false, ()), ()) else l2 k x4 i5 i6 (IntKind.i64.wrap (i7 + (1 : Int))) else none else none else l2 k x4 i5 i6 (IntKind.i64.wrap (i7 + (1 : Int))) else none else some ((true, ()), ()) := by kernel_rfl
variable (list_1 : LI) (low_2 high_3 : Int)
noncomputable def T : OB := l2 k list_1 low_2 high_3 (0 : Int)
theorem of {r : (Bool × Unit) × (Unit)} (h : Ev (fun k => T k list_1 low_2 high_3) r) : F (list_1, low_2, high_3, ()) = some r := Ev.run (fun k => by kernel_rfl) h
theorem ok : CtxOK prog ctx := ⟨nilM, mixed_ok, tab_ok tab_good, consM ⟨spec_l00In.S, nilM⟩, nilM, nilM⟩
theorem S : Sound prog ⟨119, sig, F⟩ := sound_k (res := [.tmp 6]) func119 ok
end spec_l00Rises
namespace spec_l05Simplex
noncomputable def sig : Sig := ⟨[.val false tL], [(.val false, .bool, .deep)]⟩
noncomputable def ctx : Ctx := ⟨tabOf tabl, [⟨118, spec_l00In.sig, spec_l00In.F⟩, ⟨119, spec_l00Rises.sig, spec_l00Rises.F⟩], [], [], [], []⟩
noncomputable def cfg : Cfg := ⟨ctx, [], [], fun _ => ([], []), fun _ => []⟩
noncomputable def code : Code := (f69).body.getD .skip
noncomputable def fin := finK ctx sig [.tmp 2]
noncomputable def F (d : LI × Unit) : OB := anyK (runFn cfg fin code (initSt sig.ps d 10))
variable (s_1 : LI)
noncomputable def T : OB := (spec_l00In.F ((s_1.length : Int), (1 : Int), (4 : Int), ())).bind fun r2 => if (r2.1.1 : Bool) = true then (spec_l00Rises.F (s_1, (0 : Int), (9 : Int), ())).bind fun r3 => some (((r3.1.1 : Bool), ()), ()) else some ((false, ()), ())
theorem eq : F (s_1, ()) = T s_1 := eq_any fun k => by kernel_rfl
theorem ok : CtxOK prog ctx := ⟨nilM, mixed_ok, tab_ok tab_good, consM ⟨spec_l00In.S, consM ⟨spec_l00Rises.S, nilM⟩⟩, nilM, nilM⟩
theorem S : Sound prog ⟨69, sig, F⟩ := sound_k (res := [.tmp 2]) func69 ok
end spec_l05Simplex
namespace spec_l05Before
noncomputable def sig : Sig := ⟨[.val false tL, .val false tL], [(.val false, .bool, .deep)]⟩
noncomputable def ctx : Ctx := ⟨tabOf tabl, [], [], [], [], []⟩
noncomputable def cfg : Cfg := ⟨ctx, [], [], fun id => match id with | 4 => ([0, 1, 5], []) | _ => ([], []), fun _ => []⟩
noncomputable def code : Code := (f70).body.getD .skip
noncomputable def fin := finK ctx sig [.tmp 4]
noncomputable def F (d : LI × LI × Unit) : OB := anyK (runFn cfg fin code (initSt sig.ps d 40))
variable (k : Nat) (x3 x4 : LI) (i5 : Int)
noncomputable def l4 : OB := Go.Vm.runT cfg fin k [.inLoop (sub [1, 1, 0, 1, 0, 0] code), .inBlock 0, .code (sub [1, 1, 1] code)] ⟨[vL x3, vL x4, .dead, .dead, .dead, vI i5] ++ deads 34, []⟩
theorem l4_eq : l4 (k + 1) x3 x4 i5 = if (decide (i5 < (x3.length : Int))) = true then if 0 ≤ i5 ∧ i5 < (x3.length : Int) then if 0 ≤ i5 ∧ i5 < (x4.length : Int) then if ((x3.getD i5.toNat 0 : Int) != (x4.getD i5.toNat 0 : Int)) = true then if 0 ≤ i5 ∧ i5 < (x3.length : Int) then if 0 ≤ i5 ∧ i5 < (x4.length : Int) then some ((decide ((x3.getD i5.toNat 0 : Int) < (x4.getD i5.toNat 0 : Int)), ()), ()) else none else none else l4 k x3 x4 (IntKind.i64.wrap (i5 + (1 : Int))) else none else none else some ((false, ()), ()) := by kernel_rfl
variable (a_1 b_2 : LI)
noncomputable def T : OB := if ((a_1.length : Int) != (b_2.length : Int)) = true then some ((decide ((a_1.length : Int) < (b_2.length : Int)), ()), ()) else l4 k a_1 b_2 (0 : Int)
theorem of {r : (Bool × Unit) × (Unit)} (h : Ev (fun k => T k a_1 b_2) r) : F (a_1, b_2, ()) = some r := Ev.run (fun k => by kernel_rfl) h
theorem ok : CtxOK prog ctx := ⟨nilM, mixed_ok, tab_ok tab_good, nilM, nilM, nilM⟩
theorem S : Sound prog ⟨70, sig, F⟩ := sound_k (res := [.tmp 4]) func70 ok
end spec_l05Before
namespace spec_l00Same
noncomputable def sig : Sig := ⟨[.val false tL, .val false tL], [(.val false, .bool, .deep)]⟩
noncomputable def ctx : Ctx := ⟨tabOf tabl, [], [], [], [], []⟩
noncomputable def cfg : Cfg := ⟨ctx, [], [], fun id => match id with | 4 => ([0, 1, 5], []) | _ => ([], []), fun _ => []⟩
noncomputable def code : Code := (f120).body.getD .skip
noncomputable def fin := finK ctx sig [.tmp 4]
noncomputable def F (d : LI × LI × Unit) : OB := anyK (runFn cfg fin code (initSt sig.ps d 26))
variable (k : Nat) (x3 x4 : LI) (i5 : Int)
noncomputable def l4 : OB := Go.Vm.runT cfg fin k [.inLoop (sub [1, 1, 0, 1, 0, 0] code), .inBlock 0, .code (sub [1, 1, 1] code)] ⟨[vL x3, vL x4, .dead, .dead, .dead, vI i5] ++ deads 20, []⟩
theorem l4_eq : l4 (k + 1) x3 x4 i5 = if (decide (i5 < (x3.length : Int))) = true then if 0 ≤ i5 ∧ i5 < (x3.length : Int) then if 0 ≤ i5 ∧ i5 < (x4.length : Int) then if ((x3.getD i5.toNat 0 : Int) != (x4.getD i5.toNat 0 : Int)) = true then some ((false, ()), ()) else l4 k x3 x4 (IntKind.i64.wrap (i5 + (1 : Int))) else none else none else some ((true, ()), ()) := by kernel_rfl
variable (a_1 b_2 : LI)
noncomputable def T : OB := if ((a_1.length : Int) != (b_2.length : Int)) = true then some ((false, ()), ()) else l4 k a_1 b_2 (0 : Int)
theorem of {r : (Bool × Unit) × (Unit)} (h : Ev (fun k => T k a_1 b_2) r) : F (a_1, b_2, ()) = some r := Ev.run (fun k => by kernel_rfl) h
theorem ok : CtxOK prog ctx := ⟨nilM, mixed_ok, tab_ok tab_good, nilM, nilM, nilM⟩
theorem S : Sound prog ⟨120, sig, F⟩ := sound_k (res := [.tmp 4]) func120 ok
end spec_l00Same
namespace spec_l05Find
noncomputable def sig : Sig := ⟨[.rptr tQ, .val false tL], [(.val false, tI, .deep)]⟩
noncomputable def ctx : Ctx := ⟨tabOf tabl, [⟨120, spec_l00Same.sig, spec_l00Same.F⟩], [], [], [], []⟩
noncomputable def cfg : Cfg := ⟨ctx, [], [], fun id => match id with | 2 => ([0, 1, 5], []) | _ => ([], []), fun _ => []⟩
noncomputable def code : Code := (f71).body.getD .skip
noncomputable def fin := finK ctx sig [.tmp 4]
noncomputable def F (d : LL × LI × Unit) : OI := anyK (runFn cfg fin code (initSt sig.ps d 25))
variable (k : Nat) (x3 : LL) (x4 : LI) (i5 : Int)
noncomputable def l2 : OI := Go.Vm.runT cfg fin k [.inLoop (sub [1, 0, 1, 0, 0] code), .inBlock 0, .code (sub [1, 1] code)] ⟨[.rptr false [cQ x3], vL x4, .dead, .dead, .dead, vI i5] ++ deads 19, []⟩
theorem l2_eq : l2 (k + 1) x3 x4 i5 = if (decide (i5 < (x3.length : Int))) = true then if 0 ≤ i5 ∧ i5 < (x3.length : Int) then (spec_l00Same.F (x3.getD i5.toNat ([] : LI), x4, ())).bind fun r6 => if (r6.1.1 : Bool) = true then some ((i5, ()), ()) else l2 k x3 x4 (IntKind.i64.wrap (i5 + (1 : Int))) else none else some (((-1 : Int), ()), ()) := by kernel_rfl
variable (c_1 : LL) (s_2 : LI)
noncomputable def T : OI := l2 k c_1 s_2 (0 : Int)
theorem of {r : (Int × Unit) × (Unit)} (h : Ev (fun k => T k c_1 s_2) r) : F (c_1, s_2, ()) = some r := Ev.run (fun k => by kernel_rfl) h
theorem ok : CtxOK prog ctx := ⟨nilM, mixed_ok, tab_ok tab_good, consM ⟨spec_l00Same.S, nilM⟩, nilM, nilM⟩
theorem S : Sound prog ⟨71, sig, F⟩ := sound_k (res := [.tmp 4]) func71 ok
end spec_l05Find
namespace spec_l00Own
noncomputable def sig : Sig := ⟨[.val false tL], [(.val false, tL, .deep)]⟩
noncomputable def ctx : Ctx := ⟨tabOf tabl, [], [], [], [], []⟩
noncomputable def cfg : Cfg := ⟨ctx, [], [], fun _ => ([], []), fun _ => []⟩
noncomputable def code : Code := (f121).body.getD .skip
noncomputable def fin := finK ctx sig [.tmp 2]
noncomputable def F (d : LI × Unit) : OL := anyK (runFn cfg fin code (initSt sig.ps d 6))
variable (list_1 : LI)
noncomputable def T : OL := if ([] : LI).length + list_1.length ≤ bigA then some ((([] : LI) ++ list_1, ()), ()) else none
theorem eq : F (list_1, ()) = T list_1 := eq_any fun k => by kernel_rfl
theorem ok : CtxOK prog ctx := ⟨nilM, mixed_ok, tab_ok tab_good, nilM, nilM, nilM⟩
theorem S : Sound prog ⟨121, sig, F⟩ := sound_k (res := [.tmp 2]) func121 ok
end spec_l00Own
namespace spec_l05Drop
noncomputable def sig : Sig := ⟨[.val false tL, .val false tI], [(.val false, tL, .deep)]⟩
noncomputable def ctx : Ctx := ⟨tabOf tabl, [⟨121, spec_l00Own.sig, spec_l00Own.F⟩], [], [], [], []⟩
noncomputable def cfg : Cfg := ⟨ctx, [], [], fun _ => ([], []), fun _ => []⟩
noncomputable def code : Code := (f72).body.getD .skip
noncomputable def fin := finK ctx sig [.tmp 4]
noncomputable def F (d : LI × Int × Unit) : OL := anyK (runFn cfg fin code (initSt sig.ps d 16))
variable (s_1 : LI) (k_2 : Int)
noncomputable def T : OL := if 0 ≤ (0 : Int) ∧ (0 : Int) ≤ k_2 ∧ k_2 ≤ (s_1.length : Int) then (spec_l00Own.F (cutL s_1 (0 : Int) k_2, ())).bind fun r3 => if 0 ≤ (IntKind.i64.wrap (k_2 + (1 : Int))) ∧ (IntKind.i64.wrap (k_2 + (1 : Int))) ≤ (s_1.length : Int) ∧ (s_1.length : Int) ≤ (s_1.length : Int) then if r3.1.1.length + (cutL s_1 (IntKind.i64.wrap (k_2 + (1 : Int))) (s_1.length : Int)).length ≤ bigA then some ((r3.1.1 ++ (cutL s_1 (IntKind.i64.wrap (k_2 + (1 : Int))) (s_1.length : Int)), ()), ()) else none else none else none
theorem eq : F (s_1, k_2, ()) = T s_1 k_2 := eq_any fun k => by kernel_rfl
theorem ok : CtxOK prog ctx := ⟨nilM, mixed_ok, tab_ok tab_good, consM ⟨spec_l00Own.S, nilM⟩, nilM, nilM⟩
theorem S : Sound prog ⟨72, sig, F⟩ := sound_k (res := [.tmp 4]) func72 ok
end spec_l05Drop
namespace spec_l05Ok
noncomputable def sig : Sig := ⟨[.rptr tQ], [(.val false, .bool, .deep)]⟩
noncomputable def ctx : Ctx := ⟨tabOf tabl, [⟨69, spec_l05Simplex.sig, spec_l05Simplex.F⟩, ⟨70, spec_l05Before.sig, spec_l05Before.F⟩, ⟨71, spec_l05Find.sig, spec_l05Find.F⟩, ⟨72, spec_l05Drop.sig, spec_l05Drop.F⟩], [], [], [], []⟩
noncomputable def cfg : Cfg := ⟨ctx, [], [], fun id => match id with | 4 => ([0, 3], []) | 10 => ([0, 3, 4, 5], []) | _ => ([], []), fun _ => []⟩
noncomputable def code : Code := (f32).body.getD .skip
noncomputable def fin := finK ctx sig [.tmp 2]
noncomputable def F (d : LL × Unit) : OB := anyK (runFn cfg fin code (initSt sig.ps d 65))
variable (k : Nat) (x2 : LL) (i3 : Int)
noncomputable def l4 : OB := Go.Vm.runT cfg fin k [.inLoop (sub [1, 1, 0, 1, 0, 0] code), .inBlock 0, .code (sub [1, 1, 1] code)] ⟨[.rptr false [cQ x2], .dead, .dead, vI i3] ++ deads 61, []⟩
variable (x6 : LL) (i7 : Int) (x8 : LI) (i9 : Int)
noncomputable def l10 : OB := Go.Vm.runT cfg fin k [.inLoop (sub [1, 1, 0, 1, 0, 0, 1, 0, 0, 1, 1, 1, 0, 0] code), .inBlock 2, .inBlock 1, .code (sub [1, 1, 0, 1, 0, 0, 1, 1] code), .inLoop (sub [1, 1, 0, 1, 0, 0] code), .inBlock 0, .code (sub [1, 1, 1] code)] ⟨[.rptr false [cQ x6], .dead, .dead, vI i7, vL x8, vI i9] ++ deads 59, []⟩
theorem l4_eq : l4 (k + 1) x2 i3 = if (decide (i3 < (x2.length : Int))) = true then if 0 ≤ i3 ∧ i3 < (x2.length : Int) then (spec_l05Simplex.F (x2.getD i3.toNat ([] : LI), ())).bind fun r4 => if (!(r4.1.1 : Bool)) = true then some ((false, ()), ()) else if (decide (i3 > (0 : Int))) = true then if 0 ≤ (IntKind.i64.wrap (i3 - (1 : Int))) ∧ (IntKind.i64.wrap (i3 - (1 : Int))) < (x2.length : Int) then (spec_l05Before.F (x2.getD (IntKind.i64.wrap (i3 - (1 : Int))).toNat ([] : LI), x2.getD i3.toNat ([] : LI), ())).bind fun r5 => if (!(r5.1.1 : Bool)) = true then some ((false, ()), ()) else l10 k x2 i3 (x2.getD i3.toNat ([] : LI)) (0 : Int) else none else l10 k x2 i3 (x2.getD i3.toNat ([] : LI)) (0 : Int) else none else some ((true, ()), ()) := by kernel_rfl
theorem l10_eq : l10 (k + 1) x6 i7 x8 i9 = if (decide (i9 < (x8.length : Int))) = true then if (decide ((x8.length : Int) > (1 : Int))) = true then (spec_l05Drop.F (x8, i9, ())).bind fun r10 => (spec_l05Find.F (x6, r10.1.1, ())).bind fun r11 => if (decide ((r11.1.1 : Int) < (0 : Int))) = true then some ((false, ()), ()) else l10 k x6 i7 x8 (IntKind.i64.wrap (i9 + (1 : Int))) else l4 k x6 (IntKind.i64.wrap (i7 + (1 : Int))) else l4 k x6 (IntKind.i64.wrap (i7 + (1 : Int))) := by kernel_rfl
variable (toArray_1 : LL)
noncomputable def T : OB := if (decide ((toArray_1.length : Int) > (48 : Int))) = true then some ((false, ()), ()) else l4 k toArray_1 (0 : Int)
theorem of {r : (Bool × Unit) × (Unit)} (h : Ev (fun k => T k toArray_1) r) : F (toArray_1, ()) = some r := Ev.run (fun k => by kernel_rfl) h
theorem ok : CtxOK prog ctx := ⟨nilM, mixed_ok, tab_ok tab_good, consM ⟨spec_l05Simplex.S, consM ⟨spec_l05Before.S, consM ⟨spec_l05Find.S, consM ⟨spec_l05Drop.S, nilM⟩⟩⟩⟩, nilM, nilM⟩
theorem S : Sound prog ⟨32, sig, F⟩ := sound_k (res := [.tmp 2]) func32 ok
end spec_l05Ok
namespace spec_l09Place
noncomputable def sig : Sig := ⟨[.rptr tQ, .val false tI, .val false tI], [(.val false, tI, .deep)]⟩
noncomputable def ctx : Ctx := ⟨tabOf tabl, [], [], [], [], []⟩
noncomputable def cfg : Cfg := ⟨ctx, [], [], fun id => match id with | 3 => ([0, 1, 2, 7, 8], []) | _ => ([], []), fun _ => []⟩
noncomputable def code : Code := (f77).body.getD .skip
noncomputable def fin := finK ctx sig [.tmp 6]
noncomputable def F (d : LL × Int × Int × Unit) : OI := anyK (runFn cfg fin code (initSt sig.ps d 36))
variable (k : Nat) (x4 : LL) (i5 i6 i7 i8 : Int)
noncomputable def l3 : OI := Go.Vm.runT cfg fin k [.inLoop (sub [1, 1, 0, 1, 0, 0] code), .inBlock 0, .code (sub [1, 1, 1] code)] ⟨[.rptr false [cQ x4], vI i5, vI i6, .dead, .dead, .dead, .dead, vI i7, vI i8] ++ deads 27, []⟩
theorem l3_eq : l3 (k + 1) x4 i5 i6 i7 i8 = if (decide (i8 < i5)) = true then if 0 ≤ i8 ∧ i8 < (x4.length : Int) then if (decide (((x4.getD i8.toNat ([] : LI)).length : Int) > (1 : Int))) = true then if 0 ≤ i8 ∧ i8 < (x4.length : Int) then l3 k x4 i5 i6 (IntKind.i64.wrap (i7 + ((x4.getD i8.toNat ([] : LI)).length : Int))) (IntKind.i64.wrap (i8 + (1 : Int))) else none else l3 k x4 i5 i6 i7 (IntKind.i64.wrap (i8 + (1 : Int))) else none else some ((IntKind.i64.wrap (i7 + i6), ()), ()) := by kernel_rfl
variable (c_1 : LL) (simplex_2 i_3 : Int)
noncomputable def T : OI := l3 k c_1 simplex_2 i_3 (0 : Int) (0 : Int)
theorem of {r : (Int × Unit) × (Unit)} (h : Ev (fun k => T k c_1 simplex_2 i_3) r) : F (c_1, simplex_2, i_3, ()) = some r := Ev.run (fun k => by kernel_rfl) h
theorem ok : CtxOK prog ctx := ⟨nilM, mixed_ok, tab_ok tab_good, nilM, nilM, nilM⟩
theorem S : Sound prog ⟨77, sig, F⟩ := sound_k (res := [.tmp 6]) func77 ok
end spec_l09Place
namespace spec_l02Prime
noncomputable def sig : Sig := ⟨[.val false tI], [(.val false, .bool, .deep)]⟩
noncomputable def ctx : Ctx := ⟨tabOf tabl, [⟨118, spec_l00In.sig, spec_l00In.F⟩], [], [], [], []⟩
noncomputable def cfg : Cfg := ⟨ctx, [], [], fun id => match id with | 4 => ([0, 3], []) | _ => ([], []), fun _ => []⟩
noncomputable def code : Code := (f155).body.getD .skip
noncomputable def fin := finK ctx sig [.tmp 2]
noncomputable def F (d : Int × Unit) : OB := anyK (runFn cfg fin code (initSt sig.ps d 18))
variable (k : Nat) (i3 i4 : Int)
noncomputable def l4 : OB := Go.Vm.runT cfg fin k [.inLoop (sub [1, 1, 0, 1, 0, 0] code), .inBlock 0, .code (sub [1, 1, 1] code)] ⟨[vI i3, .dead, .dead, vI i4] ++ deads 14, []⟩
theorem l4_eq : l4 (k + 1) i3 i4 = if (decide ((IntKind.i64.wrap (i4 * i4)) ≤ i3)) = true then if i4 = 0 then none else if ((i3.tmod i4) == (0 : Int)) = true then some ((false, ()), ()) else l4 k i3 (IntKind.i64.wrap (i4 + (1 : Int))) else some ((true, ()), ()) := by kernel_rfl
variable (p_1 : Int)
noncomputable def T : OB := (spec_l00In.F (p_1, (2 : Int), (251 : Int), ())).bind fun r2 => if (!(r2.1.1 : Bool)) = true then some ((false, ()), ()) else l4 k p_1 (2 : Int)
theorem of {r : (Bool × Unit) × (Unit)} (h : Ev (fun k => T k p_1) r) : F (p_1, ()) = some r := Ev.run (fun k => by kernel_rfl) h
theorem ok : CtxOK prog ctx := ⟨nilM, mixed_ok, tab_ok tab_good, consM ⟨spec_l00In.S, nilM⟩, nilM, nilM⟩
theorem S : Sound prog ⟨155, sig, F⟩ := sound_k (res := [.tmp 2]) func155 ok
end spec_l02Prime
namespace spec_ValidPrime
noncomputable def sig : Sig := ⟨[.val false tI], [(.val false, .bool, .deep)]⟩
noncomputable def ctx : Ctx := ⟨tabOf tabl, [⟨155, spec_l02Prime.sig, spec_l02Prime.F⟩], [], [], [], []⟩
noncomputable def cfg : Cfg := ⟨ctx, [], [], fun _ => ([], []), fun _ => []⟩
noncomputable def code : Code := (f112).body.getD .skip
noncomputable def fin := finK ctx sig [.tmp 2]
noncomputable def F (d : Int × Unit) : OB := anyK (runFn cfg fin code (initSt sig.ps d 5))
variable (p_1 : Int)
noncomputable def T : OB := (spec_l02Prime.F (p_1, ())).bind fun r2 => some (((r2.1.1 : Bool), ()), ())
theorem eq : F (p_1, ()) = T p_1 := eq_any fun k => by kernel_rfl
theorem ok : CtxOK prog ctx := ⟨nilM, mixed_ok, tab_ok tab_good, consM ⟨spec_l02Prime.S, nilM⟩, nilM, nilM⟩
theorem S : Sound prog ⟨112, sig, F⟩ := sound_k (res := [.tmp 2]) func112 ok
end spec_ValidPrime
namespace spec_l05Of
noncomputable def sig : Sig := ⟨[.rptr tQ, .val false tI], [(.val false, tL, .deep)]⟩
noncomputable def ctx : Ctx := ⟨tabOf tabl, [], [], [], [], []⟩
noncomputable def cfg : Cfg := ⟨ctx, [], [], fun id => match id with | 3 => ([0, 1, 5, 6], [20]) | _ => ([], []), fun _ => []⟩
noncomputable def code : Code := (f52).body.getD .skip
noncomputable def fin := finK ctx sig [.tmp 4]
noncomputable def F (d : LL × Int × Unit) : OL := anyK (runFn cfg fin code (initSt sig.ps d 33))
variable (k : Nat) (x3 : LL) (i4 i5 : Int) (x6 : LI)
noncomputable def l3 : OL := Go.Vm.runT cfg fin k [.inLoop (sub [1, 1, 0, 1, 0, 0] code), .inBlock 0, .code (sub [1, 1, 1] code)] ⟨[.rptr false [cQ x3], vI i4, .dead, .dead, .dead, .view 20 (.root 0) 1 false, vI i5] ++ deads 26, [(20, ⟨false, [dL x6]⟩)]⟩
theorem l3_eq : l3 (k + 1) x3 i4 i5 x6 = if (decide (i5 < (x3.length : Int))) = true then if 0 ≤ i5 ∧ i5 < (x3.length : Int) then if (((x3.getD i5.toNat ([] : LI)).length : Int) == (IntKind.i64.wrap (i4 + (1 : Int)))) = true then if x6.length + ([i5] : LI).length ≤ bigA then l3 k x3 i4 (IntKind.i64.wrap (i5 + (1 : Int))) (x6 ++ ([i5])) else none else l3 k x3 i4 (IntKind.i64.wrap (i5 + (1 : Int))) x6 else none else some ((x6, ()), ()) := by kernel_rfl
variable (c_1 : LL) (dimension_2 : Int)
noncomputable def T : OL := l3 k c_1 dimension_2 (0 : Int) ([] : LI)
theorem of {r : (LI × Unit) × (Unit)} (h : Ev (fun k => T k c_1 dimension_2) r) : F (c_1, dimension_2, ()) = some r := Ev.run (fun k => by kernel_rfl) h
theorem ok : CtxOK prog ctx := ⟨nilM, mixed_ok, tab_ok tab_good, nilM, nilM, nilM⟩
theorem S : Sound prog ⟨52, sig, F⟩ := sound_k (res := [.tmp 4]) func52 ok
end spec_l05Of
namespace spec_l09Sum
noncomputable def sig : Sig := ⟨[.rptr tQ, .val false tL, .val false tI], [(.val false, tI, .deep)]⟩
noncomputable def ctx : Ctx := ⟨tabOf tabl, [⟨52, spec_l05Of.sig, spec_l05Of.F⟩], [], [], [], []⟩
noncomputable def cfg : Cfg := ⟨ctx, [], [], fun id => match id with | 4 => ([1, 7, 8, 9], [28]) | _ => ([], []), fun _ => []⟩
noncomputable def code : Code := (f148).body.getD .skip
noncomputable def fin := finK ctx sig [.tmp 6]
noncomputable def F (d : LL × LI × Int × Unit) : OI := anyK (runFn cfg fin code (initSt sig.ps d 29))
variable (k : Nat) (x5 : LI) (i6 i7 : Int) (x8 : LI)
noncomputable def l4 : OI := Go.Vm.runT cfg fin k [.inLoop (sub [1, 1, 1, 0, 1, 0, 0] code), .inBlock 0, .code (sub [1, 1, 1, 1] code)] ⟨[.dead, vL x5, .dead, .dead, .dead, .dead, .dead, .view 28 (.root 0) 1 false, vI i6, vI i7] ++ deads 19, [(28, ⟨false, [dL x8]⟩)]⟩
theorem l4_eq : l4 (k + 1) x5 i6 i7 x8 = if (decide (i7 < (x8.length : Int))) = true then if 0 ≤ i7 ∧ i7 < (x8.length : Int) then if 0 ≤ (x8.getD i7.toNat 0 : Int) ∧ (x8.getD i7.toNat 0 : Int) < (x5.length : Int) then l4 k x5 (IntKind.i64.wrap (i6 + (x5.getD (x8.getD i7.toNat 0 : Int).toNat 0))) (IntKind.i64.wrap (i7 + (1 : Int))) x8 else none else none else some ((i6, ()), ()) := by kernel_rfl
variable (c_1 : LL) (stalks_2 : LI) (k_3 : Int)
noncomputable def T : OI := (spec_l05Of.F (c_1, k_3, ())).bind fun r4 => l4 k stalks_2 (0 : Int) (0 : Int) r4.1.1
theorem of {r : (Int × Unit) × (Unit)} (h : Ev (fun k => T k c_1 stalks_2 k_3) r) : F (c_1, stalks_2, k_3, ()) = some r := Ev.run (fun k => by kernel_rfl) h
theorem ok : CtxOK prog ctx := ⟨nilM, mixed_ok, tab_ok tab_good, consM ⟨spec_l05Of.S, nilM⟩, nilM, nilM⟩
theorem S : Sound prog ⟨148, sig, F⟩ := sound_k (res := [.tmp 6]) func148 ok
end spec_l09Sum
namespace spec_l03Column
noncomputable def sig : Sig := ⟨[.val false tL, .val false tI, .val false tI], [(.val false, .bool, .deep)]⟩
noncomputable def ctx : Ctx := ⟨tabOf tabl, [⟨118, spec_l00In.sig, spec_l00In.F⟩], [], [], [], []⟩
noncomputable def cfg : Cfg := ⟨ctx, [], [], fun id => match id with | 2 => ([0, 1, 2, 7], []) | _ => ([], []), fun _ => []⟩
noncomputable def code : Code := (f156).body.getD .skip
noncomputable def fin := finK ctx sig [.tmp 6]
noncomputable def F (d : LI × Int × Int × Unit) : OB := anyK (runFn cfg fin code (initSt sig.ps d 26))
variable (k : Nat) (x4 : LI) (i5 i6 i7 : Int)
noncomputable def l2 : OB := Go.Vm.runT cfg fin k [.inLoop (sub [1, 0, 1, 0, 0] code), .inBlock 0, .code (sub [1, 1] code)] ⟨[vL x4, vI i5, vI i6, .dead, .dead, .dead, .dead, vI i7] ++ deads 18, []⟩
theorem l2_eq : l2 (k + 1) x4 i5 i6 i7 = if (decide (i7 < (x4.length : Int))) = true then if 0 ≤ i7 ∧ i7 < (x4.length : Int) then (spec_l00In.F ((x4.getD i7.toNat 0 : Int), (0 : Int), IntKind.i64.wrap (i6 - (1 : Int)), ())).bind fun r8 => if (!(r8.1.1 : Bool)) = true then some ((false, ()), ()) else l2 k x4 i5 i6 (IntKind.i64.wrap (i7 + (1 : Int))) else none else some (((x4.length : Int) == i5, ()), ()) := by kernel_rfl
variable (v_1 : LI) (n_2 p_3 : Int)
noncomputable def T : OB := l2 k v_1 n_2 p_3 (0 : Int)
theorem of {r : (Bool × Unit) × (Unit)} (h : Ev (fun k => T k v_1 n_2 p_3) r) : F (v_1, n_2, p_3, ()) = some r := Ev.run (fun k => by kernel_rfl) h
theorem ok : CtxOK prog ctx := ⟨nilM, mixed_ok, tab_ok tab_good, consM ⟨spec_l00In.S, nilM⟩, nilM, nilM⟩
theorem S : Sound prog ⟨156, sig, F⟩ := sound_k (res := [.tmp 6]) func156 ok
end spec_l03Column
namespace spec_l09Stalks
noncomputable def sig : Sig := ⟨[.rptr tQ, .val false tL], [(.val false, .bool, .deep)]⟩
noncomputable def ctx : Ctx := ⟨tabOf tabl, [⟨148, spec_l09Sum.sig, spec_l09Sum.F⟩, ⟨156, spec_l03Column.sig, spec_l03Column.F⟩], [], [], [], []⟩
noncomputable def cfg : Cfg := ⟨ctx, [], [], fun id => match id with | 4 => ([0, 1, 5], []) | _ => ([], []), fun _ => []⟩
noncomputable def code : Code := (f113).body.getD .skip
noncomputable def fin := finK ctx sig [.tmp 4]
noncomputable def F (d : LL × LI × Unit) : OB := anyK (runFn cfg fin code (initSt sig.ps d 23))
variable (k : Nat) (x4 : LL) (x5 : LI) (i6 : Int)
noncomputable def l4 : OB := Go.Vm.runT cfg fin k [.inLoop (sub [1, 1, 0, 1, 0, 0] code), .inBlock 0, .code (sub [1, 1, 1] code)] ⟨[.rptr false [cQ x4], vL x5, .dead, .dead, .dead, vI i6] ++ deads 17, []⟩
theorem l4_eq : l4 (k + 1) x4 x5 i6 = if (decide (i6 ≤ (3 : Int))) = true then (spec_l09Sum.F (x4, x5, i6, ())).bind fun r7 => if (decide ((r7.1.1 : Int) > (32 : Int))) = true then some ((false, ()), ()) else l4 k x4 x5 (IntKind.i64.wrap (i6 + (1 : Int))) else some ((true, ()), ()) := by kernel_rfl
variable (c_1 : LL) (stalks_2 : LI)
noncomputable def T : OB := (spec_l03Column.F (stalks_2, (c_1.length : Int), (4 : Int), ())).bind fun r3 => if (!(r3.1.1 : Bool)) = true then some ((false, ()), ()) else l4 k c_1 stalks_2 (0 : Int)
theorem of {r : (Bool × Unit) × (Unit)} (h : Ev (fun k => T k c_1 stalks_2) r) : F (c_1, stalks_2, ()) = some r := Ev.run (fun k => by kernel_rfl) h
theorem ok : CtxOK prog ctx := ⟨nilM, mixed_ok, tab_ok tab_good, consM ⟨spec_l09Sum.S, consM ⟨spec_l03Column.S, nilM⟩⟩, nilM, nilM⟩
theorem S : Sound prog ⟨113, sig, F⟩ := sound_k (res := [.tmp 4]) func113 ok
end spec_l09Stalks
namespace spec_l09Count
noncomputable def sig : Sig := ⟨[.rptr tQ], [(.val false, tI, .deep)]⟩
noncomputable def ctx : Ctx := ⟨tabOf tabl, [⟨77, spec_l09Place.sig, spec_l09Place.F⟩], [], [], [], []⟩
noncomputable def cfg : Cfg := ⟨ctx, [], [], fun _ => ([], []), fun _ => []⟩
noncomputable def code : Code := (f114).body.getD .skip
noncomputable def fin := finK ctx sig [.tmp 2]
noncomputable def F (d : LL × Unit) : OI := anyK (runFn cfg fin code (initSt sig.ps d 10))
variable (c_1 : LL)
noncomputable def T : OI := (spec_l09Place.F (c_1, (c_1.length : Int), (0 : Int), ())).bind fun r2 => some (((r2.1.1 : Int), ()), ())
theorem eq : F (c_1, ()) = T c_1 := eq_any fun k => by kernel_rfl
theorem ok : CtxOK prog ctx := ⟨nilM, mixed_ok, tab_ok tab_good, consM ⟨spec_l09Place.S, nilM⟩, nilM, nilM⟩
theorem S : Sound prog ⟨114, sig, F⟩ := sound_k (res := [.tmp 2]) func114 ok
end spec_l09Count
namespace spec_l05Faces
noncomputable def sig : Sig := ⟨[.rptr tQ, .val false tI], [(.val false, tL, .deep)]⟩
noncomputable def ctx : Ctx := ⟨tabOf tabl, [⟨71, spec_l05Find.sig, spec_l05Find.F⟩, ⟨72, spec_l05Drop.sig, spec_l05Drop.F⟩], [], [], [], []⟩
noncomputable def cfg : Cfg := ⟨ctx, [], [], fun id => match id with | 4 => ([0, 5, 6, 7], [24]) | _ => ([], []), fun _ => []⟩
noncomputable def code : Code := (f75).body.getD .skip
noncomputable def fin := finK ctx sig [.tmp 4]
noncomputable def F (d : LL × Int × Unit) : OL := anyK (runFn cfg fin code (initSt sig.ps d 36))
variable (k : Nat) (x3 : LL) (x4 : LI) (i5 : Int) (x6 : LI)
noncomputable def l4 : OL := Go.Vm.runT cfg fin k [.inLoop (sub [1, 1, 1, 0, 1, 0, 0] code), .inBlock 0, .code (sub [1, 1, 1, 1] code)] ⟨[.rptr false [cQ x3], .dead, .dead, .dead, .dead, vL x4, .view 24 (.root 0) 1 false, vI i5] ++ deads 28, [(24, ⟨false, [dL x6]⟩)]⟩
theorem l4_eq : l4 (k + 1) x3 x4 i5 x6 = if (decide (i5 < (x4.length : Int))) = true then if (decide ((x4.length : Int) > (1 : Int))) = true then (spec_l05Drop.F (x4, i5, ())).bind fun r7 => (spec_l05Find.F (x3, r7.1.1, ())).bind fun r8 => if x6.length + ([(r8.1.1 : Int)] : LI).length ≤ bigA then l4 k x3 x4 (IntKind.i64.wrap (i5 + (1 : Int))) (x6 ++ ([(r8.1.1 : Int)])) else none else some ((x6, ()), ()) else some ((x6, ()), ()) := by kernel_rfl
variable (c_1 : LL) (k_2 : Int)
noncomputable def T : OL := if 0 ≤ k_2 ∧ k_2 < (c_1.length : Int) then l4 k c_1 (c_1.getD k_2.toNat ([] : LI)) (0 : Int) ([] : LI) else none
theorem of {r : (LI × Unit) × (Unit)} (h : Ev (fun k => T k c_1 k_2) r) : F (c_1, k_2, ()) = some r := Ev.run (fun k => by kernel_rfl) h
theorem ok : CtxOK prog ctx := ⟨nilM, mixed_ok, tab_ok tab_good, consM ⟨spec_l05Find.S, consM ⟨spec_l05Drop.S, nilM⟩⟩, nilM, nilM⟩
theorem S : Sound prog ⟨75, sig, F⟩ := sound_k (res := [.tmp 4]) func75 ok
end spec_l05Faces
namespace spec_l03Ok
noncomputable def sig : Sig := ⟨[.rptr TMatrix], [(.val false, .bool, .deep)]⟩
noncomputable def ctx : Ctx := ⟨tabOf tabl, [⟨112, spec_ValidPrime.sig, spec_ValidPrime.F⟩, ⟨118, spec_l00In.sig, spec_l00In.F⟩, ⟨156, spec_l03Column.sig, spec_l03Column.F⟩], [], [], [], []⟩
noncomputable def cfg : Cfg := ⟨ctx, [], [], fun _ => ([], []), fun _ => []⟩
noncomputable def code : Code := (f157).body.getD .skip
noncomputable def fin := finK ctx sig [.tmp 2]
noncomputable def F (d : MX × Unit) : OB := anyK (runFn cfg fin code (initSt sig.ps d 42))
variable (m_1 m_2 m_3 : Int) (m_4 : LI)
noncomputable def T : OB := (spec_ValidPrime.F (m_1, ())).bind fun r5 => if (r5.1.1 : Bool) = true then (spec_l00In.F (m_2, (0 : Int), (32 : Int), ())).bind fun r6 => if (r6.1.1 : Bool) = true then (spec_l00In.F (m_3, (0 : Int), (32 : Int), ())).bind fun r7 => if (r7.1.1 : Bool) = true then (spec_l03Column.F (m_4, IntKind.i64.wrap (m_2 * m_3), m_1, ())).bind fun r8 => some (((r8.1.1 : Bool), ()), ()) else some ((false, ()), ()) else some ((false, ()), ()) else some ((false, ()), ())
theorem eq : F ((m_1, (m_2, (m_3, m_4))), ()) = T m_1 m_2 m_3 m_4 := eq_any fun k => by kernel_rfl
theorem ok : CtxOK prog ctx := ⟨nilM, mixed_ok, tab_ok tab_good, consM ⟨spec_ValidPrime.S, consM ⟨spec_l00In.S, consM ⟨spec_l03Column.S, nilM⟩⟩⟩, nilM, nilM⟩
theorem S : Sound prog ⟨157, sig, F⟩ := sound_k (res := [.tmp 2]) func157 ok
end spec_l03Ok
namespace spec_l09Map
noncomputable def sig : Sig := ⟨[.rptr TSheaf, .val false tI, .val false tI, .rptr TMatrix], [(.val false, .bool, .deep)]⟩
noncomputable def ctx : Ctx := ⟨tabOf tabl, [⟨75, spec_l05Faces.sig, spec_l05Faces.F⟩, ⟨157, spec_l03Ok.sig, spec_l03Ok.F⟩], [], [], [], []⟩
noncomputable def cfg : Cfg := ⟨ctx, [], [], fun _ => ([], []), fun _ => []⟩
noncomputable def code : Code := (f115).body.getD .skip
noncomputable def fin := finK ctx sig [.tmp 8]
noncomputable def F (d : SF × Int × Int × MX × Unit) : OB := anyK (runFn cfg fin code (initSt sig.ps d 59))
noncomputable def T (s_1 : LL) (s_2 : Int) (s_3 : LI) (s_4 : LM) (simplex_5 i_6 m_7 m_8 m_9 : Int) (m_10 : LI) : OB := (spec_l05Faces.F (s_1, simplex_5, ())).bind fun r11 => if 0 ≤ i_6 ∧ i_6 < (r11.1.1.length : Int) then (spec_l03Ok.F ((m_7, (m_8, (m_9, m_10))), ())).bind fun r12 => if (r12.1.1 : Bool) = true then if (m_7 == s_2) = true then if 0 ≤ simplex_5 ∧ simplex_5 < (s_3.length : Int) then if (m_8 == (s_3.getD simplex_5.toNat 0 : Int)) = true then if 0 ≤ (r11.1.1.getD i_6.toNat 0 : Int) ∧ (r11.1.1.getD i_6.toNat 0 : Int) < (s_3.length : Int) then some ((m_9 == (s_3.getD (r11.1.1.getD i_6.toNat 0 : Int).toNat 0), ()), ()) else none else some ((false, ()), ()) else none else some ((false, ()), ()) else some ((false, ()), ()) else none
theorem eq (s_1 : LL) (s_2 : Int) (s_3 : LI) (s_4 : LM) (simplex_5 i_6 m_7 m_8 m_9 : Int) (m_10 : LI) : F ((s_1, (s_2, (s_3, s_4))), simplex_5, i_6, (m_7, (m_8, (m_9, m_10))), ()) = T s_1 s_2 s_3 s_4 simplex_5 i_6 m_7 m_8 m_9 m_10 := eq_any fun k => by kernel_rfl
theorem ok : CtxOK prog ctx := ⟨nilM, mixed_ok, tab_ok tab_good, consM ⟨spec_l05Faces.S, consM ⟨spec_l03Ok.S, nilM⟩⟩, nilM, nilM⟩
theorem S : Sound prog ⟨115, sig, F⟩ := sound_k (res := [.tmp 8]) func115 ok
end spec_l09Map
namespace spec_l09Ok
noncomputable def sig : Sig := ⟨[.rptr TSheaf], [(.val false, .bool, .deep)]⟩
noncomputable def ctx : Ctx := ⟨tabOf tabl, [⟨32, spec_l05Ok.sig, spec_l05Ok.F⟩, ⟨77, spec_l09Place.sig, spec_l09Place.F⟩, ⟨112, spec_ValidPrime.sig, spec_ValidPrime.F⟩, ⟨113, spec_l09Stalks.sig, spec_l09Stalks.F⟩, ⟨114, spec_l09Count.sig, spec_l09Count.F⟩, ⟨115, spec_l09Map.sig, spec_l09Map.F⟩], [], [], [], []⟩
noncomputable def cfg : Cfg := ⟨ctx, [], [], fun id => match id with | 4 => ([0, 3], []) | 7 => ([0, 3, 4], []) | _ => ([], []), fun _ => []⟩
noncomputable def code : Code := (f67).body.getD .skip
noncomputable def fin := finK ctx sig [.tmp 2]
noncomputable def F (d : SF × Unit) : OB := anyK (runFn cfg fin code (initSt sig.ps d 92))
variable (k : Nat) (x9 : LL) (i10 : Int) (x11 : LI) (x12 : LM) (i13 : Int)
noncomputable def l4 : OB := Go.Vm.runT cfg fin k [.inLoop (sub [1, 1, 0, 1, 0, 0] code), .inBlock 0, .code (sub [1, 1, 1] code)] ⟨[.rptr false [cQ x9, cI i10, cL x11, ⟨(.sl TMatrix), .sh, x12⟩], .dead, .dead, vI i13] ++ deads 88, []⟩
variable (x14 : LL) (i15 : Int) (x16 : LI) (x17 : LM) (i18 i19 : Int)
noncomputable def l7 : OB := Go.Vm.runT cfg fin k [.inLoop (sub [1, 1, 0, 1, 0, 0, 1, 0, 0, 1, 0, 0] code), .inBlock 2, .inBlock 1, .code (sub [1, 1, 0, 1, 0, 0, 1, 1] code), .inLoop (sub [1, 1, 0, 1, 0, 0] code), .inBlock 0, .code (sub [1, 1, 1] code)] ⟨[.rptr false [cQ x14, cI i15, cL x16, ⟨(.sl TMatrix), .sh, x17⟩], .dead, .dead, vI i18, vI i19] ++ deads 87, []⟩
theorem l4_eq : l4 (k + 1) x9 i10 x11 x12 i13 = if (decide (i13 < (x9.length : Int))) = true then l7 k x9 i10 x11 x12 i13 (0 : Int) else some ((true, ()), ()) := by kernel_rfl
theorem l7_eq : l7 (k + 1) x14 i15 x16 x17 i18 i19 = if 0 ≤ i18 ∧ i18 < (x14.length : Int) then if (decide (i19 < ((x14.getD i18.toNat ([] : LI)).length : Int))) = true then if 0 ≤ i18 ∧ i18 < (x14.length : Int) then if (decide (((x14.getD i18.toNat ([] : LI)).length : Int) > (1 : Int))) = true then (spec_l09Place.F (x14, i18, i19, ())).bind fun r20 => if 0 ≤ (r20.1.1 : Int) ∧ (r20.1.1 : Int) < (x17.length : Int) then (spec_l09Map.F ((x14, (i15, (x16, x17))), i18, i19, x17.getD (r20.1.1 : Int).toNat (0, 0, 0, ([] : LI)), ())).bind fun r21 => if (!(r21.1.1 : Bool)) = true then some ((false, ()), ()) else l7 k x14 i15 x16 x17 i18 (IntKind.i64.wrap (i19 + (1 : Int))) else none else l4 k x14 i15 x16 x17 (IntKind.i64.wrap (i18 + (1 : Int))) else none else l4 k x14 i15 x16 x17 (IntKind.i64.wrap (i18 + (1 : Int))) else none := by kernel_rfl
variable (toArray_1 : LL) (toArray_2 : Int) (toArray_3 : LI) (toArray_4 : LM)
noncomputable def T : OB := (spec_l05Ok.F (toArray_1, ())).bind fun r5 => if (!(r5.1.1 : Bool)) = true then some ((false, ()), ()) else (spec_ValidPrime.F (toArray_2, ())).bind fun r6 => if (!(r6.1.1 : Bool)) = true then some ((false, ()), ()) else (spec_l09Stalks.F (toArray_1, toArray_3, ())).bind fun r7 => if (!(r7.1.1 : Bool)) = true then some ((false, ()), ()) else (spec_l09Count.F (toArray_1, ())).bind fun r8 => if ((toArray_4.length : Int) != (r8.1.1 : Int)) = true then some ((false, ()), ()) else l4 k toArray_1 toArray_2 toArray_3 toArray_4 (0 : Int)
theorem of {r : (Bool × Unit) × (Unit)} (h : Ev (fun k => T k toArray_1 toArray_2 toArray_3 toArray_4) r) : F ((toArray_1, (toArray_2, (toArray_3, toArray_4))), ()) = some r := Ev.run (fun k => by kernel_rfl) h
theorem ok : CtxOK prog ctx := ⟨nilM, mixed_ok, tab_ok tab_good, consM ⟨spec_l05Ok.S, consM ⟨spec_l09Place.S, consM ⟨spec_ValidPrime.S, consM ⟨spec_l09Stalks.S, consM ⟨spec_l09Count.S, consM ⟨spec_l09Map.S, nilM⟩⟩⟩⟩⟩⟩, nilM, nilM⟩
theorem S : Sound prog ⟨67, sig, F⟩ := sound_k (res := [.tmp 2]) func67 ok
end spec_l09Ok
namespace spec_l03Zero
noncomputable def sig : Sig := ⟨[.val false tI, .val false tI, .val false tI], [(.val true, TMatrix, .deep)]⟩
noncomputable def ctx : Ctx := ⟨tabOf tabl, [], [], [], [], []⟩
noncomputable def cfg : Cfg := ⟨ctx, [], [], fun _ => ([], []), fun _ => []⟩
noncomputable def code : Code := (f124).body.getD .skip
noncomputable def fin := finK ctx sig [.cell 6 86]
noncomputable def F (d : Int × Int × Int × Unit) : OM := anyK (runFn cfg fin code (initSt sig.ps d 15))
variable (p_1 rows_2 columns_3 : Int)
noncomputable def T : OM := if 0 ≤ (IntKind.i64.wrap (rows_2 * columns_3)) ∧ (IntKind.i64.wrap (rows_2 * columns_3)) ≤ (bigN : Int) then some (((p_1, (rows_2, (columns_3, List.replicate (IntKind.i64.wrap (rows_2 * columns_3)).toNat 0))), ()), ()) else none
theorem eq : F (p_1, rows_2, columns_3, ()) = T p_1 rows_2 columns_3 := eq_any fun k => by kernel_rfl
theorem ok : CtxOK prog ctx := ⟨nilM, mixed_ok, tab_ok tab_good, nilM, nilM, nilM⟩
theorem S : Sound prog ⟨124, sig, F⟩ := sound_k (res := [.cell 6 86]) func124 ok
end spec_l03Zero
namespace spec_l03Times
noncomputable def sig : Sig := ⟨[.rptr TMatrix, .rptr TMatrix], [(.val true, TMatrix, .deep)]⟩
noncomputable def ctx : Ctx := ⟨tabOf tabl, [⟨124, spec_l03Zero.sig, spec_l03Zero.F⟩], [], [], [], []⟩
noncomputable def cfg : Cfg := ⟨ctx, [], [], fun id => match id with | 3 => ([0, 1, 4, 5, 6], [16, 20]) | 6 => ([0, 1, 4, 5, 6, 7], [16, 20]) | 10 => ([0, 1, 4, 5, 6, 7, 8, 9], [16, 20]) | _ => ([], []), fun _ => []⟩
noncomputable def code : Code := (f126).body.getD .skip
noncomputable def fin := finK ctx sig [.cell 4 86]
noncomputable def F (d : MX × MX × Unit) : OM := anyK (runFn cfg fin code (initSt sig.ps d 96))
variable (k : Nat) (i10 i11 i12 : Int) (x13 : LI) (i14 i15 i16 : Int) (x17 : LI) (i18 i19 i20 i21 : Int) (x22 : LI) (i23 i24 i25 : Int) (x26 : LI)
noncomputable def l3 : OM := Go.Vm.runT cfg fin k [.inLoop (sub [1, 1, 0, 1, 0, 0] code), .inBlock 0, .code (sub [1, 1, 1] code)] ⟨[.rptr false [cI i10, cI i11, cI i12, cL x13], .rptr false [cI i14, cI i15, cI i16, cL x17], .dead, .dead, .ref 16 (.root 0), .ref 20 (.root 0), vI i18] ++ deads 89, [(16, ⟨true, [cI i19, cI i20, cI i21, dL x22]⟩), (20, ⟨true, [cI i23, cI i24, cI i25, dL x26]⟩)]⟩
variable (i27 i28 i29 : Int) (x30 : LI) (i31 i32 i33 : Int) (x34 : LI) (i35 i36 i37 i38 i39 : Int) (x40 : LI) (i41 i42 i43 : Int) (x44 : LI)
noncomputable def l6 : OM := Go.Vm.runT cfg fin k [.inLoop (sub [1, 1, 0, 1, 0, 0, 1, 0, 0, 1, 0, 0] code), .inBlock 2, .inBlock 1, .code (sub [1, 1, 0, 1, 0, 0, 1, 1] code), .inLoop (sub [1, 1, 0, 1, 0, 0] code), .inBlock 0, .code (sub [1, 1, 1] code)] ⟨[.rptr false [cI i27, cI i28, cI i29, cL x30], .rptr false [cI i31, cI i32, cI i33, cL x34], .dead, .dead, .ref 16 (.root 0), .ref 20 (.root 0), vI i35, vI i36] ++ deads 88, [(16, ⟨true, [cI i37, cI i38, cI i39, dL x40]⟩), (20, ⟨true, [cI i41, cI i42, cI i43, dL x44]⟩)]⟩
variable (i45 i46 i47 : Int) (x48 : LI) (i49 i50 i51 : Int) (x52 : LI) (i53 i54 i55 i56 i57 i58 i59 : Int) (x60 : LI) (i61 i62 i63 : Int) (x64 : LI)
noncomputable def l10 : OM := Go.Vm.runT cfg fin k [.inLoop (sub [1, 1, 0, 1, 0, 0, 1, 0, 0, 1, 0, 0, 1, 0, 0, 1, 0, 1, 0, 0] code), .inBlock 4, .code (sub [1, 1, 0, 1, 0, 0, 1, 0, 0, 1, 0, 0, 1, 0, 0, 1, 1] code), .inBlock 3, .code (sub [1, 1, 0, 1, 0, 0, 1, 0, 0, 1, 0, 0, 1, 1] code), .inLoop (sub [1, 1, 0, 1, 0, 0, 1, 0, 0, 1, 0, 0] code), .inBlock 2, .inBlock 1, .code (sub [1, 1, 0, 1, 0, 0, 1, 1] code), .inLoop (sub [1, 1, 0, 1, 0, 0] code), .inBlock 0, .code (sub [1, 1, 1] code)] ⟨[.rptr false [cI i45, cI i46, cI i47, cL x48], .rptr false [cI i49, cI i50, cI i51, cL x52], .dead, .dead, .ref 16 (.root 0), .ref 20 (.root 0), vI i53, vI i54, vI i55, vI i56] ++ deads 86, [(16, ⟨true, [cI i57, cI i58, cI i59, dL x60]⟩), (20, ⟨true, [cI i61, cI i62, cI i63, dL x64]⟩)]⟩
theorem l3_eq : l3 (k + 1) i10 i11 i12 x13 i14 i15 i16 x17 i18 i19 i20 i21 x22 i23 i24 i25 x26 = if (decide (i18 < i11)) = true then l6 k i10 i11 i12 x13 i14 i15 i16 x17 i18 (0 : Int) i19 i20 i21 x22 i23 i24 i25 x26 else some (((i23, (i24, (i25, x26))), ()), ()) := by kernel_rfl
theorem l6_eq : l6 (k + 1) i27 i28 i29 x30 i31 i32 i33 x34 i35 i36 i37 i38 i39 x40 i41 i42 i43 x44 = if (decide (i36 < i33)) = true then l10 k i27 i28 i29 x30 i31 i32 i33 x34 i35 i36 (0 : Int) (0 : Int) i37 i38 i39 x40 i41 i42 i43 x44 else l3 k i27 i28 i29 x30 i31 i32 i33 x34 (IntKind.i64.wrap (i35 + (1 : Int))) i37 i38 i39 x40 i41 i42 i43 x44 := by kernel_rfl
theorem l10_eq : l10 (k + 1) i45 i46 i47 x48 i49 i50 i51 x52 i53 i54 i55 i56 i57 i58 i59 x60 i61 i62 i63 x64 = if (decide (i56 < i47)) = true then if 0 ≤ (IntKind.i64.wrap ((IntKind.i64.wrap (i53 * i47)) + i56)) ∧ (IntKind.i64.wrap ((IntKind.i64.wrap (i53 * i47)) + i56)) < (x48.length : Int) then if 0 ≤ (IntKind.i64.wrap ((IntKind.i64.wrap (i56 * i51)) + i54)) ∧ (IntKind.i64.wrap ((IntKind.i64.wrap (i56 * i51)) + i54)) < (x52.length : Int) then l10 k i45 i46 i47 x48 i49 i50 i51 x52 i53 i54 (IntKind.i64.wrap (i55 + (IntKind.i64.wrap ((x48.getD (IntKind.i64.wrap ((IntKind.i64.wrap (i53 * i47)) + i56)).toNat 0 : Int) * (x52.getD (IntKind.i64.wrap ((IntKind.i64.wrap (i56 * i51)) + i54)).toNat 0 : Int))))) (IntKind.i64.wrap (i56 + (1 : Int))) i57 i58 i59 x60 i61 i62 i63 x64 else none else none else if i45 = 0 then none else if 0 ≤ (IntKind.i64.wrap ((IntKind.i64.wrap (i53 * i51)) + i54)) ∧ (IntKind.i64.wrap ((IntKind.i64.wrap (i53 * i51)) + i54)) < (x64.length : Int) then l6 k i45 i46 i47 x48 i49 i50 i51 x52 i53 (IntKind.i64.wrap (i54 + (1 : Int))) i57 i58 i59 x60 i61 i62 i63 (x64.set (IntKind.i64.wrap ((IntKind.i64.wrap (i53 * i51)) + i54)).toNat (i55.tmod i45)) else none := by kernel_rfl
variable (toArray_1 toArray_2 toArray_3 : Int) (toArray_4 : LI) (a_5 a_6 a_7 : Int) (a_8 : LI)
noncomputable def T : OM := (spec_l03Zero.F (toArray_1, toArray_2, a_7, ())).bind fun r9 => l3 k toArray_1 toArray_2 toArray_3 toArray_4 a_5 a_6 a_7 a_8 (0 : Int) 0 0 0 ([]) (r9.1.1.1 : Int) (r9.1.1.2.1 : Int) (r9.1.1.2.2.1 : Int) r9.1.1.2.2.2
theorem of {r : (MX × Unit) × (Unit)} (h : Ev (fun k => T k toArray_1 toArray_2 toArray_3 toArray_4 a_5 a_6 a_7 a_8) r) : F ((toArray_1, (toArray_2, (toArray_3, toArray_4))), (a_5, (a_6, (a_7, a_8))), ()) = some r := Ev.run (fun k => by kernel_rfl) h
theorem ok : CtxOK prog ctx := ⟨nilM, mixed_ok, tab_ok tab_good, consM ⟨spec_l03Zero.S, nilM⟩, nilM, nilM⟩
theorem S : Sound prog ⟨126, sig, F⟩ := sound_k (res := [.cell 4 86]) func126 ok
end spec_l03Times
namespace spec_l09Get
noncomputable def sig : Sig := ⟨[.rptr TSheaf, .val false tI, .val false tI], [(.ptr, TMatrix, .sh)]⟩
noncomputable def ctx : Ctx := ⟨tabOf tabl, [⟨77, spec_l09Place.sig, spec_l09Place.F⟩], [], [], [], []⟩
noncomputable def cfg : Cfg := ⟨ctx, [], [], fun _ => ([], []), fun _ => []⟩
noncomputable def code : Code := (f127).body.getD .skip
noncomputable def fin := finK ctx sig [.tmp 6]
noncomputable def F (d : SF × Int × Int × Unit) : OM := anyK (runFn cfg fin code (initSt sig.ps d 18))
noncomputable def T (s_1 : LL) (s_2 : Int) (s_3 : LI) (s_4 : LM) (simplex_5 i_6 : Int) : OM := (spec_l09Place.F (s_1, simplex_5, i_6, ())).bind fun r7 => if 0 ≤ (r7.1.1 : Int) ∧ (r7.1.1 : Int) < (s_4.length : Int) then some ((s_4.getD (r7.1.1 : Int).toNat (0, 0, 0, ([] : LI)), ()), ()) else none
theorem eq (s_1 : LL) (s_2 : Int) (s_3 : LI) (s_4 : LM) (simplex_5 i_6 : Int) : F ((s_1, (s_2, (s_3, s_4))), simplex_5, i_6, ()) = T s_1 s_2 s_3 s_4 simplex_5 i_6 := eq_any fun k => by kernel_rfl
theorem ok : CtxOK prog ctx := ⟨nilM, mixed_ok, tab_ok tab_good, consM ⟨spec_l09Place.S, nilM⟩, nilM, nilM⟩
theorem S : Sound prog ⟨127, sig, F⟩ := sound_k (res := [.tmp 6]) func127 ok
end spec_l09Get
namespace spec_l09Two
noncomputable def sig : Sig := ⟨[.rptr TSheaf, .val false tI, .val false tI, .val false tI], [(.val true, TMatrix, .deep)]⟩
noncomputable def ctx : Ctx := ⟨tabOf tabl, [⟨75, spec_l05Faces.sig, spec_l05Faces.F⟩, ⟨126, spec_l03Times.sig, spec_l03Times.F⟩, ⟨127, spec_l09Get.sig, spec_l09Get.F⟩], [], [], [], []⟩
noncomputable def cfg : Cfg := ⟨ctx, [], [], fun _ => ([], []), fun _ => []⟩
noncomputable def code : Code := (f116).body.getD .skip
noncomputable def fin := finK ctx sig [.cell 8 86]
noncomputable def F (d : SF × Int × Int × Int × Unit) : OM := anyK (runFn cfg fin code (initSt sig.ps d 32))
variable (s_1 : LL) (s_2 : Int) (s_3 : LI) (s_4 : LM) (simplex_5 i_6 j_7 : Int)
noncomputable def T : OM := (spec_l05Faces.F (s_1, simplex_5, ())).bind fun r8 => if 0 ≤ i_6 ∧ i_6 < (r8.1.1.length : Int) then if (decide (j_7 > i_6)) = true then (spec_l09Get.F ((s_1, (s_2, (s_3, s_4))), simplex_5, i_6, ())).bind fun r9 => (spec_l09Get.F ((s_1, (s_2, (s_3, s_4))), (r8.1.1.getD i_6.toNat 0 : Int), IntKind.i64.wrap (j_7 - (1 : Int)), ())).bind fun r10 => (spec_l03Times.F (r9.1.1, r10.1.1, ())).bind fun r11 => some ((r11.1.1, ()), ()) else (spec_l09Get.F ((s_1, (s_2, (s_3, s_4))), simplex_5, i_6, ())).bind fun r12 => (spec_l09Get.F ((s_1, (s_2, (s_3, s_4))), (r8.1.1.getD i_6.toNat 0 : Int), j_7, ())).bind fun r13 => (spec_l03Times.F (r12.1.1, r13.1.1, ())).bind fun r14 => some ((r14.1.1, ()), ()) else none
theorem eq : F ((s_1, (s_2, (s_3, s_4))), simplex_5, i_6, j_7, ()) = T s_1 s_2 s_3 s_4 simplex_5 i_6 j_7 := eq_any fun k => by kernel_rfl
theorem ok : CtxOK prog ctx := ⟨nilM, mixed_ok, tab_ok tab_good, consM ⟨spec_l05Faces.S, consM ⟨spec_l03Times.S, consM ⟨spec_l09Get.S, nilM⟩⟩⟩, nilM, nilM⟩
theorem S : Sound prog ⟨116, sig, F⟩ := sound_k (res := [.cell 8 86]) func116 ok
end spec_l09Two
namespace spec_l03Same
noncomputable def sig : Sig := ⟨[.rptr TMatrix, .rptr TMatrix], [(.val false, .bool, .deep)]⟩
noncomputable def ctx : Ctx := ⟨tabOf tabl, [], [], [], [], []⟩
noncomputable def cfg : Cfg := ⟨ctx, [], [], fun id => match id with | 4 => ([0, 1, 5], []) | _ => ([], []), fun _ => []⟩
noncomputable def code : Code := (f117).body.getD .skip
noncomputable def fin := finK ctx sig [.tmp 4]
noncomputable def F (d : MX × MX × Unit) : OB := anyK (runFn cfg fin code (initSt sig.ps d 74))
variable (k : Nat) (i9 i10 i11 : Int) (x12 : LI) (i13 i14 i15 : Int) (x16 : LI) (i17 : Int)
noncomputable def l4 : OB := Go.Vm.runT cfg fin k [.inLoop (sub [1, 1, 0, 1, 0, 0] code), .inBlock 0, .code (sub [1, 1, 1] code)] ⟨[.rptr false [cI i9, cI i10, cI i11, cL x12], .rptr false [cI i13, cI i14, cI i15, cL x16], .dead, .dead, .dead, vI i17] ++ deads 68, []⟩
theorem l4_eq : l4 (k + 1) i9 i10 i11 x12 i13 i14 i15 x16 i17 = if (decide (i17 < (x12.length : Int))) = true then if 0 ≤ i17 ∧ i17 < (x12.length : Int) then if 0 ≤ i17 ∧ i17 < (x16.length : Int) then if ((x12.getD i17.toNat 0 : Int) != (x16.getD i17.toNat 0 : Int)) = true then some ((false, ()), ()) else l4 k i9 i10 i11 x12 i13 i14 i15 x16 (IntKind.i64.wrap (i17 + (1 : Int))) else none else none else some ((true, ()), ()) := by kernel_rfl
variable (toArray_1 toArray_2 toArray_3 : Int) (toArray_4 : LI) (a_5 a_6 a_7 : Int) (a_8 : LI)
noncomputable def T : OB := if (toArray_1 != a_5) = true then some ((false, ()), ()) else if (toArray_2 != a_6) = true then some ((false, ()), ()) else if (toArray_3 != a_7) = true then some ((false, ()), ()) else if ((toArray_4.length : Int) != (a_8.length : Int)) = true then some ((false, ()), ()) else l4 k toArray_1 toArray_2 toArray_3 toArray_4 a_5 a_6 a_7 a_8 (0 : Int)
theorem of {r : (Bool × Unit) × (Unit)} (h : Ev (fun k => T k toArray_1 toArray_2 toArray_3 toArray_4 a_5 a_6 a_7 a_8) r) : F ((toArray_1, (toArray_2, (toArray_3, toArray_4))), (a_5, (a_6, (a_7, a_8))), ()) = some r := Ev.run (fun k => by kernel_rfl) h
theorem ok : CtxOK prog ctx := ⟨nilM, mixed_ok, tab_ok tab_good, nilM, nilM, nilM⟩
theorem S : Sound prog ⟨117, sig, F⟩ := sound_k (res := [.tmp 4]) func117 ok
end spec_l03Same
namespace spec_l09Wrong
noncomputable def sig : Sig := ⟨[.rptr TSheaf], [(.val false, tI, .deep), (.val false, tI, .deep), (.val false, tI, .deep)]⟩
noncomputable def ctx : Ctx := ⟨tabOf tabl, [⟨116, spec_l09Two.sig, spec_l09Two.F⟩, ⟨117, spec_l03Same.sig, spec_l03Same.F⟩], [], [], [], []⟩
noncomputable def cfg : Cfg := ⟨ctx, [], [], fun id => match id with | 2 => ([0, 5], []) | 6 => ([0, 5, 6, 7], []) | 9 => ([0, 5, 6, 7, 8], []) | _ => ([], []), fun _ => []⟩
noncomputable def code : Code := (f68).body.getD .skip
noncomputable def fin := finK ctx sig [.tmp 2, .tmp 3, .tmp 4]
noncomputable def F (d : SF × Unit) : Option ((Int × Int × Int × Unit) × (Unit)) := anyK (runFn cfg fin code (initSt sig.ps d 61))
variable (k : Nat) (x5 : LL) (i6 : Int) (x7 : LI) (x8 : LM) (i9 : Int)
noncomputable def l2 : Option ((Int × Int × Int × Unit) × (Unit)) := Go.Vm.runT cfg fin k [.inLoop (sub [1, 0, 1, 0, 0] code), .inBlock 0, .code (sub [1, 1] code)] ⟨[.rptr false [cQ x5, cI i6, cL x7, ⟨(.sl TMatrix), .sh, x8⟩], .dead, .dead, .dead, .dead, vI i9] ++ deads 55, []⟩
variable (x10 : LL) (i11 : Int) (x12 : LI) (x13 : LM) (i14 i15 i16 : Int)
noncomputable def l6 : Option ((Int × Int × Int × Unit) × (Unit)) := Go.Vm.runT cfg fin k [.inLoop (sub [1, 0, 1, 0, 0, 1, 0, 0, 1, 1, 0, 0] code), .inBlock 2, .inBlock 1, .code (sub [1, 0, 1, 0, 0, 1, 1] code), .inLoop (sub [1, 0, 1, 0, 0] code), .inBlock 0, .code (sub [1, 1] code)] ⟨[.rptr false [cQ x10, cI i11, cL x12, ⟨(.sl TMatrix), .sh, x13⟩], .dead, .dead, .dead, .dead, vI i14, vI i15, vI i16] ++ deads 53, []⟩
variable (x17 : LL) (i18 : Int) (x19 : LI) (x20 : LM) (i21 i22 i23 i24 : Int)
noncomputable def l9 : Option ((Int × Int × Int × Unit) × (Unit)) := Go.Vm.runT cfg fin k [.inLoop (sub [1, 0, 1, 0, 0, 1, 0, 0, 1, 1, 0, 0, 1, 0, 0, 1, 0, 0] code), .inBlock 4, .inBlock 3, .code (sub [1, 0, 1, 0, 0, 1, 0, 0, 1, 1, 0, 0, 1, 1] code), .inLoop (sub [1, 0, 1, 0, 0, 1, 0, 0, 1, 1, 0, 0] code), .inBlock 2, .inBlock 1, .code (sub [1, 0, 1, 0, 0, 1, 1] code), .inLoop (sub [1, 0, 1, 0, 0] code), .inBlock 0, .code (sub [1, 1] code)] ⟨[.rptr false [cQ x17, cI i18, cL x19, ⟨(.sl TMatrix), .sh, x20⟩], .dead, .dead, .dead, .dead, vI i21, vI i22, vI i23, vI i24] ++ deads 52, []⟩
theorem l2_eq : l2 (k + 1) x5 i6 x7 x8 i9 = if (decide (i9 < (x5.length : Int))) = true then if 0 ≤ i9 ∧ i9 < (x5.length : Int) then l6 k x5 i6 x7 x8 i9 ((x5.getD i9.toNat ([] : LI)).length : Int) (0 : Int) else none else some (((-1 : Int), ((0 : Int), ((0 : Int), ()))), ()) := by kernel_rfl
theorem l6_eq : l6 (k + 1) x10 i11 x12 x13 i14 i15 i16 = if (decide (i16 < i15)) = true then if (decide (i15 > (2 : Int))) = true then l9 k x10 i11 x12 x13 i14 i15 i16 (IntKind.i64.wrap (i16 + (1 : Int))) else l2 k x10 i11 x12 x13 (IntKind.i64.wrap (i14 + (1 : Int))) else l2 k x10 i11 x12 x13 (IntKind.i64.wrap (i14 + (1 : Int))) := by kernel_rfl
theorem l9_eq : l9 (k + 1) x17 i18 x19 x20 i21 i22 i23 i24 = if (decide (i24 < i22)) = true then (spec_l09Two.F ((x17, (i18, (x19, x20))), i21, i23, i24, ())).bind fun r25 => (spec_l09Two.F ((x17, (i18, (x19, x20))), i21, i24, i23, ())).bind fun r26 => (spec_l03Same.F (r25.1.1, r26.1.1, ())).bind fun r27 => if (!(r27.1.1 : Bool)) = true then some ((i21, (i23, (i24, ()))), ()) else l9 k x17 i18 x19 x20 i21 i22 i23 (IntKind.i64.wrap (i24 + (1 : Int))) else l6 k x17 i18 x19 x20 i21 i22 (IntKind.i64.wrap (i23 + (1 : Int))) := by kernel_rfl
variable (s_1 : LL) (s_2 : Int) (s_3 : LI) (s_4 : LM)
noncomputable def T : Option ((Int × Int × Int × Unit) × (Unit)) := l2 k s_1 s_2 s_3 s_4 (0 : Int)
theorem of {r : (Int × Int × Int × Unit) × (Unit)} (h : Ev (fun k => T k s_1 s_2 s_3 s_4) r) : F ((s_1, (s_2, (s_3, s_4))), ()) = some r := Ev.run (fun k => by kernel_rfl) h
theorem ok : CtxOK prog ctx := ⟨nilM, mixed_ok, tab_ok tab_good, consM ⟨spec_l09Two.S, consM ⟨spec_l03Same.S, nilM⟩⟩, nilM, nilM⟩
theorem S : Sound prog ⟨68, sig, F⟩ := sound_k (res := [.tmp 2, .tmp 3, .tmp 4]) func68 ok
end spec_l09Wrong
namespace spec_l09Is
noncomputable def sig : Sig := ⟨[.rptr TSheaf], [(.val false, .bool, .deep)]⟩
noncomputable def ctx : Ctx := ⟨tabOf tabl, [⟨67, spec_l09Ok.sig, spec_l09Ok.F⟩, ⟨68, spec_l09Wrong.sig, spec_l09Wrong.F⟩], [], [], [], []⟩
noncomputable def cfg : Cfg := ⟨ctx, [], [], fun _ => ([], []), fun _ => []⟩
noncomputable def code : Code := (f31).body.getD .skip
noncomputable def fin := finK ctx sig [.tmp 2]
noncomputable def F (d : SF × Unit) : OB := anyK (runFn cfg fin code (initSt sig.ps d 17))
variable (s_1 : LL) (s_2 : Int) (s_3 : LI) (s_4 : LM)
noncomputable def T : OB := (spec_l09Ok.F ((s_1, (s_2, (s_3, s_4))), ())).bind fun r5 => if (!(r5.1.1 : Bool)) = true then some ((false, ()), ()) else (spec_l09Wrong.F ((s_1, (s_2, (s_3, s_4))), ())).bind fun r6 => some ((decide ((r6.1.1 : Int) < (0 : Int)), ()), ())
theorem eq : F ((s_1, (s_2, (s_3, s_4))), ()) = T s_1 s_2 s_3 s_4 := eq_any fun k => by kernel_rfl
theorem ok : CtxOK prog ctx := ⟨nilM, mixed_ok, tab_ok tab_good, consM ⟨spec_l09Ok.S, consM ⟨spec_l09Wrong.S, nilM⟩⟩, nilM, nilM⟩
theorem S : Sound prog ⟨31, sig, F⟩ := sound_k (res := [.tmp 2]) func31 ok
end spec_l09Is
namespace spec_l13Part
noncomputable def sig : Sig := ⟨[.rptr tQ, .rptr tQ], [(.val false, .bool, .deep)]⟩
noncomputable def ctx : Ctx := ⟨tabOf tabl, [⟨71, spec_l05Find.sig, spec_l05Find.F⟩], [], [], [], []⟩
noncomputable def cfg : Cfg := ⟨ctx, [], [], fun id => match id with | 2 => ([0, 1, 5], []) | _ => ([], []), fun _ => []⟩
noncomputable def code : Code := (f33).body.getD .skip
noncomputable def fin := finK ctx sig [.tmp 4]
noncomputable def F (d : LL × LL × Unit) : OB := anyK (runFn cfg fin code (initSt sig.ps d 25))
variable (k : Nat) (x3 x4 : LL) (i5 : Int)
noncomputable def l2 : OB := Go.Vm.runT cfg fin k [.inLoop (sub [1, 0, 1, 0, 0] code), .inBlock 0, .code (sub [1, 1] code)] ⟨[.rptr false [cQ x3], .rptr false [cQ x4], .dead, .dead, .dead, vI i5] ++ deads 19, []⟩
theorem l2_eq : l2 (k + 1) x3 x4 i5 = if (decide (i5 < (x3.length : Int))) = true then if 0 ≤ i5 ∧ i5 < (x3.length : Int) then (spec_l05Find.F (x4, x3.getD i5.toNat ([] : LI), ())).bind fun r6 => if (decide ((r6.1.1 : Int) < (0 : Int))) = true then some ((false, ()), ()) else l2 k x3 x4 (IntKind.i64.wrap (i5 + (1 : Int))) else none else some ((true, ()), ()) := by kernel_rfl
variable (part_1 c_2 : LL)
noncomputable def T : OB := l2 k part_1 c_2 (0 : Int)
theorem of {r : (Bool × Unit) × (Unit)} (h : Ev (fun k => T k part_1 c_2) r) : F (part_1, c_2, ()) = some r := Ev.run (fun k => by kernel_rfl) h
theorem ok : CtxOK prog ctx := ⟨nilM, mixed_ok, tab_ok tab_good, consM ⟨spec_l05Find.S, nilM⟩, nilM, nilM⟩
theorem S : Sound prog ⟨33, sig, F⟩ := sound_k (res := [.tmp 4]) func33 ok
end spec_l13Part
namespace spec_l00Put
noncomputable def sig : Sig := ⟨[.val false tL, .val false tI], [(.val false, tL, .deep)]⟩
noncomputable def ctx : Ctx := ⟨tabOf tabl, [], [], [], [], []⟩
noncomputable def cfg : Cfg := ⟨ctx, [], [], fun id => match id with | 4 => ([0, 1, 5, 6, 7], [20]) | _ => ([], []), fun _ => []⟩
noncomputable def code : Code := (f122).body.getD .skip
noncomputable def fin := finK ctx sig [.tmp 4]
noncomputable def F (d : LI × Int × Unit) : OL := anyK (runFn cfg fin code (initSt sig.ps d 49))
variable (k : Nat) (x3 : LI) (i4 : Int) (b5 : Bool) (i6 : Int) (x7 : LI)
noncomputable def l4 : OL := Go.Vm.runT cfg fin k [.inLoop (sub [1, 1, 1, 0, 1, 0, 0] code), .inBlock 0, .code (sub [1, 1, 1, 1] code)] ⟨[vL x3, vI i4, .dead, .dead, .dead, .view 20 (.root 0) 1 false, .val false [⟨.bool, .sh, b5⟩], vI i6] ++ deads 41, [(20, ⟨false, [dL x7]⟩)]⟩
theorem l4_eq : l4 (k + 1) x3 i4 b5 i6 x7 = if (decide (i6 < (x3.length : Int))) = true then if (!b5) = true then if 0 ≤ i6 ∧ i6 < (x3.length : Int) then if (decide ((x3.getD i6.toNat 0 : Int) ≥ i4)) = true then if 0 ≤ i6 ∧ i6 < (x3.length : Int) then if (decide ((x3.getD i6.toNat 0 : Int) > i4)) = true then if x7.length + ([i4] : LI).length ≤ bigA then if 0 ≤ i6 ∧ i6 < (x3.length : Int) then if (x7 ++ ([i4])).length + ([(x3.getD i6.toNat 0 : Int)] : LI).length ≤ bigA then l4 k x3 i4 true (IntKind.i64.wrap (i6 + (1 : Int))) ((x7 ++ ([i4])) ++ ([(x3.getD i6.toNat 0 : Int)])) else none else none else none else if 0 ≤ i6 ∧ i6 < (x3.length : Int) then if x7.length + ([(x3.getD i6.toNat 0 : Int)] : LI).length ≤ bigA then l4 k x3 i4 true (IntKind.i64.wrap (i6 + (1 : Int))) (x7 ++ ([(x3.getD i6.toNat 0 : Int)])) else none else none else none else if 0 ≤ i6 ∧ i6 < (x3.length : Int) then if x7.length + ([(x3.getD i6.toNat 0 : Int)] : LI).length ≤ bigA then l4 k x3 i4 b5 (IntKind.i64.wrap (i6 + (1 : Int))) (x7 ++ ([(x3.getD i6.toNat 0 : Int)])) else none else none else none else if 0 ≤ i6 ∧ i6 < (x3.length : Int) then if x7.length + ([(x3.getD i6.toNat 0 : Int)] : LI).length ≤ bigA then l4 k x3 i4 b5 (IntKind.i64.wrap (i6 + (1 : Int))) (x7 ++ ([(x3.getD i6.toNat 0 : Int)])) else none else none else if (!b5) = true then if x7.length + ([i4] : LI).length ≤ bigA then some ((x7 ++ ([i4]), ()), ()) else none else some ((x7, ()), ()) := by kernel_rfl
variable (list_1 : LI) (n_2 : Int)
noncomputable def T : OL := l4 k list_1 n_2 false (0 : Int) ([] : LI)
theorem of {r : (LI × Unit) × (Unit)} (h : Ev (fun k => T k list_1 n_2) r) : F (list_1, n_2, ()) = some r := Ev.run (fun k => by kernel_rfl) h
theorem ok : CtxOK prog ctx := ⟨nilM, mixed_ok, tab_ok tab_good, nilM, nilM, nilM⟩
theorem S : Sound prog ⟨122, sig, F⟩ := sound_k (res := [.tmp 4]) func122 ok
end spec_l00Put
namespace spec_l13Image
noncomputable def sig : Sig := ⟨[.rptr tQ, .val false tL, .val false tL], [(.val false, tL, .deep)]⟩
noncomputable def ctx : Ctx := ⟨tabOf tabl, [⟨71, spec_l05Find.sig, spec_l05Find.F⟩, ⟨122, spec_l00Put.sig, spec_l00Put.F⟩], [], [], [], []⟩
noncomputable def cfg : Cfg := ⟨ctx, [], [], fun id => match id with | 3 => ([0, 1, 2, 7, 8], [28]) | _ => ([], []), fun _ => []⟩
noncomputable def code : Code := (f73).body.getD .skip
noncomputable def fin := finK ctx sig [.tmp 6]
noncomputable def F (d : LL × LI × LI × Unit) : OL := anyK (runFn cfg fin code (initSt sig.ps d 29))
variable (k : Nat) (x4 : LL) (x5 x6 : LI) (i7 : Int) (x8 : LI)
noncomputable def l3 : OL := Go.Vm.runT cfg fin k [.inLoop (sub [1, 1, 0, 1, 0, 0] code), .inBlock 0, .code (sub [1, 1, 1] code)] ⟨[.rptr false [cQ x4], vL x5, vL x6, .dead, .dead, .dead, .dead, .view 28 (.root 0) 1 false, vI i7] ++ deads 20, [(28, ⟨false, [dL x8]⟩)]⟩
theorem l3_eq : l3 (k + 1) x4 x5 x6 i7 x8 = if (decide (i7 < (x6.length : Int))) = true then if 0 ≤ i7 ∧ i7 ≤ (IntKind.i64.wrap (i7 + (1 : Int))) ∧ (IntKind.i64.wrap (i7 + (1 : Int))) ≤ (x6.length : Int) then (spec_l05Find.F (x4, cutL x6 i7 (IntKind.i64.wrap (i7 + (1 : Int))), ())).bind fun r9 => if 0 ≤ (r9.1.1 : Int) ∧ (r9.1.1 : Int) < (x5.length : Int) then (spec_l00Put.F (x8, x5.getD (r9.1.1 : Int).toNat 0, ())).bind fun r10 => l3 k x4 x5 x6 (IntKind.i64.wrap (i7 + (1 : Int))) r10.1.1 else none else none else some ((x8, ()), ()) := by kernel_rfl
variable (c_1 : LL) (images_2 s_3 : LI)
noncomputable def T : OL := l3 k c_1 images_2 s_3 (0 : Int) ([] : LI)
theorem of {r : (LI × Unit) × (Unit)} (h : Ev (fun k => T k c_1 images_2 s_3) r) : F (c_1, images_2, s_3, ()) = some r := Ev.run (fun k => by kernel_rfl) h
theorem ok : CtxOK prog ctx := ⟨nilM, mixed_ok, tab_ok tab_good, consM ⟨spec_l05Find.S, consM ⟨spec_l00Put.S, nilM⟩⟩, nilM, nilM⟩
theorem S : Sound prog ⟨73, sig, F⟩ := sound_k (res := [.tmp 6]) func73 ok
end spec_l13Image
namespace spec_l05Skeleton
noncomputable def sig : Sig := ⟨[.rptr tQ, .val false tI], [(.val true, tQ, .deep)]⟩
noncomputable def ctx : Ctx := ⟨tabOf tabl, [⟨121, spec_l00Own.sig, spec_l00Own.F⟩], [], [], [], []⟩
noncomputable def cfg : Cfg := ⟨ctx, [], [], fun id => match id with | 3 => ([0, 1, 4, 5, 6], [16, 20]) | _ => ([], []), fun _ => []⟩
noncomputable def code : Code := (f123).body.getD .skip
noncomputable def fin := finK ctx sig [.cell 4 31]
noncomputable def F (d : LL × Int × Unit) : OQ := anyK (runFn cfg fin code (initSt sig.ps d 43))
variable (k : Nat) (x3 : LL) (i4 i5 : Int) (x6 x7 : LL)
noncomputable def l3 : OQ := Go.Vm.runT cfg fin k [.inLoop (sub [1, 1, 0, 1, 0, 0] code), .inBlock 0, .code (sub [1, 1, 1] code)] ⟨[.rptr false [cQ x3], vI i4, .dead, .dead, .ref 16 (.root 0), .ref 20 (.root 0), vI i5] ++ deads 36, [(16, ⟨true, [dQ x6]⟩), (20, ⟨true, [dQ x7]⟩)]⟩
theorem l3_eq : l3 (k + 1) x3 i4 i5 x6 x7 = if (decide (i5 < (x3.length : Int))) = true then if 0 ≤ i5 ∧ i5 < (x3.length : Int) then if (decide (((x3.getD i5.toNat ([] : LI)).length : Int) ≤ (IntKind.i64.wrap (i4 + (1 : Int))))) = true then if 0 ≤ i5 ∧ i5 < (x3.length : Int) then (spec_l00Own.F (x3.getD i5.toNat ([] : LI), ())).bind fun r8 => if x7.length + ([r8.1.1] : LL).length ≤ bigA then l3 k x3 i4 (IntKind.i64.wrap (i5 + (1 : Int))) x6 (x7 ++ ([r8.1.1])) else none else none else l3 k x3 i4 (IntKind.i64.wrap (i5 + (1 : Int))) x6 x7 else none else some ((x7, ()), ()) := by kernel_rfl
variable (c_1 : LL) (dimension_2 : Int)
noncomputable def T : OQ := l3 k c_1 dimension_2 (0 : Int) ([] : LL) ([] : LL)
theorem of {r : (LL × Unit) × (Unit)} (h : Ev (fun k => T k c_1 dimension_2) r) : F (c_1, dimension_2, ()) = some r := Ev.run (fun k => by kernel_rfl) h
theorem ok : CtxOK prog ctx := ⟨nilM, mixed_ok, tab_ok tab_good, consM ⟨spec_l00Own.S, nilM⟩, nilM, nilM⟩
theorem S : Sound prog ⟨123, sig, F⟩ := sound_k (res := [.cell 4 31]) func123 ok
end spec_l05Skeleton
namespace spec_l09New
noncomputable def sig : Sig := ⟨[.rptr tQ, .val false tI, .val false tL], [(.val true, TSheaf, .deep)]⟩
noncomputable def ctx : Ctx := ⟨tabOf tabl, [⟨75, spec_l05Faces.sig, spec_l05Faces.F⟩, ⟨121, spec_l00Own.sig, spec_l00Own.F⟩, ⟨123, spec_l05Skeleton.sig, spec_l05Skeleton.F⟩, ⟨124, spec_l03Zero.sig, spec_l03Zero.F⟩], [], [], [], []⟩
noncomputable def cfg : Cfg := ⟨ctx, [], [], fun id => match id with | 3 => ([0, 1, 2, 6, 7, 8], [24, 28]) | 7 => ([0, 1, 2, 6, 7, 8, 9, 10], [24, 28, 36]) | _ => ([], []), fun _ => []⟩
noncomputable def code : Code := (f74).body.getD .skip
noncomputable def fin := finK ctx sig [.cell 6 34]
noncomputable def F (d : LL × Int × LI × Unit) : OS := anyK (runFn cfg fin code (initSt sig.ps d 55))
variable (k : Nat) (x6 : LL) (i7 : Int) (x8 : LI) (i9 : Int) (x10 : LL) (i11 : Int) (x12 : LI) (x13 : LM) (x14 : LL) (i15 : Int) (x16 : LI) (x17 : LM)
noncomputable def l3 : OS := Go.Vm.runT cfg fin k [.inLoop (sub [1, 1, 0, 1, 0, 0] code), .inBlock 0, .code (sub [1, 1, 1] code)] ⟨[.rptr false [cQ x6], vI i7, vL x8, .dead, .dead, .dead, .ref 24 (.root 0), .ref 28 (.root 0), vI i9] ++ deads 46, [(24, ⟨true, [dQ x10, cI i11, dL x12, ⟨(.sl TMatrix), .deep, x13⟩]⟩), (28, ⟨true, [dQ x14, cI i15, dL x16, ⟨(.sl TMatrix), .deep, x17⟩]⟩)]⟩
variable (x19 : LL) (i20 : Int) (x21 : LI) (i22 i23 : Int) (x24 : LL) (i25 : Int) (x26 : LI) (x27 : LM) (x28 : LL) (i29 : Int) (x30 : LI) (x31 : LM) (x32 : LI)
noncomputable def l7 : OS := Go.Vm.runT cfg fin k [.inLoop (sub [1, 1, 0, 1, 0, 0, 1, 0, 0, 1, 1, 0, 0] code), .inBlock 2, .inBlock 1, .code (sub [1, 1, 0, 1, 0, 0, 1, 1] code), .inLoop (sub [1, 1, 0, 1, 0, 0] code), .inBlock 0, .code (sub [1, 1, 1] code)] ⟨[.rptr false [cQ x19], vI i20, vL x21, .dead, .dead, .dead, .ref 24 (.root 0), .ref 28 (.root 0), vI i22, .view 36 (.root 0) 1 false, vI i23] ++ deads 44, [(24, ⟨true, [dQ x24, cI i25, dL x26, ⟨(.sl TMatrix), .deep, x27⟩]⟩), (28, ⟨true, [dQ x28, cI i29, dL x30, ⟨(.sl TMatrix), .deep, x31⟩]⟩), (36, ⟨false, [dL x32]⟩)]⟩
theorem l3_eq : l3 (k + 1) x6 i7 x8 i9 x10 i11 x12 x13 x14 i15 x16 x17 = if (decide (i9 < (x6.length : Int))) = true then (spec_l05Faces.F (x6, i9, ())).bind fun r18 => l7 k x6 i7 x8 i9 (0 : Int) x10 i11 x12 x13 x14 i15 x16 x17 r18.1.1 else some (((x14, (i15, (x16, x17))), ()), ()) := by kernel_rfl
theorem l7_eq : l7 (k + 1) x19 i20 x21 i22 i23 x24 i25 x26 x27 x28 i29 x30 x31 x32 = if (decide (i23 < (x32.length : Int))) = true then if 0 ≤ i22 ∧ i22 < (x21.length : Int) then if 0 ≤ i23 ∧ i23 < (x32.length : Int) then if 0 ≤ (x32.getD i23.toNat 0 : Int) ∧ (x32.getD i23.toNat 0 : Int) < (x21.length : Int) then (spec_l03Zero.F (i20, (x21.getD i22.toNat 0 : Int), x21.getD (x32.getD i23.toNat 0 : Int).toNat 0, ())).bind fun r33 => if x31.length + ([r33.1.1] : LM).length ≤ bigA then l7 k x19 i20 x21 i22 (IntKind.i64.wrap (i23 + (1 : Int))) x24 i25 x26 x27 x28 i29 x30 (x31 ++ ([r33.1.1])) x32 else none else none else none else none else l3 k x19 i20 x21 (IntKind.i64.wrap (i22 + (1 : Int))) x24 i25 x26 x27 x28 i29 x30 x31 := by kernel_rfl
variable (c_1 : LL) (p_2 : Int) (stalks_3 : LI)
noncomputable def T : OS := (spec_l05Skeleton.F (c_1, (3 : Int), ())).bind fun r4 => (spec_l00Own.F (stalks_3, ())).bind fun r5 => l3 k c_1 p_2 stalks_3 (0 : Int) ([]) 0 ([]) ([]) r4.1.1 p_2 r5.1.1 ([] : LM)
theorem of {r : (SF × Unit) × (Unit)} (h : Ev (fun k => T k c_1 p_2 stalks_3) r) : F (c_1, p_2, stalks_3, ()) = some r := Ev.run (fun k => by kernel_rfl) h
theorem ok : CtxOK prog ctx := ⟨nilM, mixed_ok, tab_ok tab_good, consM ⟨spec_l05Faces.S, consM ⟨spec_l00Own.S, consM ⟨spec_l05Skeleton.S, consM ⟨spec_l03Zero.S, nilM⟩⟩⟩⟩, nilM, nilM⟩
theorem S : Sound prog ⟨74, sig, F⟩ := sound_k (res := [.cell 6 34]) func74 ok
end spec_l09New
namespace spec_l00Has
noncomputable def sig : Sig := ⟨[.val false tL, .val false tI], [(.val false, .bool, .deep)]⟩
noncomputable def ctx : Ctx := ⟨tabOf tabl, [], [], [], [], []⟩
noncomputable def cfg : Cfg := ⟨ctx, [], [], fun id => match id with | 2 => ([0, 1, 5], []) | _ => ([], []), fun _ => []⟩
noncomputable def code : Code := (f53).body.getD .skip
noncomputable def fin := finK ctx sig [.tmp 4]
noncomputable def F (d : LI × Int × Unit) : OB := anyK (runFn cfg fin code (initSt sig.ps d 18))
variable (k : Nat) (x3 : LI) (i4 i5 : Int)
noncomputable def l2 : OB := Go.Vm.runT cfg fin k [.inLoop (sub [1, 0, 1, 0, 0] code), .inBlock 0, .code (sub [1, 1] code)] ⟨[vL x3, vI i4, .dead, .dead, .dead, vI i5] ++ deads 12, []⟩
theorem l2_eq : l2 (k + 1) x3 i4 i5 = if (decide (i5 < (x3.length : Int))) = true then if 0 ≤ i5 ∧ i5 < (x3.length : Int) then if ((x3.getD i5.toNat 0 : Int) == i4) = true then some ((true, ()), ()) else l2 k x3 i4 (IntKind.i64.wrap (i5 + (1 : Int))) else none else some ((false, ()), ()) := by kernel_rfl
variable (list_1 : LI) (n_2 : Int)
noncomputable def T : OB := l2 k list_1 n_2 (0 : Int)
theorem of {r : (Bool × Unit) × (Unit)} (h : Ev (fun k => T k list_1 n_2) r) : F (list_1, n_2, ()) = some r := Ev.run (fun k => by kernel_rfl) h
theorem ok : CtxOK prog ctx := ⟨nilM, mixed_ok, tab_ok tab_good, nilM, nilM, nilM⟩
theorem S : Sound prog ⟨53, sig, F⟩ := sound_k (res := [.tmp 4]) func53 ok
end spec_l00Has
namespace spec_l03Unit
noncomputable def sig : Sig := ⟨[.val false tI, .val false tI], [(.val true, TMatrix, .deep)]⟩
noncomputable def ctx : Ctx := ⟨tabOf tabl, [⟨124, spec_l03Zero.sig, spec_l03Zero.F⟩], [], [], [], []⟩
noncomputable def cfg : Cfg := ⟨ctx, [], [], fun id => match id with | 3 => ([1, 4, 5, 6], [16, 20]) | _ => ([], []), fun _ => []⟩
noncomputable def code : Code := (f125).body.getD .skip
noncomputable def fin := finK ctx sig [.cell 4 86]
noncomputable def F (d : Int × Int × Unit) : OM := anyK (runFn cfg fin code (initSt sig.ps d 25))
variable (k : Nat) (i4 i5 i6 i7 i8 : Int) (x9 : LI) (i10 i11 i12 : Int) (x13 : LI)
noncomputable def l3 : OM := Go.Vm.runT cfg fin k [.inLoop (sub [1, 1, 0, 1, 0, 0] code), .inBlock 0, .code (sub [1, 1, 1] code)] ⟨[.dead, vI i4, .dead, .dead, .ref 16 (.root 0), .ref 20 (.root 0), vI i5] ++ deads 18, [(16, ⟨true, [cI i6, cI i7, cI i8, dL x9]⟩), (20, ⟨true, [cI i10, cI i11, cI i12, dL x13]⟩)]⟩
theorem l3_eq : l3 (k + 1) i4 i5 i6 i7 i8 x9 i10 i11 i12 x13 = if (decide (i5 < i4)) = true then if 0 ≤ (IntKind.i64.wrap ((IntKind.i64.wrap (i5 * i4)) + i5)) ∧ (IntKind.i64.wrap ((IntKind.i64.wrap (i5 * i4)) + i5)) < (x13.length : Int) then l3 k i4 (IntKind.i64.wrap (i5 + (1 : Int))) i6 i7 i8 x9 i10 i11 i12 (x13.set (IntKind.i64.wrap ((IntKind.i64.wrap (i5 * i4)) + i5)).toNat (1 : Int)) else none else some (((i10, (i11, (i12, x13))), ()), ()) := by kernel_rfl
variable (p_1 n_2 : Int)
noncomputable def T : OM := (spec_l03Zero.F (p_1, n_2, n_2, ())).bind fun r3 => l3 k n_2 (0 : Int) 0 0 0 ([]) (r3.1.1.1 : Int) (r3.1.1.2.1 : Int) (r3.1.1.2.2.1 : Int) r3.1.1.2.2.2
theorem of {r : (MX × Unit) × (Unit)} (h : Ev (fun k => T k p_1 n_2) r) : F (p_1, n_2, ()) = some r := Ev.run (fun k => by kernel_rfl) h
theorem ok : CtxOK prog ctx := ⟨nilM, mixed_ok, tab_ok tab_good, consM ⟨spec_l03Zero.S, nilM⟩, nilM, nilM⟩
theorem S : Sound prog ⟨125, sig, F⟩ := sound_k (res := [.cell 4 86]) func125 ok
end spec_l03Unit
namespace spec_l09Restrict
noncomputable def sig : Sig := ⟨[.rptr TSheaf, .val false tI, .val false tI], [(.val true, TMatrix, .deep)]⟩
noncomputable def ctx (self : (SF × Int × Int × Unit) → OM) : Ctx := ⟨tabOf tabl, [⟨53, spec_l00Has.sig, spec_l00Has.F⟩, ⟨75, spec_l05Faces.sig, spec_l05Faces.F⟩, ⟨125, spec_l03Unit.sig, spec_l03Unit.F⟩, ⟨126, spec_l03Times.sig, spec_l03Times.F⟩, ⟨127, spec_l09Get.sig, spec_l09Get.F⟩, ⟨76, sig, self⟩], [], [], [], []⟩
noncomputable def cfg (self : (SF × Int × Int × Unit) → OM) : Cfg := ⟨(ctx self), [], [], fun id => match id with | 5 => ([0, 1, 2, 6, 7, 8], [24]) | _ => ([], []), fun _ => []⟩
noncomputable def code : Code := (f76).body.getD .skip
noncomputable def fin (self : (SF × Int × Int × Unit) → OM) := finK (ctx self) sig [.cell 6 86]
noncomputable def step (self : (SF × Int × Int × Unit) → OM) (d : SF × Int × Int × Unit) : OM := anyK (runFn (cfg self) (fin self) code (initSt sig.ps d 64))
variable (self : (SF × Int × Int × Unit) → OM) (k : Nat) (x8 : LL) (i9 : Int) (x10 : LI) (x11 : LM) (i12 i13 : Int) (x14 : LI) (i15 i16 i17 i18 : Int) (x19 : LI)
noncomputable def l5 : OM := Go.Vm.runT (cfg self) (fin self) k [.inLoop (sub [1, 1, 1, 1, 0, 0, 0] code), .inBlock 0, .code (sub [1, 1, 1, 1, 1] code)] ⟨[.rptr false [cQ x8, cI i9, cL x10, ⟨(.sl TMatrix), .sh, x11⟩], vI i12, vI i13, .dead, .dead, .dead, .ref 24 (.root 0), vL x14, vI i15] ++ deads 55, [(24, ⟨true, [cI i16, cI i17, cI i18, dL x19]⟩)]⟩
theorem l5_eq : l5 self (k + 1) x8 i9 x10 x11 i12 i13 x14 i15 i16 i17 i18 x19 = if 0 ≤ i12 ∧ i12 < (x8.length : Int) then if 0 ≤ i15 ∧ i15 < (x14.length : Int) then (spec_l00Has.F (x8.getD i12.toNat ([] : LI), (x14.getD i15.toNat 0 : Int), ())).bind fun r20 => if (r20.1.1 : Bool) = true then l5 self k x8 i9 x10 x11 i12 i13 x14 (IntKind.i64.wrap (i15 + (1 : Int))) i16 i17 i18 x19 else (spec_l05Faces.F (x8, i13, ())).bind fun r21 => if 0 ≤ i15 ∧ i15 < (r21.1.1.length : Int) then (self ((x8, (i9, (x10, x11))), i12, (r21.1.1.getD i15.toNat 0 : Int), ())).bind fun r22 => (spec_l09Get.F ((x8, (i9, (x10, x11))), i13, i15, ())).bind fun r23 => (spec_l03Times.F (r23.1.1, r22.1.1, ())).bind fun r24 => some ((r24.1.1, ()), ()) else none else none else none := by kernel_rfl
variable (s_1 : LL) (s_2 : Int) (s_3 : LI) (s_4 : LM) (face_5 simplex_6 : Int)
noncomputable def T : OM := if (face_5 == simplex_6) = true then if 0 ≤ face_5 ∧ face_5 < (s_3.length : Int) then (spec_l03Unit.F (s_2, (s_3.getD face_5.toNat 0 : Int), ())).bind fun r7 => some ((r7.1.1, ()), ()) else none else if 0 ≤ simplex_6 ∧ simplex_6 < (s_1.length : Int) then l5 self k s_1 s_2 s_3 s_4 face_5 simplex_6 (s_1.getD simplex_6.toNat ([] : LI)) (0 : Int) 0 0 0 ([]) else none
theorem run (self : (SF × Int × Int × Unit) → OM) (k : Nat) (s_1 : LL) (s_2 : Int) (s_3 : LI) (s_4 : LM) (face_5 simplex_6 : Int) : runFn (cfg self) (fin self) code (initSt sig.ps ((s_1, (s_2, (s_3, s_4))), face_5, simplex_6, ()) 64) k = T self k s_1 s_2 s_3 s_4 face_5 simplex_6 := by kernel_rfl
theorem of {r : (MX × Unit) × (Unit)} (h : Ev (fun k => T self k s_1 s_2 s_3 s_4 face_5 simplex_6) r) : step self ((s_1, (s_2, (s_3, s_4))), face_5, simplex_6, ()) = some r := Ev.run (fun k => run self k s_1 s_2 s_3 s_4 face_5 simplex_6) h
theorem ok (self : (SF × Int × Int × Unit) → OM) (hs : Sound prog ⟨76, sig, self⟩) : CtxOK prog (ctx self) := ⟨nilM, mixed_ok, tab_ok tab_good, consM ⟨spec_l00Has.S, consM ⟨spec_l05Faces.S, consM ⟨spec_l03Unit.S, consM ⟨spec_l03Times.S, consM ⟨spec_l09Get.S, consM ⟨hs, nilM⟩⟩⟩⟩⟩⟩, nilM, nilM⟩
theorem stepS (self : (SF × Int × Int × Unit) → OM) (hs : Sound prog ⟨76, sig, self⟩) : Sound prog ⟨76, sig, step self⟩ := sound_any (fn := f76) (code := code) (g := cfg self) (res := [.cell 6 86]) func76 (by kernel_rfl) (by kernel_rfl) (ok self hs) (by kernel_rfl) (by kernel_rfl) (Nat.le_of_ble_eq_true (by kernel_rfl)) (by kernel_rfl)
noncomputable def R : Nat → (SF × Int × Int × Unit) → OM := recF step
noncomputable def F (d : SF × Int × Int × Unit) : OM := anyE fun q => R q d
theorem ofR {d : SF × Int × Int × Unit} {r : (MX × Unit) × (Unit)} (h : Ev (fun q => R q d) r) : F d = some r := anyE_of h
theorem S : Sound prog ⟨76, sig, F⟩ := sound_rec ⟨_, func76, by kernel_rfl, by kernel_rfl⟩ fun self h => stepS self h
end spec_l09Restrict
namespace spec_l13Pull
noncomputable def sig : Sig := ⟨[.rptr TSheaf, .rptr tQ, .val false tL], [(.val true, TSheaf, .deep)]⟩
noncomputable def ctx : Ctx := ⟨tabOf tabl, [⟨71, spec_l05Find.sig, spec_l05Find.F⟩, ⟨73, spec_l13Image.sig, spec_l13Image.F⟩, ⟨74, spec_l09New.sig, spec_l09New.F⟩, ⟨75, spec_l05Faces.sig, spec_l05Faces.F⟩, ⟨76, spec_l09Restrict.sig, spec_l09Restrict.F⟩, ⟨77, spec_l09Place.sig, spec_l09Place.F⟩], [], [], [], []⟩
noncomputable def cfg : Cfg := ⟨ctx, [], [], fun id => match id with | 4 => ([0, 1, 2, 6, 7, 8, 9], [24, 28, 32]) | 11 => ([0, 1, 6, 7, 11, 12], [24, 28, 44]) | 15 => ([0, 1, 6, 7, 11, 12, 13, 14], [24, 28, 44, 52]) | _ => ([], []), fun _ => []⟩
noncomputable def code : Code := (f34).body.getD .skip
noncomputable def fin := finK ctx sig [.cell 6 34]
noncomputable def F (d : SF × LL × LI × Unit) : OS := anyK (runFn cfg fin code (initSt sig.ps d 100))
variable (k : Nat) (x7 : LL) (i8 : Int) (x9 : LI) (x10 : LM) (x11 : LL) (x12 : LI) (i13 : Int) (x14 : LL) (i15 : Int) (x16 : LI) (x17 : LM) (x18 x19 : LI)
noncomputable def l4 : OS := Go.Vm.runT cfg fin k [.inLoop (sub [1, 1, 1, 0, 1, 0, 0] code), .inBlock 0, .code (sub [1, 1, 1, 1] code)] ⟨[.rptr false [cQ x7, cI i8, cL x9, ⟨(.sl TMatrix), .sh, x10⟩], .rptr false [cQ x11], vL x12, .dead, .dead, .dead, .ref 24 (.root 0), .view 28 (.root 0) 1 false, .view 32 (.root 0) 1 false, vI i13] ++ deads 90, [(24, ⟨true, [dQ x14, cI i15, dL x16, ⟨(.sl TMatrix), .deep, x17⟩]⟩), (28, ⟨false, [dL x18]⟩), (32, ⟨false, [dL x19]⟩)]⟩
variable (x23 : LL) (i24 : Int) (x25 : LI) (x26 : LM) (x27 : LL) (i28 : Int) (x29 : LL) (i30 : Int) (x31 : LI) (x32 : LM) (x33 : LI) (x34 : LL) (i35 : Int) (x36 : LI) (x37 : LM)
noncomputable def l11 : OS := Go.Vm.runT cfg fin k [.inLoop (sub [1, 1, 1, 1, 1, 0, 1, 0, 0] code), .inBlock 2, .code (sub [1, 1, 1, 1, 1, 1] code)] ⟨[.rptr false [cQ x23, cI i24, cL x25, ⟨(.sl TMatrix), .sh, x26⟩], .rptr false [cQ x27], .dead, .dead, .dead, .dead, .ref 24 (.root 0), .view 28 (.root 0) 1 false, .dead, .dead, .dead, .ref 44 (.root 0), vI i28] ++ deads 87, [(24, ⟨true, [dQ x29, cI i30, dL x31, ⟨(.sl TMatrix), .deep, x32⟩]⟩), (28, ⟨false, [dL x33]⟩), (44, ⟨true, [dQ x34, cI i35, dL x36, ⟨(.sl TMatrix), .deep, x37⟩]⟩)]⟩
variable (x39 : LL) (i40 : Int) (x41 : LI) (x42 : LM) (x43 : LL) (i44 i45 : Int) (x46 : LL) (i47 : Int) (x48 : LI) (x49 : LM) (x50 : LI) (x51 : LL) (i52 : Int) (x53 : LI) (x54 : LM) (x55 : LI)
noncomputable def l15 : OS := Go.Vm.runT cfg fin k [.inLoop (sub [1, 1, 1, 1, 1, 0, 1, 0, 0, 1, 0, 0, 1, 1, 0, 0] code), .inBlock 4, .inBlock 3, .code (sub [1, 1, 1, 1, 1, 0, 1, 0, 0, 1, 1] code), .inLoop (sub [1, 1, 1, 1, 1, 0, 1, 0, 0] code), .inBlock 2, .code (sub [1, 1, 1, 1, 1, 1] code)] ⟨[.rptr false [cQ x39, cI i40, cL x41, ⟨(.sl TMatrix), .sh, x42⟩], .rptr false [cQ x43], .dead, .dead, .dead, .dead, .ref 24 (.root 0), .view 28 (.root 0) 1 false, .dead, .dead, .dead, .ref 44 (.root 0), vI i44, .view 52 (.root 0) 1 false, vI i45] ++ deads 85, [(24, ⟨true, [dQ x46, cI i47, dL x48, ⟨(.sl TMatrix), .deep, x49⟩]⟩), (28, ⟨false, [dL x50]⟩), (44, ⟨true, [dQ x51, cI i52, dL x53, ⟨(.sl TMatrix), .deep, x54⟩]⟩), (52, ⟨false, [dL x55]⟩)]⟩
theorem l4_eq : l4 (k + 1) x7 i8 x9 x10 x11 x12 i13 x14 i15 x16 x17 x18 x19 = if (decide (i13 < (x11.length : Int))) = true then if 0 ≤ i13 ∧ i13 < (x11.length : Int) then (spec_l13Image.F (x11, x12, x11.getD i13.toNat ([] : LI), ())).bind fun r20 => (spec_l05Find.F (x7, r20.1.1, ())).bind fun r21 => if x18.length + ([(r21.1.1 : Int)] : LI).length ≤ bigA then if 0 ≤ (r21.1.1 : Int) ∧ (r21.1.1 : Int) < (x9.length : Int) then if x19.length + ([x9.getD (r21.1.1 : Int).toNat 0] : LI).length ≤ bigA then l4 k x7 i8 x9 x10 x11 x12 (IntKind.i64.wrap (i13 + (1 : Int))) x14 i15 x16 x17 (x18 ++ ([(r21.1.1 : Int)])) (x19 ++ ([x9.getD (r21.1.1 : Int).toNat 0])) else none else none else none else none else (spec_l09New.F (x11, i8, x19, ())).bind fun r22 => l11 k x7 i8 x9 x10 x11 (0 : Int) x14 i15 x16 x17 x18 r22.1.1.1 (r22.1.1.2.1 : Int) r22.1.1.2.2.1 r22.1.1.2.2.2 := by kernel_rfl
theorem l11_eq : l11 (k + 1) x23 i24 x25 x26 x27 i28 x29 i30 x31 x32 x33 x34 i35 x36 x37 = if (decide (i28 < (x27.length : Int))) = true then (spec_l05Faces.F (x27, i28, ())).bind fun r38 => l15 k x23 i24 x25 x26 x27 i28 (0 : Int) x29 i30 x31 x32 x33 x34 i35 x36 x37 r38.1.1 else some (((x34, (i35, (x36, x37))), ()), ()) := by kernel_rfl
theorem l15_eq : l15 (k + 1) x39 i40 x41 x42 x43 i44 i45 x46 i47 x48 x49 x50 x51 i52 x53 x54 x55 = if (decide (i45 < (x55.length : Int))) = true then (spec_l09Place.F (x43, i44, i45, ())).bind fun r56 => if 0 ≤ i45 ∧ i45 < (x55.length : Int) then if 0 ≤ (x55.getD i45.toNat 0 : Int) ∧ (x55.getD i45.toNat 0 : Int) < (x50.length : Int) then if 0 ≤ i44 ∧ i44 < (x50.length : Int) then (spec_l09Restrict.F ((x39, (i40, (x41, x42))), x50.getD (x55.getD i45.toNat 0 : Int).toNat 0, (x50.getD i44.toNat 0 : Int), ())).bind fun r57 => if 0 ≤ (r56.1.1 : Int) ∧ (r56.1.1 : Int) < (x54.length : Int) then l15 k x39 i40 x41 x42 x43 i44 (IntKind.i64.wrap (i45 + (1 : Int))) x46 i47 x48 x49 x50 x51 i52 x53 (x54.set (r56.1.1 : Int).toNat r57.1.1) x55 else none else none else none else none else l11 k x39 i40 x41 x42 x43 (IntKind.i64.wrap (i44 + (1 : Int))) x46 i47 x48 x49 x50 x51 i52 x53 x54 := by kernel_rfl
variable (toArray_1 : LL) (toArray_2 : Int) (toArray_3 : LI) (toArray_4 : LM) (a_5 : LL) (a_6 : LI)
noncomputable def T : OS := l4 k toArray_1 toArray_2 toArray_3 toArray_4 a_5 a_6 (0 : Int) ([]) 0 ([]) ([]) ([] : LI) ([] : LI)
theorem of {r : (SF × Unit) × (Unit)} (h : Ev (fun k => T k toArray_1 toArray_2 toArray_3 toArray_4 a_5 a_6) r) : F ((toArray_1, (toArray_2, (toArray_3, toArray_4))), a_5, a_6, ()) = some r := Ev.run (fun k => by kernel_rfl) h
theorem ok : CtxOK prog ctx := ⟨nilM, mixed_ok, tab_ok tab_good, consM ⟨spec_l05Find.S, consM ⟨spec_l13Image.S, consM ⟨spec_l09New.S, consM ⟨spec_l05Faces.S, consM ⟨spec_l09Restrict.S, consM ⟨spec_l09Place.S, nilM⟩⟩⟩⟩⟩⟩, nilM, nilM⟩
theorem S : Sound prog ⟨34, sig, F⟩ := sound_k (res := [.cell 6 34]) func34 ok
end spec_l13Pull
namespace spec_l13Vertices
noncomputable def sig : Sig := ⟨[.rptr tQ], [(.val false, tL, .deep)]⟩
noncomputable def ctx : Ctx := ⟨tabOf tabl, [⟨52, spec_l05Of.sig, spec_l05Of.F⟩], [], [], [], []⟩
noncomputable def cfg : Cfg := ⟨ctx, [], [], fun id => match id with | 4 => ([0, 3, 4, 5], [12, 16]) | _ => ([], []), fun _ => []⟩
noncomputable def code : Code := (f35).body.getD .skip
noncomputable def fin := finK ctx sig [.tmp 2]
noncomputable def F (d : LL × Unit) : OL := anyK (runFn cfg fin code (initSt sig.ps d 31))
variable (k : Nat) (x3 : LL) (i4 : Int) (x5 x6 : LI)
noncomputable def l4 : OL := Go.Vm.runT cfg fin k [.inLoop (sub [1, 1, 1, 0, 1, 0, 0] code), .inBlock 0, .code (sub [1, 1, 1, 1] code)] ⟨[.rptr false [cQ x3], .dead, .dead, .view 12 (.root 0) 1 false, .view 16 (.root 0) 1 false, vI i4] ++ deads 25, [(12, ⟨false, [dL x5]⟩), (16, ⟨false, [dL x6]⟩)]⟩
theorem l4_eq : l4 (k + 1) x3 i4 x5 x6 = if (decide (i4 < (x6.length : Int))) = true then if 0 ≤ i4 ∧ i4 < (x6.length : Int) then if 0 ≤ (x6.getD i4.toNat 0 : Int) ∧ (x6.getD i4.toNat 0 : Int) < (x3.length : Int) then if 0 ≤ (0 : Int) ∧ (0 : Int) < ((x3.getD (x6.getD i4.toNat 0 : Int).toNat ([] : LI)).length : Int) then if x5.length + ([(x3.getD (x6.getD i4.toNat 0 : Int).toNat ([] : LI)).getD (0 : Int).toNat 0] : LI).length ≤ bigA then l4 k x3 (IntKind.i64.wrap (i4 + (1 : Int))) (x5 ++ ([(x3.getD (x6.getD i4.toNat 0 : Int).toNat ([] : LI)).getD (0 : Int).toNat 0])) x6 else none else none else none else none else some ((x5, ()), ()) := by kernel_rfl
variable (c_1 : LL)
noncomputable def T : OL := (spec_l05Of.F (c_1, (0 : Int), ())).bind fun r2 => l4 k c_1 (0 : Int) ([] : LI) r2.1.1
theorem of {r : (LI × Unit) × (Unit)} (h : Ev (fun k => T k c_1) r) : F (c_1, ()) = some r := Ev.run (fun k => by kernel_rfl) h
theorem ok : CtxOK prog ctx := ⟨nilM, mixed_ok, tab_ok tab_good, consM ⟨spec_l05Of.S, nilM⟩, nilM, nilM⟩
theorem S : Sound prog ⟨35, sig, F⟩ := sound_k (res := [.tmp 2]) func35 ok
end spec_l13Vertices
namespace spec_RestrictSheaf
noncomputable def sig : Sig := ⟨[.val true TSheaf, .val true tQ], [(.val true, TSheaf, .deep), (.val false, tI, .deep)]⟩
noncomputable def ctx : Ctx := ⟨tabOf tabl, [⟨31, spec_l09Is.sig, spec_l09Is.F⟩, ⟨32, spec_l05Ok.sig, spec_l05Ok.F⟩, ⟨33, spec_l13Part.sig, spec_l13Part.F⟩, ⟨34, spec_l13Pull.sig, spec_l13Pull.F⟩, ⟨35, spec_l13Vertices.sig, spec_l13Vertices.F⟩], [], [], [], []⟩
noncomputable def cfg : Cfg := ⟨ctx, [], [], fun _ => ([], []), fun _ => []⟩
noncomputable def code : Code := (f9).body.getD .skip
noncomputable def fin := finK ctx sig [.cell 4 34, .tmp 5]
noncomputable def F (d : SF × LL × Unit) : Option ((SF × Int × Unit) × (Unit)) := anyK (runFn cfg fin code (initSt sig.ps d 19))
variable (s_1 : LL) (s_2 : Int) (s_3 : LI) (s_4 : LM) (part_5 : LL)
noncomputable def T : Option ((SF × Int × Unit) × (Unit)) := (spec_l09Is.F ((s_1, (s_2, (s_3, s_4))), ())).bind fun r6 => if (!(r6.1.1 : Bool)) = true then some ((([], (0, ([], []))), ((1 : Int), ())), ()) else (spec_l05Ok.F (part_5, ())).bind fun r7 => if (!(r7.1.1 : Bool)) = true then some ((([], (0, ([], []))), ((1 : Int), ())), ()) else (spec_l13Part.F (part_5, s_1, ())).bind fun r8 => if (!(r8.1.1 : Bool)) = true then some ((([], (0, ([], []))), ((6 : Int), ())), ()) else (spec_l13Vertices.F (part_5, ())).bind fun r9 => (spec_l13Pull.F ((s_1, (s_2, (s_3, s_4))), part_5, r9.1.1, ())).bind fun r10 => some ((r10.1.1, ((0 : Int), ())), ())
theorem eq : F ((s_1, (s_2, (s_3, s_4))), part_5, ()) = T s_1 s_2 s_3 s_4 part_5 := eq_any fun k => by kernel_rfl
theorem ok : CtxOK prog ctx := ⟨nilM, mixed_ok, tab_ok tab_good, consM ⟨spec_l09Is.S, consM ⟨spec_l05Ok.S, consM ⟨spec_l13Part.S, consM ⟨spec_l13Pull.S, consM ⟨spec_l13Vertices.S, nilM⟩⟩⟩⟩⟩, nilM, nilM⟩
theorem S : Sound prog ⟨9, sig, F⟩ := sound_k (res := [.cell 4 34, .tmp 5]) func9 ok
end spec_RestrictSheaf
namespace laws_toInt64S
noncomputable def sig : Sig := ⟨[.val false tL], [(.val false, tL, .deep)]⟩
noncomputable def ctx : Ctx := ⟨tabOf tabl, [], [], [], [], []⟩
noncomputable def cfg : Cfg := ⟨ctx, [], [], fun id => match id with | 3 => ([0, 3, 4], [12]) | _ => ([], []), fun _ => []⟩
noncomputable def code : Code := (f19).body.getD .skip
noncomputable def fin := finK ctx sig [.tmp 2]
noncomputable def F (d : LI × Unit) : OL := anyK (runFn cfg fin code (initSt sig.ps d 22))
variable (k : Nat) (x2 : LI) (i3 : Int) (x4 : LI)
noncomputable def l3 : OL := Go.Vm.runT cfg fin k [.inLoop (sub [1, 1, 0, 1, 0, 0] code), .inBlock 0, .code (sub [1, 1, 1] code)] ⟨[vL x2, .dead, .dead, .view 12 (.root 0) 1 false, vI i3] ++ deads 17, [(12, ⟨false, [dL x4]⟩)]⟩
theorem l3_eq : l3 (k + 1) x2 i3 x4 = if (decide (i3 < (x2.length : Int))) = true then if 0 ≤ i3 ∧ i3 < (x2.length : Int) then if 0 ≤ i3 ∧ i3 < (x4.length : Int) then l3 k x2 (IntKind.i64.wrap (i3 + (1 : Int))) (x4.set i3.toNat (x2.getD i3.toNat 0 : Int)) else none else none else some ((x4, ()), ()) := by kernel_rfl
variable (a_1 : LI)
noncomputable def T : OL := if 0 ≤ (a_1.length : Int) ∧ (a_1.length : Int) ≤ (bigN : Int) then l3 k a_1 (0 : Int) (List.replicate (a_1.length : Int).toNat 0) else none
theorem of {r : (LI × Unit) × (Unit)} (h : Ev (fun k => T k a_1) r) : F (a_1, ()) = some r := Ev.run (fun k => by kernel_rfl) h
theorem ok : CtxOK prog ctx := ⟨nilM, mixed_ok, tab_ok tab_good, nilM, nilM, nilM⟩
theorem S : Sound prog ⟨19, sig, F⟩ := sound_k (res := [.tmp 2]) func19 ok
end laws_toInt64S
namespace laws_toInt64SS
noncomputable def sig : Sig := ⟨[.val false tQ], [(.val false, tQ, .deep)]⟩
noncomputable def ctx : Ctx := ⟨tabOf tabl, [⟨19, laws_toInt64S.sig, laws_toInt64S.F⟩], [], [], [], []⟩
noncomputable def cfg : Cfg := ⟨ctx, [], [], fun id => match id with | 3 => ([0, 3, 4], [12]) | _ => ([], []), fun _ => []⟩
noncomputable def code : Code := (f37).body.getD .skip
noncomputable def fin := finK ctx sig [.tmp 2]
noncomputable def F (d : LL × Unit) : OQ := anyK (runFn cfg fin code (initSt sig.ps d 23))
variable (k : Nat) (x2 : LL) (i3 : Int) (x4 : LL)
noncomputable def l3 : OQ := Go.Vm.runT cfg fin k [.inLoop (sub [1, 1, 0, 1, 0, 0] code), .inBlock 0, .code (sub [1, 1, 1] code)] ⟨[vQ x2, .dead, .dead, .view 12 (.root 0) 1 false, vI i3] ++ deads 18, [(12, ⟨false, [dQ x4]⟩)]⟩
theorem l3_eq : l3 (k + 1) x2 i3 x4 = if (decide (i3 < (x2.length : Int))) = true then if 0 ≤ i3 ∧ i3 < (x2.length : Int) then (laws_toInt64S.F (x2.getD i3.toNat ([] : LI), ())).bind fun r5 => if 0 ≤ i3 ∧ i3 < (x4.length : Int) then l3 k x2 (IntKind.i64.wrap (i3 + (1 : Int))) (x4.set i3.toNat r5.1.1) else none else none else some ((x4, ()), ()) := by kernel_rfl
variable (a_1 : LL)
noncomputable def T : OQ := if 0 ≤ (a_1.length : Int) ∧ (a_1.length : Int) ≤ (bigN : Int) then l3 k a_1 (0 : Int) (List.replicate (a_1.length : Int).toNat ([] : LI)) else none
theorem of {r : (LL × Unit) × (Unit)} (h : Ev (fun k => T k a_1) r) : F (a_1, ()) = some r := Ev.run (fun k => by kernel_rfl) h
theorem ok : CtxOK prog ctx := ⟨nilM, mixed_ok, tab_ok tab_good, consM ⟨laws_toInt64S.S, nilM⟩, nilM, nilM⟩
theorem S : Sound prog ⟨37, sig, F⟩ := sound_k (res := [.tmp 2]) func37 ok
end laws_toInt64SS
namespace laws_toComplex
noncomputable def sig : Sig := ⟨[.val true tQ], [(.val true, tQ, .deep)]⟩
noncomputable def ctx : Ctx := ⟨tabOf tabl, [⟨37, laws_toInt64SS.sig, laws_toInt64SS.F⟩], [], [], [], []⟩
noncomputable def cfg : Cfg := ⟨ctx, [], [], fun _ => ([], []), fun _ => []⟩
noncomputable def code : Code := (f11).body.getD .skip
noncomputable def fin := finK ctx sig [.cell 2 31]
noncomputable def F (d : LL × Unit) : OQ := anyK (runFn cfg fin code (initSt sig.ps d 9))
variable (a_1 : LL)
noncomputable def T : OQ := (laws_toInt64SS.F (a_1, ())).bind fun r2 => some ((r2.1.1, ()), ())
theorem eq : F (a_1, ()) = T a_1 := eq_any fun k => by kernel_rfl
theorem ok : CtxOK prog ctx := ⟨nilM, mixed_ok, tab_ok tab_good, consM ⟨laws_toInt64SS.S, nilM⟩, nilM, nilM⟩
theorem S : Sound prog ⟨11, sig, F⟩ := sound_k (res := [.cell 2 31]) func11 ok
end laws_toComplex
namespace laws_toMatrix
noncomputable def sig : Sig := ⟨[.val true TMatrix], [(.val true, TMatrix, .deep)]⟩
noncomputable def ctx : Ctx := ⟨tabOf tabl, [⟨19, laws_toInt64S.sig, laws_toInt64S.F⟩], [], [], [], []⟩
noncomputable def cfg : Cfg := ⟨ctx, [], [], fun _ => ([], []), fun _ => []⟩
noncomputable def code : Code := (f78).body.getD .skip
noncomputable def fin := finK ctx sig [.cell 2 86]
noncomputable def F (d : MX × Unit) : OM := anyK (runFn cfg fin code (initSt sig.ps d 18))
variable (a_1 a_2 a_3 : Int) (a_4 : LI)
noncomputable def T : OM := (laws_toInt64S.F (a_4, ())).bind fun r5 => some (((a_1, (a_2, (a_3, r5.1.1))), ()), ())
theorem eq : F ((a_1, (a_2, (a_3, a_4))), ()) = T a_1 a_2 a_3 a_4 := eq_any fun k => by kernel_rfl
theorem ok : CtxOK prog ctx := ⟨nilM, mixed_ok, tab_ok tab_good, consM ⟨laws_toInt64S.S, nilM⟩, nilM, nilM⟩
theorem S : Sound prog ⟨78, sig, F⟩ := sound_k (res := [.cell 2 86]) func78 ok
end laws_toMatrix
namespace laws_toMatrixS
noncomputable def sig : Sig := ⟨[.val false (.sl TMatrix)], [(.val false, (.sl TMatrix), .deep)]⟩
noncomputable def ctx : Ctx := ⟨tabOf tabl, [⟨78, laws_toMatrix.sig, laws_toMatrix.F⟩], [], [], [], []⟩
noncomputable def cfg : Cfg := ⟨ctx, [], [], fun id => match id with | 3 => ([0, 3, 4], [12]) | _ => ([], []), fun _ => []⟩
noncomputable def code : Code := (f36).body.getD .skip
noncomputable def fin := finK ctx sig [.tmp 2]
noncomputable def F (d : LM × Unit) : Option ((LM × Unit) × (Unit)) := anyK (runFn cfg fin code (initSt sig.ps d 23))
variable (k : Nat) (x2 : LM) (i3 : Int) (x4 : LM)
noncomputable def l3 : Option ((LM × Unit) × (Unit)) := Go.Vm.runT cfg fin k [.inLoop (sub [1, 1, 0, 1, 0, 0] code), .inBlock 0, .code (sub [1, 1, 1] code)] ⟨[.val false [⟨(.sl TMatrix), .sh, x2⟩], .dead, .dead, .view 12 (.root 0) 1 false, vI i3] ++ deads 18, [(12, ⟨false, [⟨(.sl TMatrix), .deep, x4⟩]⟩)]⟩
theorem l3_eq : l3 (k + 1) x2 i3 x4 = if (decide (i3 < (x2.length : Int))) = true then if 0 ≤ i3 ∧ i3 < (x2.length : Int) then (laws_toMatrix.F (x2.getD i3.toNat (0, 0, 0, ([] : LI)), ())).bind fun r5 => if 0 ≤ i3 ∧ i3 < (x4.length : Int) then l3 k x2 (IntKind.i64.wrap (i3 + (1 : Int))) (x4.set i3.toNat r5.1.1) else none else none else some ((x4, ()), ()) := by kernel_rfl
variable (a_1 : LM)
noncomputable def T : Option ((LM × Unit) × (Unit)) := if 0 ≤ (a_1.length : Int) ∧ (a_1.length : Int) ≤ (bigN : Int) then l3 k a_1 (0 : Int) (List.replicate (a_1.length : Int).toNat (0, 0, 0, ([] : LI))) else none
theorem of {r : (LM × Unit) × (Unit)} (h : Ev (fun k => T k a_1) r) : F (a_1, ()) = some r := Ev.run (fun k => by kernel_rfl) h
theorem ok : CtxOK prog ctx := ⟨nilM, mixed_ok, tab_ok tab_good, consM ⟨laws_toMatrix.S, nilM⟩, nilM, nilM⟩
theorem S : Sound prog ⟨36, sig, F⟩ := sound_k (res := [.tmp 2]) func36 ok
end laws_toMatrixS
namespace laws_toSheaf
noncomputable def sig : Sig := ⟨[.val true TSheaf], [(.val true, TSheaf, .deep)]⟩
noncomputable def ctx : Ctx := ⟨tabOf tabl, [⟨11, laws_toComplex.sig, laws_toComplex.F⟩, ⟨19, laws_toInt64S.sig, laws_toInt64S.F⟩, ⟨36, laws_toMatrixS.sig, laws_toMatrixS.F⟩], [], [], [], []⟩
noncomputable def cfg : Cfg := ⟨ctx, [], [], fun _ => ([], []), fun _ => []⟩
noncomputable def code : Code := (f10).body.getD .skip
noncomputable def fin := finK ctx sig [.cell 2 34]
noncomputable def F (d : SF × Unit) : OS := anyK (runFn cfg fin code (initSt sig.ps d 20))
variable (a_1 : LL) (a_2 : Int) (a_3 : LI) (a_4 : LM)
noncomputable def T : OS := (laws_toComplex.F (a_1, ())).bind fun r5 => (laws_toInt64S.F (a_3, ())).bind fun r6 => (laws_toMatrixS.F (a_4, ())).bind fun r7 => some (((r5.1.1, (a_2, (r6.1.1, r7.1.1))), ()), ())
theorem eq : F ((a_1, (a_2, (a_3, a_4))), ()) = T a_1 a_2 a_3 a_4 := eq_any fun k => by kernel_rfl
theorem ok : CtxOK prog ctx := ⟨nilM, mixed_ok, tab_ok tab_good, consM ⟨laws_toComplex.S, consM ⟨laws_toInt64S.S, consM ⟨laws_toMatrixS.S, nilM⟩⟩⟩, nilM, nilM⟩
theorem S : Sound prog ⟨10, sig, F⟩ := sound_k (res := [.cell 2 34]) func10 ok
end laws_toSheaf
namespace cmp_Or_int
noncomputable def sig : Sig := ⟨[.val false tL], [(.val false, tI, .deep)]⟩
noncomputable def ctx : Ctx := ⟨tabOf tabl, [], [], [], [], []⟩
noncomputable def cfg : Cfg := ⟨ctx, [], [], fun id => match id with | 3 => ([3, 6, 7, 8], []) | _ => ([], []), fun _ => []⟩
noncomputable def code : Code := (f145).body.getD .skip
noncomputable def fin := finK ctx sig [.tmp 2]
noncomputable def F (d : LI × Unit) : OI := anyK (runFn cfg fin code (initSt sig.ps d 18))
variable (k : Nat) (i2 : Int) (x3 : LI) (i4 i5 : Int)
noncomputable def l3 : OI := Go.Vm.runT cfg fin k [.inLoop (sub [1, 1, 0, 1, 0, 0] code), .inBlock 0, .code (sub [1, 1, 1] code)] ⟨[.dead, .dead, .dead, vI i2, .dead, .dead, vL x3, vI i4, vI i5] ++ deads 9, []⟩
theorem l3_eq : l3 (k + 1) i2 x3 i4 i5 = if (decide (i5 < i4)) = true then if 0 ≤ i5 ∧ i5 < (x3.length : Int) then if ((x3.getD i5.toNat 0 : Int) != i2) = true then some (((x3.getD i5.toNat 0 : Int), ()), ()) else l3 k i2 x3 i4 (IntKind.i64.wrap (i5 + (1 : Int))) else none else some ((i2, ()), ()) := by kernel_rfl
variable (vals_1 : LI)
noncomputable def T : OI := l3 k (0 : Int) vals_1 (vals_1.length : Int) (0 : Int)
theorem of {r : (Int × Unit) × (Unit)} (h : Ev (fun k => T k vals_1) r) : F (vals_1, ()) = some r := Ev.run (fun k => by kernel_rfl) h
theorem ok : CtxOK prog ctx := ⟨nilM, mixed_ok, tab_ok tab_good, nilM, nilM, nilM⟩
theorem S : Sound prog ⟨145, sig, F⟩ := sound_k (res := [.tmp 2]) func145 ok
end cmp_Or_int
namespace cmp_isNaN_int
noncomputable def sig : Sig := ⟨[.val false tI], [(.val false, .bool, .deep)]⟩
noncomputable def ctx : Ctx := ⟨tabOf tabl, [], [], [], [], []⟩
noncomputable def cfg : Cfg := ⟨ctx, [], [], fun _ => ([], []), fun _ => []⟩
noncomputable def code : Code := (f183).body.getD .skip
noncomputable def fin := finK ctx sig [.tmp 2]
noncomputable def F (d : Int × Unit) : OB := anyK (runFn cfg fin code (initSt sig.ps d 6))
variable (x_1 : Int)
noncomputable def T : OB := some ((x_1 != x_1, ()), ())
theorem eq : F (x_1, ()) = T x_1 := eq_any fun k => by kernel_rfl
theorem ok : CtxOK prog ctx := ⟨nilM, mixed_ok, tab_ok tab_good, nilM, nilM, nilM⟩
theorem S : Sound prog ⟨183, sig, F⟩ := sound_k (res := [.tmp 2]) func183 ok
end cmp_isNaN_int
namespace cmp_Compare_int
noncomputable def sig : Sig := ⟨[.val false tI, .val false tI], [(.val false, tI, .deep)]⟩
noncomputable def ctx : Ctx := ⟨tabOf tabl, [⟨183, cmp_isNaN_int.sig, cmp_isNaN_int.F⟩], [], [], [], []⟩
noncomputable def cfg : Cfg := ⟨ctx, [], [], fun _ => ([], []), fun _ => []⟩
noncomputable def code : Code := (f146).body.getD .skip
noncomputable def fin := finK ctx sig [.tmp 4]
noncomputable def F (d : Int × Int × Unit) : OI := anyK (runFn cfg fin code (initSt sig.ps d 20))
variable (x_1 y_2 : Int)
noncomputable def T : OI := (cmp_isNaN_int.F (x_1, ())).bind fun r3 => (cmp_isNaN_int.F (y_2, ())).bind fun r4 => if (r3.1.1 : Bool) = true then if (r4.1.1 : Bool) = true then some (((0 : Int), ()), ()) else some (((-1 : Int), ()), ()) else if (r4.1.1 : Bool) = true then some (((1 : Int), ()), ()) else if (decide (x_1 < y_2)) = true then some (((-1 : Int), ()), ()) else if (decide (x_1 > y_2)) = true then some (((1 : Int), ()), ()) else some (((0 : Int), ()), ())
theorem eq : F (x_1, y_2, ()) = T x_1 y_2 := eq_any fun k => by kernel_rfl
theorem ok : CtxOK prog ctx := ⟨nilM, mixed_ok, tab_ok tab_good, consM ⟨cmp_isNaN_int.S, nilM⟩, nilM, nilM⟩
theorem S : Sound prog ⟨146, sig, F⟩ := sound_k (res := [.tmp 4]) func146 ok
end cmp_Compare_int
namespace cmp_isNaN_int64
noncomputable def sig : Sig := ⟨[.val false tI], [(.val false, .bool, .deep)]⟩
noncomputable def ctx : Ctx := ⟨tabOf tabl, [], [], [], [], []⟩
noncomputable def cfg : Cfg := ⟨ctx, [], [], fun _ => ([], []), fun _ => []⟩
noncomputable def code : Code := (f207).body.getD .skip
noncomputable def fin := finK ctx sig [.tmp 2]
noncomputable def F (d : Int × Unit) : OB := anyK (runFn cfg fin code (initSt sig.ps d 6))
variable (x_1 : Int)
noncomputable def T : OB := some ((x_1 != x_1, ()), ())
theorem eq : F (x_1, ()) = T x_1 := eq_any fun k => by kernel_rfl
theorem ok : CtxOK prog ctx := ⟨nilM, mixed_ok, tab_ok tab_good, nilM, nilM, nilM⟩
theorem S : Sound prog ⟨207, sig, F⟩ := sound_k (res := [.tmp 2]) func207 ok
end cmp_isNaN_int64
namespace cmp_Compare_int64
noncomputable def sig : Sig := ⟨[.val false tI, .val false tI], [(.val false, tI, .deep)]⟩
noncomputable def ctx : Ctx := ⟨tabOf tabl, [⟨207, cmp_isNaN_int64.sig, cmp_isNaN_int64.F⟩], [], [], [], []⟩
noncomputable def cfg : Cfg := ⟨ctx, [], [], fun _ => ([], []), fun _ => []⟩
noncomputable def code : Code := (f184).body.getD .skip
noncomputable def fin := finK ctx sig [.tmp 4]
noncomputable def F (d : Int × Int × Unit) : OI := anyK (runFn cfg fin code (initSt sig.ps d 20))
variable (x_1 y_2 : Int)
noncomputable def T : OI := (cmp_isNaN_int64.F (x_1, ())).bind fun r3 => (cmp_isNaN_int64.F (y_2, ())).bind fun r4 => if (r3.1.1 : Bool) = true then if (r4.1.1 : Bool) = true then some (((0 : Int), ()), ()) else some (((-1 : Int), ()), ()) else if (r4.1.1 : Bool) = true then some (((1 : Int), ()), ()) else if (decide (x_1 < y_2)) = true then some (((-1 : Int), ()), ()) else if (decide (x_1 > y_2)) = true then some (((1 : Int), ()), ()) else some (((0 : Int), ()), ())
theorem eq : F (x_1, y_2, ()) = T x_1 y_2 := eq_any fun k => by kernel_rfl
theorem ok : CtxOK prog ctx := ⟨nilM, mixed_ok, tab_ok tab_good, consM ⟨cmp_isNaN_int64.S, nilM⟩, nilM, nilM⟩
theorem S : Sound prog ⟨184, sig, F⟩ := sound_k (res := [.tmp 4]) func184 ok
end cmp_Compare_int64
namespace slices_Compare_Lint64_int64
noncomputable def sig : Sig := ⟨[.val false tL, .val false tL], [(.val false, tI, .deep)]⟩
noncomputable def ctx : Ctx := ⟨tabOf tabl, [⟨184, cmp_Compare_int64.sig, cmp_Compare_int64.F⟩], [], [], [], []⟩
noncomputable def cfg : Cfg := ⟨ctx, [], [], fun id => match id with | 2 => ([0, 1, 9, 10, 11], []) | _ => ([], []), fun _ => []⟩
noncomputable def code : Code := (f147).body.getD .skip
noncomputable def fin := finK ctx sig [.tmp 4]
noncomputable def F (d : LI × LI × Unit) : OI := anyK (runFn cfg fin code (initSt sig.ps d 36))
variable (k : Nat) (x3 x4 x5 : LI) (i6 i7 : Int)
noncomputable def l2 : OI := Go.Vm.runT cfg fin k [.inLoop (sub [1, 0, 1, 0, 0] code), .inBlock 0, .code (sub [1, 1] code)] ⟨[vL x3, vL x4, .dead, .dead, .dead, .dead, .dead, .dead, .dead, vL x5, vI i6, vI i7] ++ deads 24, []⟩
theorem l2_eq : l2 (k + 1) x3 x4 x5 i6 i7 = if (decide (i7 < i6)) = true then if 0 ≤ i7 ∧ i7 < (x5.length : Int) then if (decide (i7 ≥ (x4.length : Int))) = true then some (((1 : Int), ()), ()) else if 0 ≤ i7 ∧ i7 < (x4.length : Int) then (cmp_Compare_int64.F ((x5.getD i7.toNat 0 : Int), (x4.getD i7.toNat 0 : Int), ())).bind fun r8 => if ((r8.1.1 : Int) != (0 : Int)) = true then some (((r8.1.1 : Int), ()), ()) else l2 k x3 x4 x5 i6 (IntKind.i64.wrap (i7 + (1 : Int))) else none else none else if (decide ((x3.length : Int) < (x4.length : Int))) = true then some (((-1 : Int), ()), ()) else some (((0 : Int), ()), ()) := by kernel_rfl
variable (s1_1 s2_2 : LI)
noncomputable def T : OI := l2 k s1_1 s2_2 s1_1 (s1_1.length : Int) (0 : Int)
theorem of {r : (Int × Unit) × (Unit)} (h : Ev (fun k => T k s1_1 s2_2) r) : F (s1_1, s2_2, ()) = some r := Ev.run (fun k => by kernel_rfl) h
theorem ok : CtxOK prog ctx := ⟨nilM, mixed_ok, tab_ok tab_good, consM ⟨cmp_Compare_int64.S, nilM⟩, nilM, nilM⟩
theorem S : Sound prog ⟨147, sig, F⟩ := sound_k (res := [.tmp 4]) func147 ok
end slices_Compare_Lint64_int64
namespace impl_compareSimplices
noncomputable def sig : Sig := ⟨[.val false tL, .val false tL], [(.val false, tI, .deep)]⟩
noncomputable def ctx : Ctx := ⟨tabOf tabl, [⟨145, cmp_Or_int.sig, cmp_Or_int.F⟩, ⟨146, cmp_Compare_int.sig, cmp_Compare_int.F⟩, ⟨147, slices_Compare_Lint64_int64.sig, slices_Compare_Lint64_int64.F⟩], [], [], [], []⟩
noncomputable def cfg : Cfg := ⟨ctx, [], [], fun _ => ([], []), fun _ => []⟩
noncomputable def code : Code := (f96).body.getD .skip
noncomputable def fin := finK ctx sig [.tmp 4]
noncomputable def F (d : LI × LI × Unit) : OI := anyK (runFn cfg fin code (initSt sig.ps d 15))
variable (a_1 b_2 : LI)
noncomputable def T : OI := (cmp_Compare_int.F ((a_1.length : Int), (b_2.length : Int), ())).bind fun r3 => (slices_Compare_Lint64_int64.F (a_1, b_2, ())).bind fun r4 => (cmp_Or_int.F ([(r3.1.1 : Int), (r4.1.1 : Int)], ())).bind fun r5 => some (((r5.1.1 : Int), ()), ())
theorem eq : F (a_1, b_2, ()) = T a_1 b_2 := eq_any fun k => by kernel_rfl
theorem ok : CtxOK prog ctx := ⟨nilM, mixed_ok, tab_ok tab_good, consM ⟨cmp_Or_int.S, consM ⟨cmp_Compare_int.S, consM ⟨slices_Compare_Lint64_int64.S, nilM⟩⟩⟩, nilM, nilM⟩
theorem S : Sound prog ⟨96, sig, F⟩ := sound_k (res := [.tmp 4]) func96 ok
noncomputable def cloG (y : Unit) (d : LI × LI × Unit) : Option (Int × Unit) := (F (joinIns [] [(false, tL), (false, tL)] d y)).map (·.1)
noncomputable def clo : Clo := ⟨96, ⟨[(false, tL), (false, tL)], [(.val false, tI, .deep)]⟩, [], cloG⟩
theorem cloS : SoundClo prog clo := sound_clo (s := ⟨[(false, tL), (false, tL)], [(.val false, tI, .deep)]⟩) (caps := []) rfl S
end impl_compareSimplices
namespace slices_IndexFunc_Lint64_int64
noncomputable def sig : Sig := ⟨[.val false tL, .fnx ⟨[(false, tI)], [(.val false, .bool, .deep)]⟩], [(.val false, tI, .deep)]⟩
noncomputable def ctx : Ctx := ⟨tabOf tabl, [], [], [], [], []⟩
noncomputable def cfg : Cfg := ⟨ctx, [], [], fun id => match id with | 2 => ([0, 1, 7, 8], []) | _ => ([], []), fun _ => []⟩
noncomputable def code : Code := (f144).body.getD .skip
noncomputable def fin := finK ctx sig [.tmp 4]
noncomputable def F (d : LI × ((Int × Unit) → Option (Bool × Unit)) × Unit) : OI := anyK (runFn cfg fin code (initSt sig.ps d 19))
variable (k : Nat) (x3 : LI) (f4 : (Int × Unit) → Option (Bool × Unit)) (i5 i6 : Int)
noncomputable def l2 : OI := Go.Vm.runT cfg fin k [.inLoop (sub [1, 0, 1, 0, 0] code), .inBlock 0, .code (sub [1, 1] code)] ⟨[vL x3, .fnx ⟨[(false, tI)], [(.val false, .bool, .deep)]⟩ f4, .dead, .dead, .dead, .dead, .dead, vI i5, vI i6] ++ deads 10, []⟩
theorem l2_eq : l2 (k + 1) x3 f4 i5 i6 = if (decide (i6 < i5)) = true then if 0 ≤ i6 ∧ i6 < (x3.length : Int) then (f4 ((x3.getD i6.toNat 0 : Int), ())).bind fun r7 => if (r7.1 : Bool) = true then some ((i6, ()), ()) else l2 k x3 f4 i5 (IntKind.i64.wrap (i6 + (1 : Int))) else none else some (((-1 : Int), ()), ()) := by kernel_rfl
variable (s_1 : LI) (f_2 : (Int × Unit) → Option (Bool × Unit))
noncomputable def T : OI := l2 k s_1 f_2 (s_1.length : Int) (0 : Int)
theorem of {r : (Int × Unit) × (Unit)} (h : Ev (fun k => T k s_1 f_2) r) : F (s_1, f_2, ()) = some r := Ev.run (fun k => by kernel_rfl) h
theorem ok : CtxOK prog ctx := ⟨nilM, mixed_ok, tab_ok tab_good, nilM, nilM, nilM⟩
theorem S : Sound prog ⟨144, sig, F⟩ := sound_k (res := [.tmp 4]) func144 ok
end slices_IndexFunc_Lint64_int64
namespace slices_ContainsFunc_Lint64_int64
noncomputable def sig : Sig := ⟨[.val false tL, .fnx ⟨[(false, tI)], [(.val false, .bool, .deep)]⟩], [(.val false, .bool, .deep)]⟩
noncomputable def ctx : Ctx := ⟨tabOf tabl, [⟨144, slices_IndexFunc_Lint64_int64.sig, slices_IndexFunc_Lint64_int64.F⟩], [], [], [], []⟩
noncomputable def cfg : Cfg := ⟨ctx, [], [], fun _ => ([], []), fun _ => []⟩
noncomputable def code : Code := (f93).body.getD .skip
noncomputable def fin := finK ctx sig [.tmp 4]
noncomputable def F (d : LI × ((Int × Unit) → Option (Bool × Unit)) × Unit) : OB := anyK (runFn cfg fin code (initSt sig.ps d 9))
variable (s_1 : LI) (f_2 : (Int × Unit) → Option (Bool × Unit))
noncomputable def T : OB := (slices_IndexFunc_Lint64_int64.F (s_1, f_2, ())).bind fun r3 => some ((decide ((r3.1.1 : Int) ≥ (0 : Int)), ()), ())
theorem eq : F (s_1, f_2, ()) = T s_1 f_2 := eq_any fun k => by kernel_rfl
theorem ok : CtxOK prog ctx := ⟨nilM, mixed_ok, tab_ok tab_good, consM ⟨slices_IndexFunc_Lint64_int64.S, nilM⟩, nilM, nilM⟩
theorem S : Sound prog ⟨93, sig, F⟩ := sound_k (res := [.tmp 4]) func93 ok
end slices_ContainsFunc_Lint64_int64
namespace impl_isRising
noncomputable def sig : Sig := ⟨[.val false tL], [(.val false, .bool, .deep)]⟩
noncomputable def ctx : Ctx := ⟨tabOf tabl, [], [], [], [], []⟩
noncomputable def cfg : Cfg := ⟨ctx, [], [], fun id => match id with | 2 => ([0, 3], []) | _ => ([], []), fun _ => []⟩
noncomputable def code : Code := (f164).body.getD .skip
noncomputable def fin := finK ctx sig [.tmp 2]
noncomputable def F (d : LI × Unit) : OB := anyK (runFn cfg fin code (initSt sig.ps d 20))
variable (k : Nat) (x2 : LI) (i3 : Int)
noncomputable def l2 : OB := Go.Vm.runT cfg fin k [.inLoop (sub [1, 0, 1, 0, 0] code), .inBlock 0, .code (sub [1, 1] code)] ⟨[vL x2, .dead, .dead, vI i3] ++ deads 16, []⟩
theorem l2_eq : l2 (k + 1) x2 i3 = if (decide (i3 < (x2.length : Int))) = true then if 0 ≤ (IntKind.i64.wrap (i3 - (1 : Int))) ∧ (IntKind.i64.wrap (i3 - (1 : Int))) < (x2.length : Int) then if 0 ≤ i3 ∧ i3 < (x2.length : Int) then if (decide ((x2.getD (IntKind.i64.wrap (i3 - (1 : Int))).toNat 0) ≥ (x2.getD i3.toNat 0 : Int))) = true then some ((false, ()), ()) else l2 k x2 (IntKind.i64.wrap (i3 + (1 : Int))) else none else none else some ((true, ()), ()) := by kernel_rfl
variable (list_1 : LI)
noncomputable def T : OB := l2 k list_1 (1 : Int)
theorem of {r : (Bool × Unit) × (Unit)} (h : Ev (fun k => T k list_1) r) : F (list_1, ()) = some r := Ev.run (fun k => by kernel_rfl) h
theorem ok : CtxOK prog ctx := ⟨nilM, mixed_ok, tab_ok tab_good, nilM, nilM, nilM⟩
theorem S : Sound prog ⟨164, sig, F⟩ := sound_k (res := [.tmp 2]) func164 ok
end impl_isRising
namespace impl_within
noncomputable def sig : Sig := ⟨[.val false tI, .val false tI, .val false tI], [(.val false, .bool, .deep)]⟩
noncomputable def ctx : Ctx := ⟨tabOf tabl, [], [], [], [], []⟩
noncomputable def cfg : Cfg := ⟨ctx, [], [], fun _ => ([], []), fun _ => []⟩
noncomputable def code : Code := (f189).body.getD .skip
noncomputable def fin := finK ctx sig [.tmp 6]
noncomputable def F (d : Int × Int × Int × Unit) : OB := anyK (runFn cfg fin code (initSt sig.ps d 15))
variable (n_1 low_2 high_3 : Int)
noncomputable def T : OB := if (decide (n_1 ≥ low_2)) = true then some ((decide (n_1 ≤ high_3), ()), ()) else some ((false, ()), ())
theorem eq : F (n_1, low_2, high_3, ()) = T n_1 low_2 high_3 := eq_any fun k => by kernel_rfl
theorem ok : CtxOK prog ctx := ⟨nilM, mixed_ok, tab_ok tab_good, nilM, nilM, nilM⟩
theorem S : Sound prog ⟨189, sig, F⟩ := sound_k (res := [.tmp 6]) func189 ok
end impl_within
namespace impl_isVertex
noncomputable def sig : Sig := ⟨[.val false tI], [(.val false, .bool, .deep)]⟩
noncomputable def ctx : Ctx := ⟨tabOf tabl, [⟨189, impl_within.sig, impl_within.F⟩], [], [], [], []⟩
noncomputable def cfg : Cfg := ⟨ctx, [], [], fun _ => ([], []), fun _ => []⟩
noncomputable def code : Code := (f166).body.getD .skip
noncomputable def fin := finK ctx sig [.tmp 2]
noncomputable def F (d : Int × Unit) : OB := anyK (runFn cfg fin code (initSt sig.ps d 5))
variable (v_1 : Int)
noncomputable def T : OB := (impl_within.F (v_1, (0 : Int), (9 : Int), ())).bind fun r2 => some (((r2.1.1 : Bool), ()), ())
theorem eq : F (v_1, ()) = T v_1 := eq_any fun k => by kernel_rfl
theorem ok : CtxOK prog ctx := ⟨nilM, mixed_ok, tab_ok tab_good, consM ⟨impl_within.S, nilM⟩, nilM, nilM⟩
theorem S : Sound prog ⟨166, sig, F⟩ := sound_k (res := [.tmp 2]) func166 ok
end impl_isVertex
namespace impl_ValidSimplex_1
noncomputable def sig : Sig := ⟨[.val false tI], [(.val false, .bool, .deep)]⟩
noncomputable def ctx : Ctx := ⟨tabOf tabl, [⟨166, impl_isVertex.sig, impl_isVertex.F⟩], [], [], [], []⟩
noncomputable def cfg : Cfg := ⟨ctx, [], [], fun _ => ([], []), fun _ => []⟩
noncomputable def code : Code := (f165).body.getD .skip
noncomputable def fin := finK ctx sig [.tmp 2]
noncomputable def F (d : Int × Unit) : OB := anyK (runFn cfg fin code (initSt sig.ps d 6))
variable (v_1 : Int)
noncomputable def T : OB := (impl_isVertex.F (v_1, ())).bind fun r2 => some ((!(r2.1.1 : Bool), ()), ())
theorem eq : F (v_1, ()) = T v_1 := eq_any fun k => by kernel_rfl
theorem ok : CtxOK prog ctx := ⟨nilM, mixed_ok, tab_ok tab_good, consM ⟨impl_isVertex.S, nilM⟩, nilM, nilM⟩
theorem S : Sound prog ⟨165, sig, F⟩ := sound_k (res := [.tmp 2]) func165 ok
noncomputable def cloG (y : Unit) (d : Int × Unit) : Option (Bool × Unit) := (F (joinIns [] [(false, tI)] d y)).map (·.1)
noncomputable def clo : Clo := ⟨165, ⟨[(false, tI)], [(.val false, .bool, .deep)]⟩, [], cloG⟩
theorem cloS : SoundClo prog clo := sound_clo (s := ⟨[(false, tI)], [(.val false, .bool, .deep)]⟩) (caps := []) rfl S
end impl_ValidSimplex_1
namespace impl_ValidSimplex
noncomputable def sig : Sig := ⟨[.val false tL], [(.val false, .bool, .deep)]⟩
noncomputable def ctx : Ctx := ⟨tabOf tabl, [⟨93, slices_ContainsFunc_Lint64_int64.sig, slices_ContainsFunc_Lint64_int64.F⟩, ⟨164, impl_isRising.sig, impl_isRising.F⟩], [impl_ValidSimplex_1.clo], [], [], []⟩
noncomputable def cfg : Cfg := ⟨ctx, [], [], fun _ => ([], []), fun _ => []⟩
noncomputable def code : Code := (f130).body.getD .skip
noncomputable def fin := finK ctx sig [.tmp 2]
noncomputable def F (d : LI × Unit) : OB := anyK (runFn cfg fin code (initSt sig.ps d 20))
variable (s_1 : LI)
noncomputable def T : OB := if (decide ((s_1.length : Int) ≥ (1 : Int))) = true then if (decide ((s_1.length : Int) ≤ (4 : Int))) = true then (impl_isRising.F (s_1, ())).bind fun r2 => if (r2.1.1 : Bool) = true then (slices_ContainsFunc_Lint64_int64.F (s_1, impl_ValidSimplex_1.cloG (()), ())).bind fun r3 => some ((!(r3.1.1 : Bool), ()), ()) else some ((false, ()), ()) else some ((false, ()), ()) else some ((false, ()), ())
theorem eq : F (s_1, ()) = T s_1 := eq_any fun k => by kernel_rfl
theorem ok : CtxOK prog ctx := ⟨nilM, mixed_ok, tab_ok tab_good, consM ⟨slices_ContainsFunc_Lint64_int64.S, consM ⟨impl_isRising.S, nilM⟩⟩, consM ⟨impl_ValidSimplex_1.cloS, nilM⟩, nilM⟩
theorem S : Sound prog ⟨130, sig, F⟩ := sound_k (res := [.tmp 2]) func130 ok
end impl_ValidSimplex
namespace slices_IndexFunc_LLint64_Lint64
noncomputable def sig : Sig := ⟨[.val false tQ, .fnx ⟨[(false, tL)], [(.val false, .bool, .deep)]⟩], [(.val false, tI, .deep)]⟩
noncomputable def ctx : Ctx := ⟨tabOf tabl, [], [], [], [], []⟩
noncomputable def cfg : Cfg := ⟨ctx, [], [], fun id => match id with | 2 => ([0, 1, 7, 8], []) | _ => ([], []), fun _ => []⟩
noncomputable def code : Code := (f167).body.getD .skip
noncomputable def fin := finK ctx sig [.tmp 4]
noncomputable def F (d : LL × ((LI × Unit) → Option (Bool × Unit)) × Unit) : OI := anyK (runFn cfg fin code (initSt sig.ps d 19))
variable (k : Nat) (x3 : LL) (f4 : (LI × Unit) → Option (Bool × Unit)) (i5 i6 : Int)
noncomputable def l2 : OI := Go.Vm.runT cfg fin k [.inLoop (sub [1, 0, 1, 0, 0] code), .inBlock 0, .code (sub [1, 1] code)] ⟨[vQ x3, .fnx ⟨[(false, tL)], [(.val false, .bool, .deep)]⟩ f4, .dead, .dead, .dead, .dead, .dead, vI i5, vI i6] ++ deads 10, []⟩
theorem l2_eq : l2 (k + 1) x3 f4 i5 i6 = if (decide (i6 < i5)) = true then if 0 ≤ i6 ∧ i6 < (x3.length : Int) then (f4 (x3.getD i6.toNat ([] : LI), ())).bind fun r7 => if (r7.1 : Bool) = true then some ((i6, ()), ()) else l2 k x3 f4 i5 (IntKind.i64.wrap (i6 + (1 : Int))) else none else some (((-1 : Int), ()), ()) := by kernel_rfl
variable (s_1 : LL) (f_2 : (LI × Unit) → Option (Bool × Unit))
noncomputable def T : OI := l2 k s_1 f_2 (s_1.length : Int) (0 : Int)
theorem of {r : (Int × Unit) × (Unit)} (h : Ev (fun k => T k s_1 f_2) r) : F (s_1, f_2, ()) = some r := Ev.run (fun k => by kernel_rfl) h
theorem ok : CtxOK prog ctx := ⟨nilM, mixed_ok, tab_ok tab_good, nilM, nilM, nilM⟩
theorem S : Sound prog ⟨167, sig, F⟩ := sound_k (res := [.tmp 4]) func167 ok
end slices_IndexFunc_LLint64_Lint64
namespace slices_ContainsFunc_LLint64_Lint64
noncomputable def sig : Sig := ⟨[.val false tQ, .fnx ⟨[(false, tL)], [(.val false, .bool, .deep)]⟩], [(.val false, .bool, .deep)]⟩
noncomputable def ctx : Ctx := ⟨tabOf tabl, [⟨167, slices_IndexFunc_LLint64_Lint64.sig, slices_IndexFunc_LLint64_Lint64.F⟩], [], [], [], []⟩
noncomputable def cfg : Cfg := ⟨ctx, [], [], fun _ => ([], []), fun _ => []⟩
noncomputable def code : Code := (f131).body.getD .skip
noncomputable def fin := finK ctx sig [.tmp 4]
noncomputable def F (d : LL × ((LI × Unit) → Option (Bool × Unit)) × Unit) : OB := anyK (runFn cfg fin code (initSt sig.ps d 9))
variable (s_1 : LL) (f_2 : (LI × Unit) → Option (Bool × Unit))
noncomputable def T : OB := (slices_IndexFunc_LLint64_Lint64.F (s_1, f_2, ())).bind fun r3 => some ((decide ((r3.1.1 : Int) ≥ (0 : Int)), ()), ())
theorem eq : F (s_1, f_2, ()) = T s_1 f_2 := eq_any fun k => by kernel_rfl
theorem ok : CtxOK prog ctx := ⟨nilM, mixed_ok, tab_ok tab_good, consM ⟨slices_IndexFunc_LLint64_Lint64.S, nilM⟩, nilM, nilM⟩
theorem S : Sound prog ⟨131, sig, F⟩ := sound_k (res := [.tmp 4]) func131 ok
end slices_ContainsFunc_LLint64_Lint64
namespace slices_Concat_Lint64_int64
noncomputable def sig : Sig := ⟨[.val false tQ], [(.val false, tL, .deep)]⟩
noncomputable def ctx : Ctx := ⟨tabOf tabl, [], [], [], [(195, tI)], []⟩
noncomputable def cfg : Cfg := ⟨ctx, [], [], fun id => match id with | 3 => ([0, 3, 9, 10, 11], []) | 11 => ([6, 25, 26, 27], [24]) | _ => ([], []), fun _ => []⟩
noncomputable def code : Code := (f168).body.getD .skip
noncomputable def fin := finK ctx sig [.tmp 2]
noncomputable def F (d : LL × Unit) : OL := anyK (runFn cfg fin code (initSt sig.ps d 36))
variable (k : Nat) (x2 : LL) (i3 : Int) (x4 : LL) (i5 i6 : Int)
noncomputable def l3 : OL := Go.Vm.runT cfg fin k [.inLoop (sub [1, 1, 0, 1, 0, 0] code), .inBlock 0, .code (sub [1, 1, 1] code)] ⟨[vQ x2, .dead, .dead, vI i3, .dead, .dead, .dead, .dead, .dead, vQ x4, vI i5, vI i6] ++ deads 24, []⟩
variable (x7 : LL) (i8 i9 : Int) (x10 : LI)
noncomputable def l11 : OL := Go.Vm.runT cfg fin k [.inLoop (sub [1, 1, 1, 1, 0, 1, 0, 0] code), .inBlock 2, .code (sub [1, 1, 1, 1, 1] code)] ⟨[.dead, .dead, .dead, .dead, .dead, .dead, .view 24 (.root 0) 1 false, .dead, .dead, .dead, .dead, .dead, .dead, .dead, .dead, .dead, .dead, .dead, .dead, .dead, .dead, .dead, .dead, .dead, .dead, vQ x7, vI i8, vI i9] ++ deads 8, [(24, ⟨false, [dL x10]⟩)]⟩
theorem l3_eq : l3 (k + 1) x2 i3 x4 i5 i6 = if (decide (i6 < i5)) = true then if 0 ≤ i6 ∧ i6 < (x4.length : Int) then if (decide ((IntKind.i64.wrap (i3 + ((x4.getD i6.toNat ([] : LI)).length : Int))) < (0 : Int))) = true then none else l3 k x2 (IntKind.i64.wrap (i3 + ((x4.getD i6.toNat ([] : LI)).length : Int))) x4 i5 (IntKind.i64.wrap (i6 + (1 : Int))) else none else if 0 ≤ i3 ∧ i3 ≤ (bigN : Int) then l11 k x2 (x2.length : Int) (0 : Int) ([] : LI) else none := by kernel_rfl
theorem l11_eq : l11 (k + 1) x7 i8 i9 x10 = if (decide (i9 < i8)) = true then if 0 ≤ i9 ∧ i9 < (x7.length : Int) then if x10.length + (x7.getD i9.toNat ([] : LI)).length ≤ bigA then l11 k x7 i8 (IntKind.i64.wrap (i9 + (1 : Int))) (x10 ++ (x7.getD i9.toNat ([] : LI))) else none else none else some ((x10, ()), ()) := by kernel_rfl
variable (slices_1 : LL)
noncomputable def T : OL := l3 k slices_1 (0 : Int) slices_1 (slices_1.length : Int) (0 : Int)
theorem of {r : (LI × Unit) × (Unit)} (h : Ev (fun k => T k slices_1) r) : F (slices_1, ()) = some r := Ev.run (fun k => by kernel_rfl) h
theorem ok : CtxOK prog ctx := ⟨nilM, mixed_ok, tab_ok tab_good, nilM, nilM, consM ⟨slices_Grow_Lint64_int64.growOK, nilM⟩⟩
theorem S : Sound prog ⟨168, sig, F⟩ := sound_k (res := [.tmp 2]) func168 ok
end slices_Concat_Lint64_int64
namespace impl_facesOf
noncomputable def sig : Sig := ⟨[.val false tL], [(.val false, tQ, .deep)]⟩
noncomputable def ctx : Ctx := ⟨tabOf tabl, [⟨168, slices_Concat_Lint64_int64.sig, slices_Concat_Lint64_int64.F⟩], [], [], [], []⟩
noncomputable def cfg : Cfg := ⟨ctx, [], [], fun id => match id with | 3 => ([0, 3, 6, 7], [12]) | _ => ([], []), fun _ => []⟩
noncomputable def code : Code := (f132).body.getD .skip
noncomputable def fin := finK ctx sig [.tmp 2]
noncomputable def F (d : LI × Unit) : OQ := anyK (runFn cfg fin code (initSt sig.ps d 27))
variable (k : Nat) (x2 : LI) (i3 i4 : Int) (x5 : LL)
noncomputable def l3 : OQ := Go.Vm.runT cfg fin k [.inLoop (sub [1, 1, 0, 1, 0, 0] code), .inBlock 0, .code (sub [1, 1, 1] code)] ⟨[vL x2, .dead, .dead, .view 12 (.root 0) 1 false, .dead, .dead, vI i3, vI i4] ++ deads 19, [(12, ⟨false, [dQ x5]⟩)]⟩
theorem l3_eq : l3 (k + 1) x2 i3 i4 x5 = if (decide (i4 < i3)) = true then if (decide ((x2.length : Int) > (1 : Int))) = true then if 0 ≤ (0 : Int) ∧ (0 : Int) ≤ i4 ∧ i4 ≤ (x2.length : Int) then if 0 ≤ (IntKind.i64.wrap (i4 + (1 : Int))) ∧ (IntKind.i64.wrap (i4 + (1 : Int))) ≤ (x2.length : Int) ∧ (x2.length : Int) ≤ (x2.length : Int) then (slices_Concat_Lint64_int64.F ([cutL x2 (0 : Int) i4, cutL x2 (IntKind.i64.wrap (i4 + (1 : Int))) (x2.length : Int)], ())).bind fun r6 => if x5.length + ([r6.1.1] : LL).length ≤ bigA then l3 k x2 i3 (IntKind.i64.wrap (i4 + (1 : Int))) (x5 ++ ([r6.1.1])) else none else none else none else l3 k x2 i3 (IntKind.i64.wrap (i4 + (1 : Int))) x5 else some ((x5, ()), ()) := by kernel_rfl
variable (s_1 : LI)
noncomputable def T : OQ := l3 k s_1 (s_1.length : Int) (0 : Int) ([])
theorem of {r : (LL × Unit) × (Unit)} (h : Ev (fun k => T k s_1) r) : F (s_1, ()) = some r := Ev.run (fun k => by kernel_rfl) h
theorem ok : CtxOK prog ctx := ⟨nilM, mixed_ok, tab_ok tab_good, consM ⟨slices_Concat_Lint64_int64.S, nilM⟩, nilM, nilM⟩
theorem S : Sound prog ⟨132, sig, F⟩ := sound_k (res := [.tmp 2]) func132 ok
end impl_facesOf
namespace slices_BinarySearchFunc_LLint64_Lint64_Lint64
noncomputable def sig : Sig := ⟨[.val false tQ, .val false tL, .fnx ⟨[(false, tL), (false, tL)], [(.val false, tI, .deep)]⟩], [(.val false, tI, .deep), (.val false, .bool, .deep)]⟩
noncomputable def ctx : Ctx := ⟨tabOf tabl, [], [], [], [], []⟩
noncomputable def cfg : Cfg := ⟨ctx, [], [], fun id => match id with | 3 => ([0, 1, 2, 8, 9, 10], []) | _ => ([], []), fun _ => []⟩
noncomputable def code : Code := (f95).body.getD .skip
noncomputable def fin := finK ctx sig [.tmp 6, .tmp 7]
noncomputable def F (d : LL × LI × ((LI × LI × Unit) → Option (Int × Unit)) × Unit) : Option ((Int × Bool × Unit) × (Unit)) := anyK (runFn cfg fin code (initSt sig.ps d 49))
variable (k : Nat) (x4 : LL) (x5 : LI) (f6 : (LI × LI × Unit) → Option (Int × Unit)) (i7 i8 i9 : Int)
noncomputable def l3 : Option ((Int × Bool × Unit) × (Unit)) := Go.Vm.runT cfg fin k [.inLoop (sub [1, 1, 1, 0, 0, 0] code), .inBlock 0, .code (sub [1, 1, 1, 1] code)] ⟨[vQ x4, vL x5, .fnx ⟨[(false, tL), (false, tL)], [(.val false, tI, .deep)]⟩ f6, .dead, .dead, .dead, .dead, .dead, vI i7, vI i8, vI i9] ++ deads 38, []⟩
theorem l3_eq : l3 (k + 1) x4 x5 f6 i7 i8 i9 = if (decide (i8 < i9)) = true then if (1 : Int) < 0 then none else if 0 ≤ (IntKind.i64.wrap ((IntKind.u64.wrap (IntKind.i64.wrap (i8 + i9))).fdiv (2 ^ (min (1 : Int).toNat IntKind.u64.bits)))) ∧ (IntKind.i64.wrap ((IntKind.u64.wrap (IntKind.i64.wrap (i8 + i9))).fdiv (2 ^ (min (1 : Int).toNat IntKind.u64.bits)))) < (x4.length : Int) then (f6 (x4.getD (IntKind.i64.wrap ((IntKind.u64.wrap (IntKind.i64.wrap (i8 + i9))).fdiv (2 ^ (min (1 : Int).toNat IntKind.u64.bits)))).toNat ([] : LI), x5, ())).bind fun r10 => if (decide ((r10.1 : Int) < (0 : Int))) = true then l3 k x4 x5 f6 i7 (IntKind.i64.wrap ((IntKind.i64.wrap ((IntKind.u64.wrap (IntKind.i64.wrap (i8 + i9))).fdiv (2 ^ (min (1 : Int).toNat IntKind.u64.bits)))) + (1 : Int))) i9 else l3 k x4 x5 f6 i7 i8 (IntKind.i64.wrap ((IntKind.u64.wrap (IntKind.i64.wrap (i8 + i9))).fdiv (2 ^ (min (1 : Int).toNat IntKind.u64.bits)))) else none else if (decide (i8 < i7)) = true then if 0 ≤ i8 ∧ i8 < (x4.length : Int) then (f6 (x4.getD i8.toNat ([] : LI), x5, ())).bind fun r11 => some ((i8, ((r11.1 : Int) == (0 : Int), ())), ()) else none else some ((i8, (false, ())), ()) := by kernel_rfl
variable (x_1 : LL) (target_2 : LI) (f_3 : (LI × LI × Unit) → Option (Int × Unit))
noncomputable def T : Option ((Int × Bool × Unit) × (Unit)) := l3 k x_1 target_2 f_3 (x_1.length : Int) (0 : Int) (x_1.length : Int)
theorem of {r : (Int × Bool × Unit) × (Unit)} (h : Ev (fun k => T k x_1 target_2 f_3) r) : F (x_1, target_2, f_3, ()) = some r := Ev.run (fun k => by kernel_rfl) h
theorem ok : CtxOK prog ctx := ⟨nilM, mixed_ok, tab_ok tab_good, nilM, nilM, nilM⟩
theorem S : Sound prog ⟨95, sig, F⟩ := sound_k (res := [.tmp 6, .tmp 7]) func95 ok
end slices_BinarySearchFunc_LLint64_Lint64_Lint64
namespace impl_indexOf
noncomputable def sig : Sig := ⟨[.val true tQ, .val false tL], [(.val false, tI, .deep)]⟩
noncomputable def ctx : Ctx := ⟨tabOf tabl, [⟨95, slices_BinarySearchFunc_LLint64_Lint64_Lint64.sig, slices_BinarySearchFunc_LLint64_Lint64_Lint64.F⟩], [impl_compareSimplices.clo], [], [], []⟩
noncomputable def cfg : Cfg := ⟨ctx, [], [], fun _ => ([], []), fun _ => []⟩
noncomputable def code : Code := (f57).body.getD .skip
noncomputable def fin := finK ctx sig [.tmp 4]
noncomputable def F (d : LL × LI × Unit) : OI := anyK (runFn cfg fin code (initSt sig.ps d 17))
variable (c_1 : LL) (s_2 : LI)
noncomputable def T : OI := (slices_BinarySearchFunc_LLint64_Lint64_Lint64.F (c_1, s_2, impl_compareSimplices.cloG (()), ())).bind fun r3 => if (!(r3.1.2.1 : Bool)) = true then some (((-1 : Int), ()), ()) else some (((r3.1.1 : Int), ()), ())
theorem eq : F (c_1, s_2, ()) = T c_1 s_2 := eq_any fun k => by kernel_rfl
theorem ok : CtxOK prog ctx := ⟨nilM, mixed_ok, tab_ok tab_good, consM ⟨slices_BinarySearchFunc_LLint64_Lint64_Lint64.S, nilM⟩, consM ⟨impl_compareSimplices.cloS, nilM⟩, nilM⟩
theorem S : Sound prog ⟨57, sig, F⟩ := sound_k (res := [.tmp 4]) func57 ok
end impl_indexOf
namespace impl_ValidComplex_1
noncomputable def sig : Sig := ⟨[.val false tL, .rptr tQ, .rptr tI], [(.val false, .bool, .deep)]⟩
noncomputable def ctx : Ctx := ⟨tabOf tabl, [⟨57, impl_indexOf.sig, impl_indexOf.F⟩], [], [], [], []⟩
noncomputable def cfg : Cfg := ⟨ctx, [], [], fun _ => ([], []), fun _ => []⟩
noncomputable def code : Code := (f133).body.getD .skip
noncomputable def fin := finK ctx sig [.tmp 4]
noncomputable def F (d : LI × LL × Int × Unit) : OB := anyK (runFn cfg fin code (initSt sig.ps d 13))
variable (f_1 : LI) (a_2 : LL) (a_3 : Int)
noncomputable def T : OB := if 0 ≤ (0 : Int) ∧ (0 : Int) ≤ a_3 ∧ a_3 ≤ (a_2.length : Int) then (impl_indexOf.F (cutL a_2 (0 : Int) a_3, f_1, ())).bind fun r4 => some ((decide ((r4.1.1 : Int) < (0 : Int)), ()), ()) else none
theorem eq : F (f_1, a_2, a_3, ()) = T f_1 a_2 a_3 := eq_any fun k => by kernel_rfl
theorem ok : CtxOK prog ctx := ⟨nilM, mixed_ok, tab_ok tab_good, consM ⟨impl_indexOf.S, nilM⟩, nilM, nilM⟩
theorem S : Sound prog ⟨133, sig, F⟩ := sound_k (res := [.tmp 4]) func133 ok
noncomputable def cloG (y : LL × Int × Unit) (d : LI × Unit) : Option (Bool × Unit) := (F (joinIns [.rptr tQ, .rptr tI] [(false, tL)] d y)).map (·.1)
noncomputable def clo : Clo := ⟨133, ⟨[(false, tL)], [(.val false, .bool, .deep)]⟩, [.rptr tQ, .rptr tI], cloG⟩
theorem cloS : SoundClo prog clo := sound_clo (s := ⟨[(false, tL)], [(.val false, .bool, .deep)]⟩) (caps := [.rptr tQ, .rptr tI]) rfl S
end impl_ValidComplex_1
namespace impl_ValidComplex
noncomputable def sig : Sig := ⟨[.val true tQ], [(.val false, .bool, .deep)]⟩
noncomputable def ctx : Ctx := ⟨tabOf tabl, [⟨96, impl_compareSimplices.sig, impl_compareSimplices.F⟩, ⟨130, impl_ValidSimplex.sig, impl_ValidSimplex.F⟩, ⟨131, slices_ContainsFunc_LLint64_Lint64.sig, slices_ContainsFunc_LLint64_Lint64.F⟩, ⟨132, impl_facesOf.sig, impl_facesOf.F⟩], [impl_ValidComplex_1.clo], [], [], []⟩
noncomputable def cfg : Cfg := ⟨ctx, [], [], fun id => match id with | 2 => ([1, 6, 7, 8], [4]) | _ => ([], []), fun _ => []⟩
noncomputable def code : Code := (f80).body.getD .skip
noncomputable def fin := finK ctx sig [.tmp 2]
noncomputable def F (d : LL × Unit) : OB := anyK (runFn cfg fin code (initSt sig.ps d 40))
variable (k : Nat) (x2 : LL) (i3 i4 : Int) (x5 : LL)
noncomputable def l2 : OB := Go.Vm.runT cfg fin k [.inLoop (sub [1, 0, 1, 0, 0] code), .inBlock 0, .code (sub [1, 1] code)] ⟨[.dead, .ref 4 (.root 0), .dead, .dead, .dead, .dead, vQ x2, vI i3, vI i4] ++ deads 31, [(4, ⟨true, [cQ x5]⟩)]⟩
theorem l2_eq : l2 (k + 1) x2 i3 i4 x5 = if (decide (i4 < i3)) = true then if 0 ≤ i4 ∧ i4 < (x2.length : Int) then (impl_ValidSimplex.F (x2.getD i4.toNat ([] : LI), ())).bind fun r6 => if (!(r6.1.1 : Bool)) = true then some ((false, ()), ()) else if (decide (i4 > (0 : Int))) = true then if 0 ≤ (IntKind.i64.wrap (i4 - (1 : Int))) ∧ (IntKind.i64.wrap (i4 - (1 : Int))) < (x5.length : Int) then (impl_compareSimplices.F (x5.getD (IntKind.i64.wrap (i4 - (1 : Int))).toNat ([] : LI), x2.getD i4.toNat ([] : LI), ())).bind fun r7 => if (decide ((r7.1.1 : Int) ≥ (0 : Int))) = true then some ((false, ()), ()) else (impl_facesOf.F (x2.getD i4.toNat ([] : LI), ())).bind fun r8 => (slices_ContainsFunc_LLint64_Lint64.F (r8.1.1, impl_ValidComplex_1.cloG (x5, i4, ()), ())).bind fun r9 => if (r9.1.1 : Bool) = true then some ((false, ()), ()) else l2 k x2 i3 (IntKind.i64.wrap (i4 + (1 : Int))) x5 else none else (impl_facesOf.F (x2.getD i4.toNat ([] : LI), ())).bind fun r10 => (slices_ContainsFunc_LLint64_Lint64.F (r10.1.1, impl_ValidComplex_1.cloG (x5, i4, ()), ())).bind fun r11 => if (r11.1.1 : Bool) = true then some ((false, ()), ()) else l2 k x2 i3 (IntKind.i64.wrap (i4 + (1 : Int))) x5 else none else some ((decide ((x5.length : Int) ≤ (48 : Int)), ()), ()) := by kernel_rfl
variable (c_1 : LL)
noncomputable def T : OB := l2 k c_1 (c_1.length : Int) (0 : Int) c_1
theorem of {r : (Bool × Unit) × (Unit)} (h : Ev (fun k => T k c_1) r) : F (c_1, ()) = some r := Ev.run (fun k => by kernel_rfl) h
theorem ok : CtxOK prog ctx := ⟨nilM, mixed_ok, tab_ok tab_good, consM ⟨impl_compareSimplices.S, consM ⟨impl_ValidSimplex.S, consM ⟨slices_ContainsFunc_LLint64_Lint64.S, consM ⟨impl_facesOf.S, nilM⟩⟩⟩⟩, consM ⟨impl_ValidComplex_1.cloS, nilM⟩, nilM⟩
theorem S : Sound prog ⟨80, sig, F⟩ := sound_k (res := [.tmp 2]) func80 ok
end impl_ValidComplex
namespace impl_ValidPrime
noncomputable def sig : Sig := ⟨[.val false tI], [(.val false, .bool, .deep)]⟩
noncomputable def ctx : Ctx := ⟨tabOf tabl, [⟨189, impl_within.sig, impl_within.F⟩], [], [], [], []⟩
noncomputable def cfg : Cfg := ⟨ctx, [], [], fun id => match id with | 4 => ([0, 3], []) | _ => ([], []), fun _ => []⟩
noncomputable def code : Code := (f158).body.getD .skip
noncomputable def fin := finK ctx sig [.tmp 2]
noncomputable def F (d : Int × Unit) : OB := anyK (runFn cfg fin code (initSt sig.ps d 18))
variable (k : Nat) (i3 i4 : Int)
noncomputable def l4 : OB := Go.Vm.runT cfg fin k [.inLoop (sub [1, 1, 0, 1, 0, 0] code), .inBlock 0, .code (sub [1, 1, 1] code)] ⟨[vI i3, .dead, .dead, vI i4] ++ deads 14, []⟩
theorem l4_eq : l4 (k + 1) i3 i4 = if (decide ((IntKind.i64.wrap (i4 * i4)) ≤ i3)) = true then if i4 = 0 then none else if ((i3.tmod i4) == (0 : Int)) = true then some ((false, ()), ()) else l4 k i3 (IntKind.i64.wrap (i4 + (1 : Int))) else some ((true, ()), ()) := by kernel_rfl
variable (p_1 : Int)
noncomputable def T : OB := (impl_within.F (p_1, (2 : Int), (251 : Int), ())).bind fun r2 => if (!(r2.1.1 : Bool)) = true then some ((false, ()), ()) else l4 k p_1 (2 : Int)
theorem of {r : (Bool × Unit) × (Unit)} (h : Ev (fun k => T k p_1) r) : F (p_1, ()) = some r := Ev.run (fun k => by kernel_rfl) h
theorem ok : CtxOK prog ctx := ⟨nilM, mixed_ok, tab_ok tab_good, consM ⟨impl_within.S, nilM⟩, nilM, nilM⟩
theorem S : Sound prog ⟨158, sig, F⟩ := sound_k (res := [.tmp 2]) func158 ok
end impl_ValidPrime
namespace impl_size_int64
noncomputable def sig : Sig := ⟨[.val false tL], [(.val false, tI, .deep)]⟩
noncomputable def ctx : Ctx := ⟨tabOf tabl, [], [], [], [], []⟩
noncomputable def cfg : Cfg := ⟨ctx, [], [], fun _ => ([], []), fun _ => []⟩
noncomputable def code : Code := (f111).body.getD .skip
noncomputable def fin := finK ctx sig [.tmp 2]
noncomputable def F (d : LI × Unit) : OI := anyK (runFn cfg fin code (initSt sig.ps d 5))
variable (list_1 : LI)
noncomputable def T : OI := some (((list_1.length : Int), ()), ())
theorem eq : F (list_1, ()) = T list_1 := eq_any fun k => by kernel_rfl
theorem ok : CtxOK prog ctx := ⟨nilM, mixed_ok, tab_ok tab_good, nilM, nilM, nilM⟩
theorem S : Sound prog ⟨111, sig, F⟩ := sound_k (res := [.tmp 2]) func111 ok
end impl_size_int64
namespace impl_simplicesOf
noncomputable def sig : Sig := ⟨[.val true tQ, .val false tI], [(.val false, tL, .deep)]⟩
noncomputable def ctx : Ctx := ⟨tabOf tabl, [⟨111, impl_size_int64.sig, impl_size_int64.F⟩], [], [], [], []⟩
noncomputable def cfg : Cfg := ⟨ctx, [], [], fun id => match id with | 3 => ([1, 5, 9, 10, 11], [20]) | _ => ([], []), fun _ => []⟩
noncomputable def code : Code := (f65).body.getD .skip
noncomputable def fin := finK ctx sig [.tmp 4]
noncomputable def F (d : LL × Int × Unit) : OL := anyK (runFn cfg fin code (initSt sig.ps d 27))
variable (k : Nat) (i3 : Int) (x4 : LL) (i5 i6 : Int) (x7 : LI)
noncomputable def l3 : OL := Go.Vm.runT cfg fin k [.inLoop (sub [1, 1, 0, 1, 0, 0] code), .inBlock 0, .code (sub [1, 1, 1] code)] ⟨[.dead, vI i3, .dead, .dead, .dead, .view 20 (.root 0) 1 false, .dead, .dead, .dead, vQ x4, vI i5, vI i6] ++ deads 15, [(20, ⟨false, [dL x7]⟩)]⟩
theorem l3_eq : l3 (k + 1) i3 x4 i5 i6 x7 = if (decide (i6 < i5)) = true then if 0 ≤ i6 ∧ i6 < (x4.length : Int) then (impl_size_int64.F (x4.getD i6.toNat ([] : LI), ())).bind fun r8 => if ((r8.1.1 : Int) == (IntKind.i64.wrap (i3 + (1 : Int)))) = true then if x7.length + ([i6] : LI).length ≤ bigA then l3 k i3 x4 i5 (IntKind.i64.wrap (i6 + (1 : Int))) (x7 ++ ([i6])) else none else l3 k i3 x4 i5 (IntKind.i64.wrap (i6 + (1 : Int))) x7 else none else some ((x7, ()), ()) := by kernel_rfl
variable (c_1 : LL) (dimension_2 : Int)
noncomputable def T : OL := l3 k dimension_2 c_1 (c_1.length : Int) (0 : Int) ([])
theorem of {r : (LI × Unit) × (Unit)} (h : Ev (fun k => T k c_1 dimension_2) r) : F (c_1, dimension_2, ()) = some r := Ev.run (fun k => by kernel_rfl) h
theorem ok : CtxOK prog ctx := ⟨nilM, mixed_ok, tab_ok tab_good, consM ⟨impl_size_int64.S, nilM⟩, nilM, nilM⟩
theorem S : Sound prog ⟨65, sig, F⟩ := sound_k (res := [.tmp 4]) func65 ok
end impl_simplicesOf
namespace impl_stalkSum
noncomputable def sig : Sig := ⟨[.val true TSheaf, .val false tI], [(.val false, tI, .deep)]⟩
noncomputable def ctx : Ctx := ⟨tabOf tabl, [⟨65, impl_simplicesOf.sig, impl_simplicesOf.F⟩], [], [], [], []⟩
noncomputable def cfg : Cfg := ⟨ctx, [], [], fun id => match id with | 3 => ([2, 5, 11, 12, 13], [8, 44]) | _ => ([], []), fun _ => []⟩
noncomputable def code : Code := (f106).body.getD .skip
noncomputable def fin := finK ctx sig [.tmp 4]
noncomputable def F (d : SF × Int × Unit) : OI := anyK (runFn cfg fin code (initSt sig.ps d 26))
variable (k : Nat) (i7 i8 i9 : Int) (x10 : LL) (i11 : Int) (x12 : LI) (x13 : LM) (x14 : LI)
noncomputable def l3 : OI := Go.Vm.runT cfg fin k [.inLoop (sub [1, 1, 0, 1, 0, 0] code), .inBlock 0, .code (sub [1, 1, 1] code)] ⟨[.dead, .dead, .ref 8 (.root 0), .dead, .dead, vI i7, .dead, .dead, .dead, .dead, .dead, .view 44 (.root 0) 1 false, vI i8, vI i9] ++ deads 12, [(8, ⟨true, [cQ x10, cI i11, cL x12, ⟨(.sl TMatrix), .sh, x13⟩]⟩), (44, ⟨false, [dL x14]⟩)]⟩
theorem l3_eq : l3 (k + 1) i7 i8 i9 x10 i11 x12 x13 x14 = if (decide (i9 < i8)) = true then if 0 ≤ i9 ∧ i9 < (x14.length : Int) then if 0 ≤ (x14.getD i9.toNat 0 : Int) ∧ (x14.getD i9.toNat 0 : Int) < (x12.length : Int) then l3 k (IntKind.i64.wrap (i7 + (x12.getD (x14.getD i9.toNat 0 : Int).toNat 0))) i8 (IntKind.i64.wrap (i9 + (1 : Int))) x10 i11 x12 x13 x14 else none else none else some ((i7, ()), ()) := by kernel_rfl
variable (s_1 : LL) (s_2 : Int) (s_3 : LI) (s_4 : LM) (k_5 : Int)
noncomputable def T : OI := (impl_simplicesOf.F (s_1, k_5, ())).bind fun r6 => l3 k (0 : Int) (r6.1.1.length : Int) (0 : Int) s_1 s_2 s_3 s_4 r6.1.1
theorem of {r : (Int × Unit) × (Unit)} (h : Ev (fun k => T k s_1 s_2 s_3 s_4 k_5) r) : F ((s_1, (s_2, (s_3, s_4))), k_5, ()) = some r := Ev.run (fun k => by kernel_rfl) h
theorem ok : CtxOK prog ctx := ⟨nilM, mixed_ok, tab_ok tab_good, consM ⟨impl_simplicesOf.S, nilM⟩, nilM, nilM⟩
theorem S : Sound prog ⟨106, sig, F⟩ := sound_k (res := [.tmp 4]) func106 ok
end impl_stalkSum
namespace impl_areStalks_1
noncomputable def sig : Sig := ⟨[.val false tI], [(.val false, .bool, .deep)]⟩
noncomputable def ctx : Ctx := ⟨tabOf tabl, [⟨189, impl_within.sig, impl_within.F⟩], [], [], [], []⟩
noncomputable def cfg : Cfg := ⟨ctx, [], [], fun _ => ([], []), fun _ => []⟩
noncomputable def code : Code := (f190).body.getD .skip
noncomputable def fin := finK ctx sig [.tmp 2]
noncomputable def F (d : Int × Unit) : OB := anyK (runFn cfg fin code (initSt sig.ps d 6))
variable (n_1 : Int)
noncomputable def T : OB := (impl_within.F (n_1, (0 : Int), (3 : Int), ())).bind fun r2 => some ((!(r2.1.1 : Bool), ()), ())
theorem eq : F (n_1, ()) = T n_1 := eq_any fun k => by kernel_rfl
theorem ok : CtxOK prog ctx := ⟨nilM, mixed_ok, tab_ok tab_good, consM ⟨impl_within.S, nilM⟩, nilM, nilM⟩
theorem S : Sound prog ⟨190, sig, F⟩ := sound_k (res := [.tmp 2]) func190 ok
noncomputable def cloG (y : Unit) (d : Int × Unit) : Option (Bool × Unit) := (F (joinIns [] [(false, tI)] d y)).map (·.1)
noncomputable def clo : Clo := ⟨190, ⟨[(false, tI)], [(.val false, .bool, .deep)]⟩, [], cloG⟩
theorem cloS : SoundClo prog clo := sound_clo (s := ⟨[(false, tI)], [(.val false, .bool, .deep)]⟩) (caps := []) rfl S
end impl_areStalks_1
namespace impl_areStalks
noncomputable def sig : Sig := ⟨[.val true tQ, .val false tL], [(.val false, .bool, .deep)]⟩
noncomputable def ctx : Ctx := ⟨tabOf tabl, [⟨93, slices_ContainsFunc_Lint64_int64.sig, slices_ContainsFunc_Lint64_int64.F⟩, ⟨106, impl_stalkSum.sig, impl_stalkSum.F⟩], [impl_areStalks_1.clo], [], [], []⟩
noncomputable def cfg : Cfg := ⟨ctx, [], [], fun id => match id with | 4 => ([1, 2, 16], [8]) | _ => ([], []), fun _ => []⟩
noncomputable def code : Code := (f159).body.getD .skip
noncomputable def fin := finK ctx sig [.tmp 4]
noncomputable def F (d : LL × LI × Unit) : OB := anyK (runFn cfg fin code (initSt sig.ps d 26))
variable (k : Nat) (x4 : LI) (i5 : Int) (x6 : LL)
noncomputable def l4 : OB := Go.Vm.runT cfg fin k [.inLoop (sub [1, 1, 0, 1, 0, 0] code), .inBlock 0, .code (sub [1, 1, 1] code)] ⟨[.dead, vL x4, .ref 8 (.root 0), .dead, .dead, .dead, .dead, .dead, .dead, .dead, .dead, .dead, .dead, .dead, .dead, .dead, vI i5] ++ deads 9, [(8, ⟨true, [cQ x6]⟩)]⟩
theorem l4_eq : l4 (k + 1) x4 i5 x6 = if (decide (i5 < (4 : Int))) = true then (impl_stalkSum.F ((x6, (0, (x4, []))), i5, ())).bind fun r7 => if (decide ((r7.1.1 : Int) > (32 : Int))) = true then some ((false, ()), ()) else l4 k x4 (IntKind.i64.wrap (i5 + (1 : Int))) x6 else some ((true, ()), ()) := by kernel_rfl
variable (c_1 : LL) (stalks_2 : LI)
noncomputable def T : OB := if ((stalks_2.length : Int) != (c_1.length : Int)) = true then some ((false, ()), ()) else (slices_ContainsFunc_Lint64_int64.F (stalks_2, impl_areStalks_1.cloG (()), ())).bind fun r3 => if (r3.1.1 : Bool) = true then some ((false, ()), ()) else l4 k stalks_2 (0 : Int) c_1
theorem of {r : (Bool × Unit) × (Unit)} (h : Ev (fun k => T k c_1 stalks_2) r) : F (c_1, stalks_2, ()) = some r := Ev.run (fun k => by kernel_rfl) h
theorem ok : CtxOK prog ctx := ⟨nilM, mixed_ok, tab_ok tab_good, consM ⟨slices_ContainsFunc_Lint64_int64.S, consM ⟨impl_stalkSum.S, nilM⟩⟩, consM ⟨impl_areStalks_1.cloS, nilM⟩, nilM⟩
theorem S : Sound prog ⟨159, sig, F⟩ := sound_k (res := [.tmp 4]) func159 ok
end impl_areStalks
namespace impl_faceIndices
noncomputable def sig : Sig := ⟨[.val true tQ, .val false tI], [(.val false, tL, .deep)]⟩
noncomputable def ctx : Ctx := ⟨tabOf tabl, [⟨57, impl_indexOf.sig, impl_indexOf.F⟩, ⟨132, impl_facesOf.sig, impl_facesOf.F⟩], [], [], [], []⟩
noncomputable def cfg : Cfg := ⟨ctx, [], [], fun id => match id with | 3 => ([2, 5, 13, 14, 15], [8, 20, 52]) | _ => ([], []), fun _ => []⟩
noncomputable def code : Code := (f107).body.getD .skip
noncomputable def fin := finK ctx sig [.tmp 4]
noncomputable def F (d : LL × Int × Unit) : OL := anyK (runFn cfg fin code (initSt sig.ps d 27))
variable (k : Nat) (i4 i5 : Int) (x6 : LL) (x7 : LI) (x8 : LL)
noncomputable def l3 : OL := Go.Vm.runT cfg fin k [.inLoop (sub [1, 1, 0, 1, 0, 0] code), .inBlock 0, .code (sub [1, 1, 1] code)] ⟨[.dead, .dead, .ref 8 (.root 0), .dead, .dead, .view 20 (.root 0) 1 false, .dead, .dead, .dead, .dead, .dead, .dead, .dead, .view 52 (.root 0) 1 false, vI i4, vI i5] ++ deads 11, [(8, ⟨true, [cQ x6]⟩), (20, ⟨false, [dL x7]⟩), (52, ⟨false, [dQ x8]⟩)]⟩
theorem l3_eq : l3 (k + 1) i4 i5 x6 x7 x8 = if (decide (i5 < i4)) = true then if 0 ≤ i5 ∧ i5 < (x8.length : Int) then (impl_indexOf.F (x6, x8.getD i5.toNat ([] : LI), ())).bind fun r9 => if x7.length + ([(r9.1.1 : Int)] : LI).length ≤ bigA then l3 k i4 (IntKind.i64.wrap (i5 + (1 : Int))) x6 (x7 ++ ([(r9.1.1 : Int)])) x8 else none else none else some ((x7, ()), ()) := by kernel_rfl
variable (c_1 : LL) (k_2 : Int)
noncomputable def T : OL := if 0 ≤ k_2 ∧ k_2 < (c_1.length : Int) then (impl_facesOf.F (c_1.getD k_2.toNat ([] : LI), ())).bind fun r3 => l3 k (r3.1.1.length : Int) (0 : Int) c_1 ([]) r3.1.1 else none
theorem of {r : (LI × Unit) × (Unit)} (h : Ev (fun k => T k c_1 k_2) r) : F (c_1, k_2, ()) = some r := Ev.run (fun k => by kernel_rfl) h
theorem ok : CtxOK prog ctx := ⟨nilM, mixed_ok, tab_ok tab_good, consM ⟨impl_indexOf.S, consM ⟨impl_facesOf.S, nilM⟩⟩, nilM, nilM⟩
theorem S : Sound prog ⟨107, sig, F⟩ := sound_k (res := [.tmp 4]) func107 ok
end impl_faceIndices
namespace impl_size_Lint64
noncomputable def sig : Sig := ⟨[.val false tQ], [(.val false, tI, .deep)]⟩
noncomputable def ctx : Ctx := ⟨tabOf tabl, [], [], [], [], []⟩
noncomputable def cfg : Cfg := ⟨ctx, [], [], fun _ => ([], []), fun _ => []⟩
noncomputable def code : Code := (f191).body.getD .skip
noncomputable def fin := finK ctx sig [.tmp 2]
noncomputable def F (d : LL × Unit) : OI := anyK (runFn cfg fin code (initSt sig.ps d 5))
variable (list_1 : LL)
noncomputable def T : OI := some (((list_1.length : Int), ()), ())
theorem eq : F (list_1, ()) = T list_1 := eq_any fun k => by kernel_rfl
theorem ok : CtxOK prog ctx := ⟨nilM, mixed_ok, tab_ok tab_good, nilM, nilM, nilM⟩
theorem S : Sound prog ⟨191, sig, F⟩ := sound_k (res := [.tmp 2]) func191 ok
end impl_size_Lint64
namespace impl_arrows
noncomputable def sig : Sig := ⟨[.val true tQ], [(.val false, (.sl TEdge), .deep)]⟩
noncomputable def ctx : Ctx := ⟨tabOf tabl, [⟨107, impl_faceIndices.sig, impl_faceIndices.F⟩, ⟨191, impl_size_Lint64.sig, impl_size_Lint64.F⟩], [], [], [], []⟩
noncomputable def cfg : Cfg := ⟨ctx, [], [], fun id => match id with | 3 => ([1, 3, 9, 10], [4, 12]) | 6 => ([1, 3, 4, 9, 10, 15, 16, 17], [4, 12, 60]) | _ => ([], []), fun _ => []⟩
noncomputable def code : Code := (f160).body.getD .skip
noncomputable def fin := finK ctx sig [.tmp 2]
noncomputable def F (d : LL × Unit) : Option ((List (Int × Int × Int) × Unit) × (Unit)) := anyK (runFn cfg fin code (initSt sig.ps d 32))
variable (k : Nat) (i3 i4 : Int) (x5 : LL) (x6 : List (Int × Int × Int))
noncomputable def l3 : Option ((List (Int × Int × Int) × Unit) × (Unit)) := Go.Vm.runT cfg fin k [.inLoop (sub [1, 1, 0, 1, 0, 0] code), .inBlock 0, .code (sub [1, 1, 1] code)] ⟨[.dead, .ref 4 (.root 0), .dead, .view 12 (.root 0) 1 false, .dead, .dead, .dead, .dead, .dead, vI i3, vI i4] ++ deads 21, [(4, ⟨true, [cQ x5]⟩), (12, ⟨false, [⟨(.sl TEdge), .deep, x6⟩]⟩)]⟩
variable (i8 i9 i10 i11 i12 : Int) (x13 : LL) (x14 : List (Int × Int × Int)) (x15 : LI)
noncomputable def l6 : Option ((List (Int × Int × Int) × Unit) × (Unit)) := Go.Vm.runT cfg fin k [.inLoop (sub [1, 1, 0, 1, 0, 0, 1, 1, 0, 0, 1, 1, 0, 0] code), .inBlock 2, .inBlock 1, .code (sub [1, 1, 0, 1, 0, 0, 1, 1, 1] code), .inLoop (sub [1, 1, 0, 1, 0, 0] code), .inBlock 0, .code (sub [1, 1, 1] code)] ⟨[.dead, .ref 4 (.root 0), .dead, .view 12 (.root 0) 1 false, vI i8, .dead, .dead, .dead, .dead, vI i9, vI i10, .dead, .dead, .dead, .dead, .view 60 (.root 0) 1 false, vI i11, vI i12] ++ deads 14, [(4, ⟨true, [cQ x13]⟩), (12, ⟨false, [⟨(.sl TEdge), .deep, x14⟩]⟩), (60, ⟨false, [dL x15]⟩)]⟩
theorem l3_eq : l3 (k + 1) i3 i4 x5 x6 = if (decide (i4 < i3)) = true then (impl_faceIndices.F (x5, i4, ())).bind fun r7 => l6 k i4 i3 i4 (r7.1.1.length : Int) (0 : Int) x5 x6 r7.1.1 else some ((x6, ()), ()) := by kernel_rfl
theorem l6_eq : l6 (k + 1) i8 i9 i10 i11 i12 x13 x14 x15 = if (decide (i12 < i11)) = true then if 0 ≤ i12 ∧ i12 < (x15.length : Int) then if x14.length + ([(i8, (i12, (x15.getD i12.toNat 0 : Int)))] : List (Int × Int × Int)).length ≤ bigA then l6 k i8 i9 i10 i11 (IntKind.i64.wrap (i12 + (1 : Int))) x13 (x14 ++ ([(i8, (i12, (x15.getD i12.toNat 0 : Int)))])) x15 else none else none else l3 k i9 (IntKind.i64.wrap (i10 + (1 : Int))) x13 x14 := by kernel_rfl
variable (c_1 : LL)
noncomputable def T : Option ((List (Int × Int × Int) × Unit) × (Unit)) := (impl_size_Lint64.F (c_1, ())).bind fun r2 => l3 k (r2.1.1 : Int) (0 : Int) c_1 ([])
theorem of {r : (List (Int × Int × Int) × Unit) × (Unit)} (h : Ev (fun k => T k c_1) r) : F (c_1, ()) = some r := Ev.run (fun k => by kernel_rfl) h
theorem ok : CtxOK prog ctx := ⟨nilM, mixed_ok, tab_ok tab_good, consM ⟨impl_faceIndices.S, consM ⟨impl_size_Lint64.S, nilM⟩⟩, nilM, nilM⟩
theorem S : Sound prog ⟨160, sig, F⟩ := sound_k (res := [.tmp 2]) func160 ok
end impl_arrows
namespace impl_isElement
noncomputable def sig : Sig := ⟨[.val false tI, .val false tI], [(.val false, .bool, .deep)]⟩
noncomputable def ctx : Ctx := ⟨tabOf tabl, [⟨189, impl_within.sig, impl_within.F⟩], [], [], [], []⟩
noncomputable def cfg : Cfg := ⟨ctx, [], [], fun _ => ([], []), fun _ => []⟩
noncomputable def code : Code := (f206).body.getD .skip
noncomputable def fin := finK ctx sig [.tmp 4]
noncomputable def F (d : Int × Int × Unit) : OB := anyK (runFn cfg fin code (initSt sig.ps d 9))
variable (a_1 p_2 : Int)
noncomputable def T : OB := (impl_within.F (a_1, (0 : Int), IntKind.i64.wrap (p_2 - (1 : Int)), ())).bind fun r3 => some (((r3.1.1 : Bool), ()), ())
theorem eq : F (a_1, p_2, ()) = T a_1 p_2 := eq_any fun k => by kernel_rfl
theorem ok : CtxOK prog ctx := ⟨nilM, mixed_ok, tab_ok tab_good, consM ⟨impl_within.S, nilM⟩, nilM, nilM⟩
theorem S : Sound prog ⟨206, sig, F⟩ := sound_k (res := [.tmp 4]) func206 ok
end impl_isElement
namespace impl_areElements_1
noncomputable def sig : Sig := ⟨[.val false tI, .rptr tI], [(.val false, .bool, .deep)]⟩
noncomputable def ctx : Ctx := ⟨tabOf tabl, [⟨206, impl_isElement.sig, impl_isElement.F⟩], [], [], [], []⟩
noncomputable def cfg : Cfg := ⟨ctx, [], [], fun _ => ([], []), fun _ => []⟩
noncomputable def code : Code := (f205).body.getD .skip
noncomputable def fin := finK ctx sig [.tmp 3]
noncomputable def F (d : Int × Int × Unit) : OB := anyK (runFn cfg fin code (initSt sig.ps d 8))
variable (a_1 a_2 : Int)
noncomputable def T : OB := (impl_isElement.F (a_1, a_2, ())).bind fun r3 => some ((!(r3.1.1 : Bool), ()), ())
theorem eq : F (a_1, a_2, ()) = T a_1 a_2 := eq_any fun k => by kernel_rfl
theorem ok : CtxOK prog ctx := ⟨nilM, mixed_ok, tab_ok tab_good, consM ⟨impl_isElement.S, nilM⟩, nilM, nilM⟩
theorem S : Sound prog ⟨205, sig, F⟩ := sound_k (res := [.tmp 3]) func205 ok
noncomputable def cloG (y d : Int × Unit) : Option (Bool × Unit) := (F (joinIns [.rptr tI] [(false, tI)] d y)).map (·.1)
noncomputable def clo : Clo := ⟨205, ⟨[(false, tI)], [(.val false, .bool, .deep)]⟩, [.rptr tI], cloG⟩
theorem cloS : SoundClo prog clo := sound_clo (s := ⟨[(false, tI)], [(.val false, .bool, .deep)]⟩) (caps := [.rptr tI]) rfl S
end impl_areElements_1
namespace impl_areElements
noncomputable def sig : Sig := ⟨[.val false tL, .val false tI], [(.val false, .bool, .deep)]⟩
noncomputable def ctx : Ctx := ⟨tabOf tabl, [⟨93, slices_ContainsFunc_Lint64_int64.sig, slices_ContainsFunc_Lint64_int64.F⟩], [impl_areElements_1.clo], [], [], []⟩
noncomputable def cfg : Cfg := ⟨ctx, [], [], fun _ => ([], []), fun _ => []⟩
noncomputable def code : Code := (f182).body.getD .skip
noncomputable def fin := finK ctx sig [.tmp 4]
noncomputable def F (d : LI × Int × Unit) : OB := anyK (runFn cfg fin code (initSt sig.ps d 9))
variable (list_1 : LI) (p_2 : Int)
noncomputable def T : OB := (slices_ContainsFunc_Lint64_int64.F (list_1, impl_areElements_1.cloG (p_2, ()), ())).bind fun r3 => some ((!(r3.1.1 : Bool), ()), ())
theorem eq : F (list_1, p_2, ()) = T list_1 p_2 := eq_any fun k => by kernel_rfl
theorem ok : CtxOK prog ctx := ⟨nilM, mixed_ok, tab_ok tab_good, consM ⟨slices_ContainsFunc_Lint64_int64.S, nilM⟩, consM ⟨impl_areElements_1.cloS, nilM⟩, nilM⟩
theorem S : Sound prog ⟨182, sig, F⟩ := sound_k (res := [.tmp 4]) func182 ok
end impl_areElements
namespace impl_isSide
noncomputable def sig : Sig := ⟨[.val false tI], [(.val false, .bool, .deep)]⟩
noncomputable def ctx : Ctx := ⟨tabOf tabl, [⟨189, impl_within.sig, impl_within.F⟩], [], [], [], []⟩
noncomputable def cfg : Cfg := ⟨ctx, [], [], fun _ => ([], []), fun _ => []⟩
noncomputable def code : Code := (f209).body.getD .skip
noncomputable def fin := finK ctx sig [.tmp 2]
noncomputable def F (d : Int × Unit) : OB := anyK (runFn cfg fin code (initSt sig.ps d 5))
variable (n_1 : Int)
noncomputable def T : OB := (impl_within.F (n_1, (0 : Int), (32 : Int), ())).bind fun r2 => some (((r2.1.1 : Bool), ()), ())
theorem eq : F (n_1, ()) = T n_1 := eq_any fun k => by kernel_rfl
theorem ok : CtxOK prog ctx := ⟨nilM, mixed_ok, tab_ok tab_good, consM ⟨impl_within.S, nilM⟩, nilM, nilM⟩
theorem S : Sound prog ⟨209, sig, F⟩ := sound_k (res := [.tmp 2]) func209 ok
end impl_isSide
namespace impl_ValidMatrix
noncomputable def sig : Sig := ⟨[.val true TMatrix], [(.val false, .bool, .deep)]⟩
noncomputable def ctx : Ctx := ⟨tabOf tabl, [⟨111, impl_size_int64.sig, impl_size_int64.F⟩, ⟨158, impl_ValidPrime.sig, impl_ValidPrime.F⟩, ⟨182, impl_areElements.sig, impl_areElements.F⟩, ⟨209, impl_isSide.sig, impl_isSide.F⟩], [], [], [], []⟩
noncomputable def cfg : Cfg := ⟨ctx, [], [], fun _ => ([], []), fun _ => []⟩
noncomputable def code : Code := (f192).body.getD .skip
noncomputable def fin := finK ctx sig [.tmp 2]
noncomputable def F (d : MX × Unit) : OB := anyK (runFn cfg fin code (initSt sig.ps d 34))
variable (m_1 m_2 m_3 : Int) (m_4 : LI)
noncomputable def T : OB := (impl_ValidPrime.F (m_1, ())).bind fun r5 => if (r5.1.1 : Bool) = true then (impl_isSide.F (m_2, ())).bind fun r6 => if (r6.1.1 : Bool) = true then (impl_isSide.F (m_3, ())).bind fun r7 => if (r7.1.1 : Bool) = true then (impl_size_int64.F (m_4, ())).bind fun r8 => if ((r8.1.1 : Int) == (IntKind.i64.wrap (m_2 * m_3))) = true then (impl_areElements.F (m_4, m_1, ())).bind fun r9 => some (((r9.1.1 : Bool), ()), ()) else some ((false, ()), ()) else some ((false, ()), ()) else some ((false, ()), ()) else some ((false, ()), ())
theorem eq : F ((m_1, (m_2, (m_3, m_4))), ()) = T m_1 m_2 m_3 m_4 := eq_any fun k => by kernel_rfl
theorem ok : CtxOK prog ctx := ⟨nilM, mixed_ok, tab_ok tab_good, consM ⟨impl_size_int64.S, consM ⟨impl_ValidPrime.S, consM ⟨impl_areElements.S, consM ⟨impl_isSide.S, nilM⟩⟩⟩⟩, nilM, nilM⟩
theorem S : Sound prog ⟨192, sig, F⟩ := sound_k (res := [.tmp 2]) func192 ok
end impl_ValidMatrix
namespace impl_isBetween
noncomputable def sig : Sig := ⟨[.val true TMatrix, .val false tI, .val false tI, .val false tI], [(.val false, .bool, .deep)]⟩
noncomputable def ctx : Ctx := ⟨tabOf tabl, [⟨192, impl_ValidMatrix.sig, impl_ValidMatrix.F⟩], [], [], [], []⟩
noncomputable def cfg : Cfg := ⟨ctx, [], [], fun _ => ([], []), fun _ => []⟩
noncomputable def code : Code := (f161).body.getD .skip
noncomputable def fin := finK ctx sig [.tmp 8]
noncomputable def F (d : MX × Int × Int × Int × Unit) : OB := anyK (runFn cfg fin code (initSt sig.ps d 29))
variable (m_1 m_2 m_3 : Int) (m_4 : LI) (p_5 from_6 to_7 : Int)
noncomputable def T : OB := (impl_ValidMatrix.F ((m_1, (m_2, (m_3, m_4))), ())).bind fun r8 => if (r8.1.1 : Bool) = true then if (m_1 == p_5) = true then if (m_2 == to_7) = true then some ((m_3 == from_6, ()), ()) else some ((false, ()), ()) else some ((false, ()), ()) else some ((false, ()), ())
theorem eq : F ((m_1, (m_2, (m_3, m_4))), p_5, from_6, to_7, ()) = T m_1 m_2 m_3 m_4 p_5 from_6 to_7 := eq_any fun k => by kernel_rfl
theorem ok : CtxOK prog ctx := ⟨nilM, mixed_ok, tab_ok tab_good, consM ⟨impl_ValidMatrix.S, nilM⟩, nilM, nilM⟩
theorem S : Sound prog ⟨161, sig, F⟩ := sound_k (res := [.tmp 8]) func161 ok
end impl_isBetween
namespace impl_ValidSheaf
noncomputable def sig : Sig := ⟨[.val true TSheaf], [(.val false, .bool, .deep)]⟩
noncomputable def ctx : Ctx := ⟨tabOf tabl, [⟨80, impl_ValidComplex.sig, impl_ValidComplex.F⟩, ⟨158, impl_ValidPrime.sig, impl_ValidPrime.F⟩, ⟨159, impl_areStalks.sig, impl_areStalks.F⟩, ⟨160, impl_arrows.sig, impl_arrows.F⟩, ⟨161, impl_isBetween.sig, impl_isBetween.F⟩], [], [], [], []⟩
noncomputable def cfg : Cfg := ⟨ctx, [], [], fun id => match id with | 5 => ([1, 3, 27, 28, 29], [4, 12]) | _ => ([], []), fun _ => []⟩
noncomputable def code : Code := (f128).body.getD .skip
noncomputable def fin := finK ctx sig [.tmp 2]
noncomputable def F (d : SF × Unit) : OB := anyK (runFn cfg fin code (initSt sig.ps d 69))
variable (k : Nat) (i9 i10 : Int) (x11 : LL) (i12 : Int) (x13 : LI) (x14 : LM) (x15 : List (Int × Int × Int))
noncomputable def l5 : OB := Go.Vm.runT cfg fin k [.inLoop (sub [1, 1, 1, 0, 1, 0, 0] code), .inBlock 0, .code (sub [1, 1, 1, 1] code)] ⟨[.dead, .ref 4 (.root 0), .dead, .view 12 (.root 0) 1 false, .dead, .dead, .dead, .dead, .dead, .dead, .dead, .dead, .dead, .dead, .dead, .dead, .dead, .dead, .dead, .dead, .dead, .dead, .dead, .dead, .dead, .dead, .dead, .view 12 (.root 0) 1 false, vI i9, vI i10] ++ deads 39, [(4, ⟨true, [cQ x11, cI i12, cL x13, ⟨(.sl TMatrix), .sh, x14⟩]⟩), (12, ⟨false, [⟨(.sl TEdge), .deep, x15⟩]⟩)]⟩
theorem l5_eq : l5 (k + 1) i9 i10 x11 i12 x13 x14 x15 = if (decide (i10 < i9)) = true then if 0 ≤ i10 ∧ i10 < (x15.length : Int) then if (decide (i10 ≥ (x14.length : Int))) = true then some ((false, ()), ()) else if 0 ≤ i10 ∧ i10 < (x14.length : Int) then if 0 ≤ (((x15.getD i10.toNat (0, 0, 0)).2).2 : Int) ∧ (((x15.getD i10.toNat (0, 0, 0)).2).2 : Int) < (x13.length : Int) then if 0 ≤ ((x15.getD i10.toNat (0, 0, 0)).1 : Int) ∧ ((x15.getD i10.toNat (0, 0, 0)).1 : Int) < (x13.length : Int) then (impl_isBetween.F (x14.getD i10.toNat (0, 0, 0, ([] : LI)), i12, x13.getD (((x15.getD i10.toNat (0, 0, 0)).2).2 : Int).toNat 0, x13.getD ((x15.getD i10.toNat (0, 0, 0)).1 : Int).toNat 0, ())).bind fun r16 => if (!(r16.1.1 : Bool)) = true then some ((false, ()), ()) else l5 k i9 (IntKind.i64.wrap (i10 + (1 : Int))) x11 i12 x13 x14 x15 else none else none else none else none else some (((x15.length : Int) == (x14.length : Int), ()), ()) := by kernel_rfl
variable (toArray_1 : LL) (toArray_2 : Int) (toArray_3 : LI) (toArray_4 : LM)
noncomputable def T : OB := (impl_ValidComplex.F (toArray_1, ())).bind fun r5 => if (!(r5.1.1 : Bool)) = true then some ((false, ()), ()) else (impl_ValidPrime.F (toArray_2, ())).bind fun r6 => if (!(r6.1.1 : Bool)) = true then some ((false, ()), ()) else (impl_areStalks.F (toArray_1, toArray_3, ())).bind fun r7 => if (!(r7.1.1 : Bool)) = true then some ((false, ()), ()) else (impl_arrows.F (toArray_1, ())).bind fun r8 => l5 k (r8.1.1.length : Int) (0 : Int) toArray_1 toArray_2 toArray_3 toArray_4 r8.1.1
theorem of {r : (Bool × Unit) × (Unit)} (h : Ev (fun k => T k toArray_1 toArray_2 toArray_3 toArray_4) r) : F ((toArray_1, (toArray_2, (toArray_3, toArray_4))), ()) = some r := Ev.run (fun k => by kernel_rfl) h
theorem ok : CtxOK prog ctx := ⟨nilM, mixed_ok, tab_ok tab_good, consM ⟨impl_ValidComplex.S, consM ⟨impl_ValidPrime.S, consM ⟨impl_areStalks.S, consM ⟨impl_arrows.S, consM ⟨impl_isBetween.S, nilM⟩⟩⟩⟩⟩, nilM, nilM⟩
theorem S : Sound prog ⟨128, sig, F⟩ := sound_k (res := [.tmp 2]) func128 ok
end impl_ValidSheaf
namespace impl_firstMap
noncomputable def sig : Sig := ⟨[.val true TSheaf, .val false tI], [(.val false, tI, .deep)]⟩
noncomputable def ctx : Ctx := ⟨tabOf tabl, [⟨111, impl_size_int64.sig, impl_size_int64.F⟩], [], [], [], []⟩
noncomputable def cfg : Cfg := ⟨ctx, [], [], fun id => match id with | 3 => ([5, 12, 13, 14], []) | _ => ([], []), fun _ => []⟩
noncomputable def code : Code := (f154).body.getD .skip
noncomputable def fin := finK ctx sig [.tmp 4]
noncomputable def F (d : SF × Int × Unit) : OI := anyK (runFn cfg fin code (initSt sig.ps d 27))
variable (k : Nat) (i6 : Int) (x7 : LL) (i8 i9 : Int)
noncomputable def l3 : OI := Go.Vm.runT cfg fin k [.inLoop (sub [1, 1, 0, 1, 0, 0] code), .inBlock 0, .code (sub [1, 1, 1] code)] ⟨[.dead, .dead, .dead, .dead, .dead, vI i6, .dead, .dead, .dead, .dead, .dead, .dead, vQ x7, vI i8, vI i9] ++ deads 12, []⟩
theorem l3_eq : l3 (k + 1) i6 x7 i8 i9 = if (decide (i9 < i8)) = true then if 0 ≤ i9 ∧ i9 < (x7.length : Int) then if (decide (((x7.getD i9.toNat ([] : LI)).length : Int) > (1 : Int))) = true then (impl_size_int64.F (x7.getD i9.toNat ([] : LI), ())).bind fun r10 => l3 k (IntKind.i64.wrap (i6 + (r10.1.1 : Int))) x7 i8 (IntKind.i64.wrap (i9 + (1 : Int))) else l3 k i6 x7 i8 (IntKind.i64.wrap (i9 + (1 : Int))) else none else some ((i6, ()), ()) := by kernel_rfl
noncomputable def T (k : Nat) (s_1 : LL) (s_2 : Int) (s_3 : LI) (s_4 : LM) (simplex_5 : Int) : OI := if 0 ≤ (0 : Int) ∧ (0 : Int) ≤ simplex_5 ∧ simplex_5 ≤ (s_1.length : Int) then l3 k (0 : Int) (cutL s_1 (0 : Int) simplex_5) ((cutL s_1 (0 : Int) simplex_5).length : Int) (0 : Int) else none
theorem of (s_1 : LL) (s_2 : Int) (s_3 : LI) (s_4 : LM) (simplex_5 : Int) {r : (Int × Unit) × (Unit)} (h : Ev (fun k => T k s_1 s_2 s_3 s_4 simplex_5) r) : F ((s_1, (s_2, (s_3, s_4))), simplex_5, ()) = some r := Ev.run (fun k => by kernel_rfl) h
theorem ok : CtxOK prog ctx := ⟨nilM, mixed_ok, tab_ok tab_good, consM ⟨impl_size_int64.S, nilM⟩, nilM, nilM⟩
theorem S : Sound prog ⟨154, sig, F⟩ := sound_k (res := [.tmp 4]) func154 ok
end impl_firstMap
namespace impl_direct
noncomputable def sig : Sig := ⟨[.val true TSheaf, .val false tI, .val false tI], [(.val true, TMatrix, .sh)]⟩
noncomputable def ctx : Ctx := ⟨tabOf tabl, [⟨154, impl_firstMap.sig, impl_firstMap.F⟩], [], [], [], []⟩
noncomputable def cfg : Cfg := ⟨ctx, [], [], fun _ => ([], []), fun _ => []⟩
noncomputable def code : Code := (f108).body.getD .skip
noncomputable def fin := finK ctx sig [.cell 6 86]
noncomputable def F (d : SF × Int × Int × Unit) : OM := anyK (runFn cfg fin code (initSt sig.ps d 16))
variable (s_1 : LL) (s_2 : Int) (s_3 : LI) (s_4 : LM) (simplex_5 place_6 : Int)
noncomputable def T : OM := (impl_firstMap.F ((s_1, (s_2, (s_3, s_4))), simplex_5, ())).bind fun r7 => if 0 ≤ (IntKind.i64.wrap ((r7.1.1 : Int) + place_6)) ∧ (IntKind.i64.wrap ((r7.1.1 : Int) + place_6)) < (s_4.length : Int) then let y8 : Int := (s_4.getD (IntKind.i64.wrap ((r7.1.1 : Int) + place_6)).toNat (0, 0, 0, ([] : LI))).1; let y9 : Int := ((s_4.getD (IntKind.i64.wrap ((r7.1.1 : Int) + place_6)).toNat (0, 0, 0, ([] : LI))).2).1; let y10 : Int := (((s_4.getD (IntKind.i64.wrap ((r7.1.1 : Int) + place_6)).toNat (0, 0, 0, ([] : LI))).2).2).1; let y11 : LI := (((s_4.getD (IntKind.i64.wrap ((r7.1.1 : Int) + place_6)).toNat (0, 0, 0, ([] : LI))).2).2).2; some (((y8, (y9, (y10, y11))), ()), ()) else none
theorem eq : F ((s_1, (s_2, (s_3, s_4))), simplex_5, place_6, ()) = T s_1 s_2 s_3 s_4 simplex_5 place_6 := eq_any fun k => by kernel_rfl
theorem ok : CtxOK prog ctx := ⟨nilM, mixed_ok, tab_ok tab_good, consM ⟨impl_firstMap.S, nilM⟩, nilM, nilM⟩
theorem S : Sound prog ⟨108, sig, F⟩ := sound_k (res := [.cell 6 86]) func108 ok
end impl_direct
namespace impl_filled
noncomputable def sig : Sig := ⟨[.val false tI, .val false tI, .val false tI, .fnx ⟨[(false, tI), (false, tI)], [(.val false, tI, .deep)]⟩], [(.val true, TMatrix, .deep)]⟩
noncomputable def ctx : Ctx := ⟨tabOf tabl, [], [], [], [], []⟩
noncomputable def cfg : Cfg := ⟨ctx, [], [], fun id => match id with | 3 => ([2, 3, 8, 9, 16, 17], [32, 36]) | 6 => ([2, 3, 8, 9, 10, 16, 17, 20, 21], [32, 36]) | _ => ([], []), fun _ => []⟩
noncomputable def code : Code := (f152).body.getD .skip
noncomputable def fin := finK ctx sig [.cell 8 86]
noncomputable def F (d : Int × Int × Int × ((Int × Int × Unit) → Option (Int × Unit)) × Unit) : OM := anyK (runFn cfg fin code (initSt sig.ps d 36))
variable (k : Nat) (i5 : Int) (f6 : (Int × Int × Unit) → Option (Int × Unit)) (i7 i8 i9 i10 i11 : Int) (x12 : LI) (i13 i14 i15 : Int) (x16 : LI)
noncomputable def l3 : OM := Go.Vm.runT cfg fin k [.inLoop (sub [1, 1, 0, 1, 0, 0] code), .inBlock 0, .code (sub [1, 1, 1] code)] ⟨[.dead, .dead, vI i5, .fnx ⟨[(false, tI), (false, tI)], [(.val false, tI, .deep)]⟩ f6, .dead, .dead, .dead, .dead, .ref 32 (.root 0), .ref 36 (.root 0), .dead, .dead, .dead, .dead, .dead, .dead, vI i7, vI i8] ++ deads 18, [(32, ⟨true, [cI i9, cI i10, cI i11, dL x12]⟩), (36, ⟨true, [cI i13, cI i14, cI i15, dL x16]⟩)]⟩
variable (i17 : Int) (f18 : (Int × Int × Unit) → Option (Int × Unit)) (i19 i20 i21 i22 i23 i24 i25 i26 : Int) (x27 : LI) (i28 i29 i30 : Int) (x31 : LI)
noncomputable def l6 : OM := Go.Vm.runT cfg fin k [.inLoop (sub [1, 1, 0, 1, 0, 0, 1, 1, 0, 0, 1, 1, 0, 0] code), .inBlock 2, .inBlock 1, .code (sub [1, 1, 0, 1, 0, 0, 1, 1, 1] code), .inLoop (sub [1, 1, 0, 1, 0, 0] code), .inBlock 0, .code (sub [1, 1, 1] code)] ⟨[.dead, .dead, vI i17, .fnx ⟨[(false, tI), (false, tI)], [(.val false, tI, .deep)]⟩ f18, .dead, .dead, .dead, .dead, .ref 32 (.root 0), .ref 36 (.root 0), vI i19, .dead, .dead, .dead, .dead, .dead, vI i20, vI i21, .dead, .dead, vI i22, vI i23] ++ deads 14, [(32, ⟨true, [cI i24, cI i25, cI i26, dL x27]⟩), (36, ⟨true, [cI i28, cI i29, cI i30, dL x31]⟩)]⟩
theorem l3_eq : l3 (k + 1) i5 f6 i7 i8 i9 i10 i11 x12 i13 i14 i15 x16 = if (decide (i8 < i7)) = true then l6 k i5 f6 i8 i7 i8 i5 (0 : Int) i9 i10 i11 x12 i13 i14 i15 x16 else some (((i13, (i14, (i15, x16))), ()), ()) := by kernel_rfl
theorem l6_eq : l6 (k + 1) i17 f18 i19 i20 i21 i22 i23 i24 i25 i26 x27 i28 i29 i30 x31 = if (decide (i23 < i22)) = true then (f18 (i19, i23, ())).bind fun r32 => if x31.length + ([(r32.1 : Int)] : LI).length ≤ bigA then l6 k i17 f18 i19 i20 i21 i22 (IntKind.i64.wrap (i23 + (1 : Int))) i24 i25 i26 x27 i28 i29 i30 (x31 ++ ([(r32.1 : Int)])) else none else l3 k i17 f18 i20 (IntKind.i64.wrap (i21 + (1 : Int))) i24 i25 i26 x27 i28 i29 i30 x31 := by kernel_rfl
variable (p_1 rows_2 columns_3 : Int) (f_4 : (Int × Int × Unit) → Option (Int × Unit))
noncomputable def T : OM := l3 k columns_3 f_4 rows_2 (0 : Int) 0 0 0 ([]) p_1 rows_2 columns_3 ([])
theorem of {r : (MX × Unit) × (Unit)} (h : Ev (fun k => T k p_1 rows_2 columns_3 f_4) r) : F (p_1, rows_2, columns_3, f_4, ()) = some r := Ev.run (fun k => by kernel_rfl) h
theorem ok : CtxOK prog ctx := ⟨nilM, mixed_ok, tab_ok tab_good, nilM, nilM, nilM⟩
theorem S : Sound prog ⟨152, sig, F⟩ := sound_k (res := [.cell 8 86]) func152 ok
end impl_filled
namespace slices_Clone_Lint64_int64
noncomputable def sig : Sig := ⟨[.val false tL], [(.val false, tL, .deep)]⟩
noncomputable def ctx : Ctx := ⟨tabOf tabl, [], [], [], [], []⟩
noncomputable def cfg : Cfg := ⟨ctx, [], [], fun _ => ([], []), fun _ => []⟩
noncomputable def code : Code := (f98).body.getD .skip
noncomputable def fin := finK ctx sig [.tmp 2]
noncomputable def F (d : LI × Unit) : OL := anyK (runFn cfg fin code (initSt sig.ps d 8))
variable (s_1 : LI)
noncomputable def T : OL := if 0 < s_1.length then if ([] : LI).length + s_1.length ≤ bigA then some ((([] : LI) ++ s_1, ()), ()) else none else both ( some (([], ()), ()) ) ( if ([] : LI).length + s_1.length ≤ bigA then some ((([] : LI) ++ s_1, ()), ()) else none )
theorem eq : F (s_1, ()) = T s_1 := eq_any fun k => by kernel_rfl
theorem ok : CtxOK prog ctx := ⟨nilM, mixed_ok, tab_ok tab_good, nilM, nilM, nilM⟩
theorem S : Sound prog ⟨98, sig, F⟩ := sound_k (res := [.tmp 2]) func98 ok
end slices_Clone_Lint64_int64
namespace impl_Matrix_row
noncomputable def sig : Sig := ⟨[.val true TMatrix, .val false tI], [(.val false, tL, .sh)]⟩
noncomputable def ctx : Ctx := ⟨tabOf tabl, [], [], [], [], []⟩
noncomputable def cfg : Cfg := ⟨ctx, [], [], fun _ => ([], []), fun _ => []⟩
noncomputable def code : Code := (f104).body.getD .skip
noncomputable def fin := finK ctx sig [.tmp 4]
noncomputable def F (d : MX × Int × Unit) : OL := anyK (runFn cfg fin code (initSt sig.ps d 17))
noncomputable def T (m_1 m_2 m_3 : Int) (m_4 : LI) (i_5 : Int) : OL := if 0 ≤ (IntKind.i64.wrap (i_5 * m_3)) ∧ (IntKind.i64.wrap (i_5 * m_3)) ≤ (IntKind.i64.wrap ((IntKind.i64.wrap (i_5 + (1 : Int))) * m_3)) ∧ (IntKind.i64.wrap ((IntKind.i64.wrap (i_5 + (1 : Int))) * m_3)) ≤ (m_4.length : Int) then some ((cutL m_4 (IntKind.i64.wrap (i_5 * m_3)) (IntKind.i64.wrap ((IntKind.i64.wrap (i_5 + (1 : Int))) * m_3)), ()), ()) else none
theorem eq (m_1 m_2 m_3 : Int) (m_4 : LI) (i_5 : Int) : F ((m_1, (m_2, (m_3, m_4))), i_5, ()) = T m_1 m_2 m_3 m_4 i_5 := eq_any fun k => by kernel_rfl
theorem ok : CtxOK prog ctx := ⟨nilM, mixed_ok, tab_ok tab_good, nilM, nilM, nilM⟩
theorem S : Sound prog ⟨104, sig, F⟩ := sound_k (res := [.tmp 4]) func104 ok
end impl_Matrix_row
namespace impl_rowsOf
noncomputable def sig : Sig := ⟨[.val true TMatrix], [(.val false, tQ, .deep)]⟩
noncomputable def ctx : Ctx := ⟨tabOf tabl, [⟨98, slices_Clone_Lint64_int64.sig, slices_Clone_Lint64_int64.F⟩, ⟨104, impl_Matrix_row.sig, impl_Matrix_row.F⟩], [], [], [], []⟩
noncomputable def cfg : Cfg := ⟨ctx, [], [], fun id => match id with | 3 => ([1, 3, 6, 7], [4, 12]) | _ => ([], []), fun _ => []⟩
noncomputable def code : Code := (f210).body.getD .skip
noncomputable def fin := finK ctx sig [.tmp 2]
noncomputable def F (d : MX × Unit) : OQ := anyK (runFn cfg fin code (initSt sig.ps d 19))
variable (k : Nat) (i5 i6 i7 i8 i9 : Int) (x10 : LI) (x11 : LL)
noncomputable def l3 : OQ := Go.Vm.runT cfg fin k [.inLoop (sub [1, 1, 0, 1, 0, 0] code), .inBlock 0, .code (sub [1, 1, 1] code)] ⟨[.dead, .ref 4 (.root 0), .dead, .view 12 (.root 0) 1 false, .dead, .dead, vI i5, vI i6] ++ deads 11, [(4, ⟨true, [cI i7, cI i8, cI i9, cL x10]⟩), (12, ⟨false, [dQ x11]⟩)]⟩
theorem l3_eq : l3 (k + 1) i5 i6 i7 i8 i9 x10 x11 = if (decide (i6 < i5)) = true then (impl_Matrix_row.F ((i7, (i8, (i9, x10))), i6, ())).bind fun r12 => (slices_Clone_Lint64_int64.F (r12.1.1, ())).bind fun r13 => if x11.length + ([r13.1.1] : LL).length ≤ bigA then l3 k i5 (IntKind.i64.wrap (i6 + (1 : Int))) i7 i8 i9 x10 (x11 ++ ([r13.1.1])) else none else some ((x11, ()), ()) := by kernel_rfl
variable (m_1 m_2 m_3 : Int) (m_4 : LI)
noncomputable def T : OQ := l3 k m_2 (0 : Int) m_1 m_2 m_3 m_4 ([])
theorem of {r : (LL × Unit) × (Unit)} (h : Ev (fun k => T k m_1 m_2 m_3 m_4) r) : F ((m_1, (m_2, (m_3, m_4))), ()) = some r := Ev.run (fun k => by kernel_rfl) h
theorem ok : CtxOK prog ctx := ⟨nilM, mixed_ok, tab_ok tab_good, consM ⟨slices_Clone_Lint64_int64.S, consM ⟨impl_Matrix_row.S, nilM⟩⟩, nilM, nilM⟩
theorem S : Sound prog ⟨210, sig, F⟩ := sound_k (res := [.tmp 2]) func210 ok
end impl_rowsOf
namespace impl_Matrix_at
noncomputable def sig : Sig := ⟨[.val true TMatrix, .val false tI, .val false tI], [(.val false, tI, .deep)]⟩
noncomputable def ctx : Ctx := ⟨tabOf tabl, [], [], [], [], []⟩
noncomputable def cfg : Cfg := ⟨ctx, [], [], fun _ => ([], []), fun _ => []⟩
noncomputable def code : Code := (f109).body.getD .skip
noncomputable def fin := finK ctx sig [.tmp 6]
noncomputable def F (d : MX × Int × Int × Unit) : OI := anyK (runFn cfg fin code (initSt sig.ps d 17))
noncomputable def T (m_1 m_2 m_3 : Int) (m_4 : LI) (i_5 j_6 : Int) : OI := if 0 ≤ (IntKind.i64.wrap ((IntKind.i64.wrap (i_5 * m_3)) + j_6)) ∧ (IntKind.i64.wrap ((IntKind.i64.wrap (i_5 * m_3)) + j_6)) < (m_4.length : Int) then some (((m_4.getD (IntKind.i64.wrap ((IntKind.i64.wrap (i_5 * m_3)) + j_6)).toNat 0 : Int), ()), ()) else none
theorem eq (m_1 m_2 m_3 : Int) (m_4 : LI) (i_5 j_6 : Int) : F ((m_1, (m_2, (m_3, m_4))), i_5, j_6, ()) = T m_1 m_2 m_3 m_4 i_5 j_6 := eq_any fun k => by kernel_rfl
theorem ok : CtxOK prog ctx := ⟨nilM, mixed_ok, tab_ok tab_good, nilM, nilM, nilM⟩
theorem S : Sound prog ⟨109, sig, F⟩ := sound_k (res := [.tmp 6]) func109 ok
end impl_Matrix_at
namespace impl_transpose_1
noncomputable def sig : Sig := ⟨[.val false tI, .val false tI, .rptr TMatrix], [(.val false, tI, .deep)]⟩
noncomputable def ctx : Ctx := ⟨tabOf tabl, [⟨109, impl_Matrix_at.sig, impl_Matrix_at.F⟩], [], [], [], []⟩
noncomputable def cfg : Cfg := ⟨ctx, [], [], fun _ => ([], []), fun _ => []⟩
noncomputable def code : Code := (f233).body.getD .skip
noncomputable def fin := finK ctx sig [.tmp 5]
noncomputable def F (d : Int × Int × MX × Unit) : OI := anyK (runFn cfg fin code (initSt sig.ps d 10))
variable (i_1 j_2 a_3 a_4 a_5 : Int) (a_6 : LI)
noncomputable def T : OI := (impl_Matrix_at.F ((a_3, (a_4, (a_5, a_6))), j_2, i_1, ())).bind fun r7 => some (((r7.1.1 : Int), ()), ())
theorem eq : F (i_1, j_2, (a_3, (a_4, (a_5, a_6))), ()) = T i_1 j_2 a_3 a_4 a_5 a_6 := eq_any fun k => by kernel_rfl
theorem ok : CtxOK prog ctx := ⟨nilM, mixed_ok, tab_ok tab_good, consM ⟨impl_Matrix_at.S, nilM⟩, nilM, nilM⟩
theorem S : Sound prog ⟨233, sig, F⟩ := sound_k (res := [.tmp 5]) func233 ok
noncomputable def cloG (y : MX × Unit) (d : Int × Int × Unit) : Option (Int × Unit) := (F (joinIns [.rptr TMatrix] [(false, tI), (false, tI)] d y)).map (·.1)
noncomputable def clo : Clo := ⟨233, ⟨[(false, tI), (false, tI)], [(.val false, tI, .deep)]⟩, [.rptr TMatrix], cloG⟩
theorem cloS : SoundClo prog clo := sound_clo (s := ⟨[(false, tI), (false, tI)], [(.val false, tI, .deep)]⟩) (caps := [.rptr TMatrix]) rfl S
end impl_transpose_1
namespace impl_transpose
noncomputable def sig : Sig := ⟨[.val true TMatrix], [(.val true, TMatrix, .deep)]⟩
noncomputable def ctx : Ctx := ⟨tabOf tabl, [⟨152, impl_filled.sig, impl_filled.F⟩], [impl_transpose_1.clo], [], [], []⟩
noncomputable def cfg : Cfg := ⟨ctx, [], [], fun _ => ([], []), fun _ => []⟩
noncomputable def code : Code := (f211).body.getD .skip
noncomputable def fin := finK ctx sig [.cell 2 86]
noncomputable def F (d : MX × Unit) : OM := anyK (runFn cfg fin code (initSt sig.ps d 11))
variable (m_1 m_2 m_3 : Int) (m_4 : LI)
noncomputable def T : OM := (impl_filled.F (m_1, m_3, m_2, impl_transpose_1.cloG ((m_1, (m_2, (m_3, m_4))), ()), ())).bind fun r5 => some ((r5.1.1, ()), ())
theorem eq : F ((m_1, (m_2, (m_3, m_4))), ()) = T m_1 m_2 m_3 m_4 := eq_any fun k => by kernel_rfl
theorem ok : CtxOK prog ctx := ⟨nilM, mixed_ok, tab_ok tab_good, consM ⟨impl_filled.S, nilM⟩, consM ⟨impl_transpose_1.cloS, nilM⟩, nilM⟩
theorem S : Sound prog ⟨211, sig, F⟩ := sound_k (res := [.cell 2 86]) func211 ok
end impl_transpose
namespace impl_columnsOf
noncomputable def sig : Sig := ⟨[.val true TMatrix], [(.val false, tQ, .deep)]⟩
noncomputable def ctx : Ctx := ⟨tabOf tabl, [⟨210, impl_rowsOf.sig, impl_rowsOf.F⟩, ⟨211, impl_transpose.sig, impl_transpose.F⟩], [], [], [], []⟩
noncomputable def cfg : Cfg := ⟨ctx, [], [], fun _ => ([], []), fun _ => []⟩
noncomputable def code : Code := (f193).body.getD .skip
noncomputable def fin := finK ctx sig [.tmp 2]
noncomputable def F (d : MX × Unit) : OQ := anyK (runFn cfg fin code (initSt sig.ps d 6))
variable (m_1 m_2 m_3 : Int) (m_4 : LI)
noncomputable def T : OQ := (impl_transpose.F ((m_1, (m_2, (m_3, m_4))), ())).bind fun r5 => (impl_rowsOf.F (r5.1.1, ())).bind fun r6 => some ((r6.1.1, ()), ())
theorem eq : F ((m_1, (m_2, (m_3, m_4))), ()) = T m_1 m_2 m_3 m_4 := eq_any fun k => by kernel_rfl
theorem ok : CtxOK prog ctx := ⟨nilM, mixed_ok, tab_ok tab_good, consM ⟨impl_rowsOf.S, consM ⟨impl_transpose.S, nilM⟩⟩, nilM, nilM⟩
theorem S : Sound prog ⟨193, sig, F⟩ := sound_k (res := [.tmp 2]) func193 ok
end impl_columnsOf
namespace impl_dot
noncomputable def sig : Sig := ⟨[.val false tL, .val false tL, .val false tI], [(.val false, tI, .deep)]⟩
noncomputable def ctx : Ctx := ⟨tabOf tabl, [], [], [], [], []⟩
noncomputable def cfg : Cfg := ⟨ctx, [], [], fun id => match id with | 3 => ([0, 1, 2, 7, 10, 11], []) | _ => ([], []), fun _ => []⟩
noncomputable def code : Code := (f103).body.getD .skip
noncomputable def fin := finK ctx sig [.tmp 6]
noncomputable def F (d : LI × LI × Int × Unit) : OI := anyK (runFn cfg fin code (initSt sig.ps d 29))
variable (k : Nat) (x4 x5 : LI) (i6 i7 i8 i9 : Int)
noncomputable def l3 : OI := Go.Vm.runT cfg fin k [.inLoop (sub [1, 1, 0, 1, 0, 0] code), .inBlock 0, .code (sub [1, 1, 1] code)] ⟨[vL x4, vL x5, vI i6, .dead, .dead, .dead, .dead, vI i7, .dead, .dead, vI i8, vI i9] ++ deads 17, []⟩
theorem l3_eq : l3 (k + 1) x4 x5 i6 i7 i8 i9 = if (decide (i9 < i8)) = true then if 0 ≤ i9 ∧ i9 < (x4.length : Int) then if 0 ≤ i9 ∧ i9 < (x5.length : Int) then if i6 = 0 then none else l3 k x4 x5 i6 ((IntKind.i64.wrap (i7 + (IntKind.i64.wrap ((x4.getD i9.toNat 0 : Int) * (x5.getD i9.toNat 0 : Int))))).tmod i6) i8 (IntKind.i64.wrap (i9 + (1 : Int))) else none else none else some ((i7, ()), ()) := by kernel_rfl
variable (a_1 b_2 : LI) (p_3 : Int)
noncomputable def T : OI := l3 k a_1 b_2 p_3 (0 : Int) (a_1.length : Int) (0 : Int)
theorem of {r : (Int × Unit) × (Unit)} (h : Ev (fun k => T k a_1 b_2 p_3) r) : F (a_1, b_2, p_3, ()) = some r := Ev.run (fun k => by kernel_rfl) h
theorem ok : CtxOK prog ctx := ⟨nilM, mixed_ok, tab_ok tab_good, nilM, nilM, nilM⟩
theorem S : Sound prog ⟨103, sig, F⟩ := sound_k (res := [.tmp 6]) func103 ok
end impl_dot
namespace impl_product_1
noncomputable def sig : Sig := ⟨[.val false tI, .val false tI, .rptr TMatrix, .rptr tQ], [(.val false, tI, .deep)]⟩
noncomputable def ctx : Ctx := ⟨tabOf tabl, [⟨103, impl_dot.sig, impl_dot.F⟩, ⟨104, impl_Matrix_row.sig, impl_Matrix_row.F⟩], [], [], [], []⟩
noncomputable def cfg : Cfg := ⟨ctx, [], [], fun _ => ([], []), fun _ => []⟩
noncomputable def code : Code := (f194).body.getD .skip
noncomputable def fin := finK ctx sig [.tmp 6]
noncomputable def F (d : Int × Int × MX × LL × Unit) : OI := anyK (runFn cfg fin code (initSt sig.ps d 17))
variable (i_1 j_2 a_3 a_4 a_5 : Int) (a_6 : LI) (a_7 : LL)
noncomputable def T : OI := (impl_Matrix_row.F ((a_3, (a_4, (a_5, a_6))), i_1, ())).bind fun r8 => if 0 ≤ j_2 ∧ j_2 < (a_7.length : Int) then (impl_dot.F (r8.1.1, a_7.getD j_2.toNat ([] : LI), a_3, ())).bind fun r9 => some (((r9.1.1 : Int), ()), ()) else none
theorem eq : F (i_1, j_2, (a_3, (a_4, (a_5, a_6))), a_7, ()) = T i_1 j_2 a_3 a_4 a_5 a_6 a_7 := eq_any fun k => by kernel_rfl
theorem ok : CtxOK prog ctx := ⟨nilM, mixed_ok, tab_ok tab_good, consM ⟨impl_dot.S, consM ⟨impl_Matrix_row.S, nilM⟩⟩, nilM, nilM⟩
theorem S : Sound prog ⟨194, sig, F⟩ := sound_k (res := [.tmp 6]) func194 ok
noncomputable def cloG (y : MX × LL × Unit) (d : Int × Int × Unit) : Option (Int × Unit) := (F (joinIns [.rptr TMatrix, .rptr tQ] [(false, tI), (false, tI)] d y)).map (·.1)
noncomputable def clo : Clo := ⟨194, ⟨[(false, tI), (false, tI)], [(.val false, tI, .deep)]⟩, [.rptr TMatrix, .rptr tQ], cloG⟩
theorem cloS : SoundClo prog clo := sound_clo (s := ⟨[(false, tI), (false, tI)], [(.val false, tI, .deep)]⟩) (caps := [.rptr TMatrix, .rptr tQ]) rfl S
end impl_product_1
namespace impl_product
noncomputable def sig : Sig := ⟨[.val true TMatrix, .val true TMatrix], [(.val true, TMatrix, .deep)]⟩
noncomputable def ctx : Ctx := ⟨tabOf tabl, [⟨152, impl_filled.sig, impl_filled.F⟩, ⟨193, impl_columnsOf.sig, impl_columnsOf.F⟩], [impl_product_1.clo], [], [], []⟩
noncomputable def cfg : Cfg := ⟨ctx, [], [], fun _ => ([], []), fun _ => []⟩
noncomputable def code : Code := (f162).body.getD .skip
noncomputable def fin := finK ctx sig [.cell 4 86]
noncomputable def F (d : MX × MX × Unit) : OM := anyK (runFn cfg fin code (initSt sig.ps d 16))
variable (a_1 a_2 a_3 : Int) (a_4 : LI) (b_5 b_6 b_7 : Int) (b_8 : LI)
noncomputable def T : OM := (impl_columnsOf.F ((b_5, (b_6, (b_7, b_8))), ())).bind fun r9 => (impl_filled.F (a_1, a_2, b_7, impl_product_1.cloG ((a_1, (a_2, (a_3, a_4))), r9.1.1, ()), ())).bind fun r10 => some ((r10.1.1, ()), ())
theorem eq : F ((a_1, (a_2, (a_3, a_4))), (b_5, (b_6, (b_7, b_8))), ()) = T a_1 a_2 a_3 a_4 b_5 b_6 b_7 b_8 := eq_any fun k => by kernel_rfl
theorem ok : CtxOK prog ctx := ⟨nilM, mixed_ok, tab_ok tab_good, consM ⟨impl_filled.S, consM ⟨impl_columnsOf.S, nilM⟩⟩, consM ⟨impl_product_1.cloS, nilM⟩, nilM⟩
theorem S : Sound prog ⟨162, sig, F⟩ := sound_k (res := [.cell 4 86]) func162 ok
end impl_product
namespace slices_Equal_Lint64_int64
noncomputable def sig : Sig := ⟨[.val false tL, .val false tL], [(.val false, .bool, .deep)]⟩
noncomputable def ctx : Ctx := ⟨tabOf tabl, [], [], [], [], []⟩
noncomputable def cfg : Cfg := ⟨ctx, [], [], fun id => match id with | 4 => ([0, 1, 12, 13], []) | _ => ([], []), fun _ => []⟩
noncomputable def code : Code := (f188).body.getD .skip
noncomputable def fin := finK ctx sig [.tmp 4]
noncomputable def F (d : LI × LI × Unit) : OB := anyK (runFn cfg fin code (initSt sig.ps d 26))
variable (k : Nat) (x3 x4 : LI) (i5 i6 : Int)
noncomputable def l4 : OB := Go.Vm.runT cfg fin k [.inLoop (sub [1, 1, 0, 1, 0, 0] code), .inBlock 0, .code (sub [1, 1, 1] code)] ⟨[vL x3, vL x4, .dead, .dead, .dead, .dead, .dead, .dead, .dead, .dead, .dead, .dead, vI i5, vI i6] ++ deads 12, []⟩
theorem l4_eq : l4 (k + 1) x3 x4 i5 i6 = if (decide (i6 < i5)) = true then if 0 ≤ i6 ∧ i6 < (x3.length : Int) then if 0 ≤ i6 ∧ i6 < (x4.length : Int) then if ((x3.getD i6.toNat 0 : Int) != (x4.getD i6.toNat 0 : Int)) = true then some ((false, ()), ()) else l4 k x3 x4 i5 (IntKind.i64.wrap (i6 + (1 : Int))) else none else none else some ((true, ()), ()) := by kernel_rfl
variable (s1_1 s2_2 : LI)
noncomputable def T : OB := if ((s1_1.length : Int) != (s2_2.length : Int)) = true then some ((false, ()), ()) else l4 k s1_1 s2_2 (s1_1.length : Int) (0 : Int)
theorem of {r : (Bool × Unit) × (Unit)} (h : Ev (fun k => T k s1_1 s2_2) r) : F (s1_1, s2_2, ()) = some r := Ev.run (fun k => by kernel_rfl) h
theorem ok : CtxOK prog ctx := ⟨nilM, mixed_ok, tab_ok tab_good, nilM, nilM, nilM⟩
theorem S : Sound prog ⟨188, sig, F⟩ := sound_k (res := [.tmp 4]) func188 ok
noncomputable def cloG (y : Unit) (d : LI × LI × Unit) : Option (Bool × Unit) := (F (joinIns [] [(false, tL), (false, tL)] d y)).map (·.1)
noncomputable def clo : Clo := ⟨188, ⟨[(false, tL), (false, tL)], [(.val false, .bool, .deep)]⟩, [], cloG⟩
theorem cloS : SoundClo prog clo := sound_clo (s := ⟨[(false, tL), (false, tL)], [(.val false, .bool, .deep)]⟩) (caps := []) rfl S
end slices_Equal_Lint64_int64
namespace impl_SameMatrix
noncomputable def sig : Sig := ⟨[.val true TMatrix, .val true TMatrix], [(.val false, .bool, .deep)]⟩
noncomputable def ctx : Ctx := ⟨tabOf tabl, [⟨188, slices_Equal_Lint64_int64.sig, slices_Equal_Lint64_int64.F⟩], [], [], [], []⟩
noncomputable def cfg : Cfg := ⟨ctx, [], [], fun _ => ([], []), fun _ => []⟩
noncomputable def code : Code := (f163).body.getD .skip
noncomputable def fin := finK ctx sig [.tmp 4]
noncomputable def F (d : MX × MX × Unit) : OB := anyK (runFn cfg fin code (initSt sig.ps d 31))
variable (a_1 a_2 a_3 : Int) (a_4 : LI) (b_5 b_6 b_7 : Int) (b_8 : LI)
noncomputable def T : OB := if (a_1 == b_5) = true then if (a_2 == b_6) = true then if (a_3 == b_7) = true then (slices_Equal_Lint64_int64.F (a_4, b_8, ())).bind fun r9 => some (((r9.1.1 : Bool), ()), ()) else some ((false, ()), ()) else some ((false, ()), ()) else some ((false, ()), ())
theorem eq : F ((a_1, (a_2, (a_3, a_4))), (b_5, (b_6, (b_7, b_8))), ()) = T a_1 a_2 a_3 a_4 b_5 b_6 b_7 b_8 := eq_any fun k => by kernel_rfl
theorem ok : CtxOK prog ctx := ⟨nilM, mixed_ok, tab_ok tab_good, consM ⟨slices_Equal_Lint64_int64.S, nilM⟩, nilM, nilM⟩
theorem S : Sound prog ⟨163, sig, F⟩ := sound_k (res := [.tmp 4]) func163 ok
end impl_SameMatrix
namespace impl_wrongSquare
noncomputable def sig : Sig := ⟨[.val true TSheaf], [(.val false, tI, .deep), (.val false, tI, .deep), (.val false, .bool, .deep)]⟩
noncomputable def ctx : Ctx := ⟨tabOf tabl, [⟨107, impl_faceIndices.sig, impl_faceIndices.F⟩, ⟨108, impl_direct.sig, impl_direct.F⟩, ⟨162, impl_product.sig, impl_product.F⟩, ⟨163, impl_SameMatrix.sig, impl_SameMatrix.F⟩], [], [], [], []⟩
noncomputable def cfg : Cfg := ⟨ctx, [], [], fun id => match id with | 2 => ([1, 15, 16, 17], [4]) | 8 => ([1, 6, 7, 8, 15, 16, 17, 31, 32], [4, 32]) | 11 => ([1, 6, 7, 8, 9, 10, 15, 16, 17, 31, 32], [4, 32]) | _ => ([], []), fun _ => []⟩
noncomputable def code : Code := (f129).body.getD .skip
noncomputable def fin := finK ctx sig [.tmp 2, .tmp 3, .tmp 4]
noncomputable def F (d : SF × Unit) : Option ((Int × Int × Bool × Unit) × (Unit)) := anyK (runFn cfg fin code (initSt sig.ps d 86))
variable (k : Nat) (x5 : LL) (i6 i7 : Int) (x8 : LL) (i9 : Int) (x10 : LI) (x11 : LM)
noncomputable def l2 : Option ((Int × Int × Bool × Unit) × (Unit)) := Go.Vm.runT cfg fin k [.inLoop (sub [1, 0, 1, 0, 0] code), .inBlock 0, .code (sub [1, 1] code)] ⟨[.dead, .ref 4 (.root 0), .dead, .dead, .dead, .dead, .dead, .dead, .dead, .dead, .dead, .dead, .dead, .dead, .dead, vQ x5, vI i6, vI i7] ++ deads 68, [(4, ⟨true, [cQ x8, cI i9, cL x10, ⟨(.sl TMatrix), .sh, x11⟩]⟩)]⟩
variable (x13 : LI) (i14 : Int) (x15 : LL) (i16 i17 i18 i19 : Int) (x20 : LL) (i21 : Int) (x22 : LI) (x23 : LM) (x24 : LI)
noncomputable def l8 : Option ((Int × Int × Bool × Unit) × (Unit)) := Go.Vm.runT cfg fin k [.inLoop (sub [1, 0, 1, 0, 0, 1, 1, 0, 0, 1, 1, 1, 1, 1, 0, 0] code), .inBlock 2, .inBlock 1, .code (sub [1, 0, 1, 0, 0, 1, 1, 1] code), .inLoop (sub [1, 0, 1, 0, 0] code), .inBlock 0, .code (sub [1, 1] code)] ⟨[.dead, .ref 4 (.root 0), .dead, .dead, .dead, .dead, vL x13, vI i14, .view 32 (.root 0) 1 false, .dead, .dead, .dead, .dead, .dead, .dead, vQ x15, vI i16, vI i17, .dead, .dead, .dead, .dead, .dead, .dead, .dead, .dead, .dead, .dead, .dead, .dead, .dead, vI i18, vI i19] ++ deads 53, [(4, ⟨true, [cQ x20, cI i21, cL x22, ⟨(.sl TMatrix), .sh, x23⟩]⟩), (32, ⟨false, [dL x24]⟩)]⟩
variable (x25 : LI) (i26 i27 i28 : Int) (x29 : LL) (i30 i31 i32 i33 : Int) (x34 : LL) (i35 : Int) (x36 : LI) (x37 : LM) (x38 : LI)
noncomputable def l11 : Option ((Int × Int × Bool × Unit) × (Unit)) := Go.Vm.runT cfg fin k [.inLoop (sub [1, 0, 1, 0, 0, 1, 1, 0, 0, 1, 1, 1, 1, 1, 0, 0, 1, 1, 0, 0, 1, 1, 0, 0] code), .inBlock 4, .inBlock 3, .code (sub [1, 0, 1, 0, 0, 1, 1, 0, 0, 1, 1, 1, 1, 1, 0, 0, 1, 1, 1] code), .inLoop (sub [1, 0, 1, 0, 0, 1, 1, 0, 0, 1, 1, 1, 1, 1, 0, 0] code), .inBlock 2, .inBlock 1, .code (sub [1, 0, 1, 0, 0, 1, 1, 1] code), .inLoop (sub [1, 0, 1, 0, 0] code), .inBlock 0, .code (sub [1, 1] code)] ⟨[.dead, .ref 4 (.root 0), .dead, .dead, .dead, .dead, vL x25, vI i26, .view 32 (.root 0) 1 false, vI i27, vI i28, .dead, .dead, .dead, .dead, vQ x29, vI i30, vI i31, .dead, .dead, .dead, .dead, .dead, .dead, .dead, .dead, .dead, .dead, .dead, .dead, .dead, vI i32, vI i33] ++ deads 53, [(4, ⟨true, [cQ x34, cI i35, cL x36, ⟨(.sl TMatrix), .sh, x37⟩]⟩), (32, ⟨false, [dL x38]⟩)]⟩
theorem l2_eq : l2 (k + 1) x5 i6 i7 x8 i9 x10 x11 = if (decide (i7 < i6)) = true then if 0 ≤ i7 ∧ i7 < (x5.length : Int) then if (decide (((x5.getD i7.toNat ([] : LI)).length : Int) < (3 : Int))) = true then l2 k x5 i6 (IntKind.i64.wrap (i7 + (1 : Int))) x8 i9 x10 x11 else (impl_faceIndices.F (x8, i7, ())).bind fun r12 => l8 k (x5.getD i7.toNat ([] : LI)) i7 x5 i6 i7 ((x5.getD i7.toNat ([] : LI)).length : Int) (0 : Int) x8 i9 x10 x11 r12.1.1 else none else some (((0 : Int), ((0 : Int), (false, ()))), ()) := by kernel_rfl
theorem l8_eq : l8 (k + 1) x13 i14 x15 i16 i17 i18 i19 x20 i21 x22 x23 x24 = if (decide (i19 < i18)) = true then l11 k x13 i14 i19 (IntKind.i64.wrap (i19 + (1 : Int))) x15 i16 i17 i18 i19 x20 i21 x22 x23 x24 else l2 k x15 i16 (IntKind.i64.wrap (i17 + (1 : Int))) x20 i21 x22 x23 := by kernel_rfl
theorem l11_eq : l11 (k + 1) x25 i26 i27 i28 x29 i30 i31 i32 i33 x34 i35 x36 x37 x38 = if (decide (i28 < (x25.length : Int))) = true then (impl_direct.F ((x34, (i35, (x36, x37))), i26, i27, ())).bind fun r39 => if 0 ≤ i27 ∧ i27 < (x38.length : Int) then (impl_direct.F ((x34, (i35, (x36, x37))), (x38.getD i27.toNat 0 : Int), IntKind.i64.wrap (i28 - (1 : Int)), ())).bind fun r40 => (impl_product.F (r39.1.1, r40.1.1, ())).bind fun r41 => (impl_direct.F ((x34, (i35, (x36, x37))), i26, i28, ())).bind fun r42 => if 0 ≤ i28 ∧ i28 < (x38.length : Int) then (impl_direct.F ((x34, (i35, (x36, x37))), (x38.getD i28.toNat 0 : Int), i27, ())).bind fun r43 => (impl_product.F (r42.1.1, r43.1.1, ())).bind fun r44 => (impl_SameMatrix.F (r41.1.1, r44.1.1, ())).bind fun r45 => if (!(r45.1.1 : Bool)) = true then if 0 ≤ i27 ∧ i27 < (x38.length : Int) then (impl_faceIndices.F (x34, (x38.getD i27.toNat 0 : Int), ())).bind fun r46 => if 0 ≤ (IntKind.i64.wrap (i28 - (1 : Int))) ∧ (IntKind.i64.wrap (i28 - (1 : Int))) < (r46.1.1.length : Int) then some ((i26, (r46.1.1.getD (IntKind.i64.wrap (i28 - (1 : Int))).toNat 0, (true, ()))), ()) else none else none else l11 k x25 i26 i27 (IntKind.i64.wrap (i28 + (1 : Int))) x29 i30 i31 i32 i33 x34 i35 x36 x37 x38 else none else none else l8 k x25 i26 x29 i30 i31 i32 (IntKind.i64.wrap (i33 + (1 : Int))) x34 i35 x36 x37 x38 := by kernel_rfl
variable (toArray_1 : LL) (toArray_2 : Int) (toArray_3 : LI) (toArray_4 : LM)
noncomputable def T : Option ((Int × Int × Bool × Unit) × (Unit)) := l2 k toArray_1 (toArray_1.length : Int) (0 : Int) toArray_1 toArray_2 toArray_3 toArray_4
theorem of {r : (Int × Int × Bool × Unit) × (Unit)} (h : Ev (fun k => T k toArray_1 toArray_2 toArray_3 toArray_4) r) : F ((toArray_1, (toArray_2, (toArray_3, toArray_4))), ()) = some r := Ev.run (fun k => by kernel_rfl) h
theorem ok : CtxOK prog ctx := ⟨nilM, mixed_ok, tab_ok tab_good, consM ⟨impl_faceIndices.S, consM ⟨impl_direct.S, consM ⟨impl_product.S, consM ⟨impl_SameMatrix.S, nilM⟩⟩⟩⟩, nilM, nilM⟩
theorem S : Sound prog ⟨129, sig, F⟩ := sound_k (res := [.tmp 2, .tmp 3, .tmp 4]) func129 ok
end impl_wrongSquare
namespace impl_IsSheaf
noncomputable def sig : Sig := ⟨[.val true TSheaf], [(.val false, .bool, .deep)]⟩
noncomputable def ctx : Ctx := ⟨tabOf tabl, [⟨128, impl_ValidSheaf.sig, impl_ValidSheaf.F⟩, ⟨129, impl_wrongSquare.sig, impl_wrongSquare.F⟩], [], [], [], []⟩
noncomputable def cfg : Cfg := ⟨ctx, [], [], fun _ => ([], []), fun _ => []⟩
noncomputable def code : Code := (f79).body.getD .skip
noncomputable def fin := finK ctx sig [.tmp 2]
noncomputable def F (d : SF × Unit) : OB := anyK (runFn cfg fin code (initSt sig.ps d 17))
variable (s_1 : LL) (s_2 : Int) (s_3 : LI) (s_4 : LM)
noncomputable def T : OB := (impl_ValidSheaf.F ((s_1, (s_2, (s_3, s_4))), ())).bind fun r5 => if (!(r5.1.1 : Bool)) = true then some ((false, ()), ()) else (impl_wrongSquare.F ((s_1, (s_2, (s_3, s_4))), ())).bind fun r6 => some ((!(r6.1.2.2.1 : Bool), ()), ())
theorem eq : F ((s_1, (s_2, (s_3, s_4))), ()) = T s_1 s_2 s_3 s_4 := eq_any fun k => by kernel_rfl
theorem ok : CtxOK prog ctx := ⟨nilM, mixed_ok, tab_ok tab_good, consM ⟨impl_ValidSheaf.S, consM ⟨impl_wrongSquare.S, nilM⟩⟩, nilM, nilM⟩
theorem S : Sound prog ⟨79, sig, F⟩ := sound_k (res := [.tmp 2]) func79 ok
end impl_IsSheaf
namespace impl_isPart_1
noncomputable def sig : Sig := ⟨[.val false tL, .rptr tQ], [(.val false, .bool, .deep)]⟩
noncomputable def ctx : Ctx := ⟨tabOf tabl, [⟨57, impl_indexOf.sig, impl_indexOf.F⟩], [], [], [], []⟩
noncomputable def cfg : Cfg := ⟨ctx, [], [], fun _ => ([], []), fun _ => []⟩
noncomputable def code : Code := (f134).body.getD .skip
noncomputable def fin := finK ctx sig [.tmp 3]
noncomputable def F (d : LI × LL × Unit) : OB := anyK (runFn cfg fin code (initSt sig.ps d 8))
variable (s_1 : LI) (a_2 : LL)
noncomputable def T : OB := (impl_indexOf.F (a_2, s_1, ())).bind fun r3 => some ((decide ((r3.1.1 : Int) < (0 : Int)), ()), ())
theorem eq : F (s_1, a_2, ()) = T s_1 a_2 := eq_any fun k => by kernel_rfl
theorem ok : CtxOK prog ctx := ⟨nilM, mixed_ok, tab_ok tab_good, consM ⟨impl_indexOf.S, nilM⟩, nilM, nilM⟩
theorem S : Sound prog ⟨134, sig, F⟩ := sound_k (res := [.tmp 3]) func134 ok
noncomputable def cloG (y : LL × Unit) (d : LI × Unit) : Option (Bool × Unit) := (F (joinIns [.rptr tQ] [(false, tL)] d y)).map (·.1)
noncomputable def clo : Clo := ⟨134, ⟨[(false, tL)], [(.val false, .bool, .deep)]⟩, [.rptr tQ], cloG⟩
theorem cloS : SoundClo prog clo := sound_clo (s := ⟨[(false, tL)], [(.val false, .bool, .deep)]⟩) (caps := [.rptr tQ]) rfl S
end impl_isPart_1
namespace impl_isPart
noncomputable def sig : Sig := ⟨[.val true tQ, .val true tQ], [(.val false, .bool, .deep)]⟩
noncomputable def ctx : Ctx := ⟨tabOf tabl, [⟨131, slices_ContainsFunc_LLint64_Lint64.sig, slices_ContainsFunc_LLint64_Lint64.F⟩], [impl_isPart_1.clo], [], [], []⟩
noncomputable def cfg : Cfg := ⟨ctx, [], [], fun _ => ([], []), fun _ => []⟩
noncomputable def code : Code := (f81).body.getD .skip
noncomputable def fin := finK ctx sig [.tmp 4]
noncomputable def F (d : LL × LL × Unit) : OB := anyK (runFn cfg fin code (initSt sig.ps d 10))
variable (part_1 c_2 : LL)
noncomputable def T : OB := (slices_ContainsFunc_LLint64_Lint64.F (part_1, impl_isPart_1.cloG (c_2, ()), ())).bind fun r3 => some ((!(r3.1.1 : Bool), ()), ())
theorem eq : F (part_1, c_2, ()) = T part_1 c_2 := eq_any fun k => by kernel_rfl
theorem ok : CtxOK prog ctx := ⟨nilM, mixed_ok, tab_ok tab_good, consM ⟨slices_ContainsFunc_LLint64_Lint64.S, nilM⟩, consM ⟨impl_isPart_1.cloS, nilM⟩, nilM⟩
theorem S : Sound prog ⟨81, sig, F⟩ := sound_k (res := [.tmp 4]) func81 ok
end impl_isPart
namespace impl_parted
noncomputable def sig : Sig := ⟨[.val true TSheaf, .val true tQ], [(.val false, tI, .deep)]⟩
noncomputable def ctx : Ctx := ⟨tabOf tabl, [⟨79, impl_IsSheaf.sig, impl_IsSheaf.F⟩, ⟨80, impl_ValidComplex.sig, impl_ValidComplex.F⟩, ⟨81, impl_isPart.sig, impl_isPart.F⟩], [], [], [], []⟩
noncomputable def cfg : Cfg := ⟨ctx, [], [], fun _ => ([], []), fun _ => []⟩
noncomputable def code : Code := (f38).body.getD .skip
noncomputable def fin := finK ctx sig [.tmp 4]
noncomputable def F (d : SF × LL × Unit) : OI := anyK (runFn cfg fin code (initSt sig.ps d 20))
variable (s_1 : LL) (s_2 : Int) (s_3 : LI) (s_4 : LM) (part_5 : LL)
noncomputable def T : OI := (impl_IsSheaf.F ((s_1, (s_2, (s_3, s_4))), ())).bind fun r6 => if (!(r6.1.1 : Bool)) = true then some (((1 : Int), ()), ()) else (impl_ValidComplex.F (part_5, ())).bind fun r7 => if (!(r7.1.1 : Bool)) = true then some (((1 : Int), ()), ()) else (impl_isPart.F (part_5, s_1, ())).bind fun r8 => if (!(r8.1.1 : Bool)) = true then some (((6 : Int), ()), ()) else some (((0 : Int), ()), ())
theorem eq : F ((s_1, (s_2, (s_3, s_4))), part_5, ()) = T s_1 s_2 s_3 s_4 part_5 := eq_any fun k => by kernel_rfl
theorem ok : CtxOK prog ctx := ⟨nilM, mixed_ok, tab_ok tab_good, consM ⟨impl_IsSheaf.S, consM ⟨impl_ValidComplex.S, consM ⟨impl_isPart.S, nilM⟩⟩⟩, nilM, nilM⟩
theorem S : Sound prog ⟨38, sig, F⟩ := sound_k (res := [.tmp 4]) func38 ok
end impl_parted
namespace impl_verticesOf
noncomputable def sig : Sig := ⟨[.val true tQ], [(.val false, tL, .deep)]⟩
noncomputable def ctx : Ctx := ⟨tabOf tabl, [], [], [], [], []⟩
noncomputable def cfg : Cfg := ⟨ctx, [], [], fun id => match id with | 3 => ([3, 7, 8, 9], [12]) | _ => ([], []), fun _ => []⟩
noncomputable def code : Code := (f56).body.getD .skip
noncomputable def fin := finK ctx sig [.tmp 2]
noncomputable def F (d : LL × Unit) : OL := anyK (runFn cfg fin code (initSt sig.ps d 24))
variable (k : Nat) (x2 : LL) (i3 i4 : Int) (x5 : LI)
noncomputable def l3 : OL := Go.Vm.runT cfg fin k [.inLoop (sub [1, 1, 0, 1, 0, 0] code), .inBlock 0, .code (sub [1, 1, 1] code)] ⟨[.dead, .dead, .dead, .view 12 (.root 0) 1 false, .dead, .dead, .dead, vQ x2, vI i3, vI i4] ++ deads 14, [(12, ⟨false, [dL x5]⟩)]⟩
theorem l3_eq : l3 (k + 1) x2 i3 i4 x5 = if (decide (i4 < i3)) = true then if 0 ≤ i4 ∧ i4 < (x2.length : Int) then if (((x2.getD i4.toNat ([] : LI)).length : Int) == (1 : Int)) = true then if 0 ≤ (0 : Int) ∧ (0 : Int) < ((x2.getD i4.toNat ([] : LI)).length : Int) then if x5.length + ([(x2.getD i4.toNat ([] : LI)).getD (0 : Int).toNat 0] : LI).length ≤ bigA then l3 k x2 i3 (IntKind.i64.wrap (i4 + (1 : Int))) (x5 ++ ([(x2.getD i4.toNat ([] : LI)).getD (0 : Int).toNat 0])) else none else none else l3 k x2 i3 (IntKind.i64.wrap (i4 + (1 : Int))) x5 else none else some ((x5, ()), ()) := by kernel_rfl
variable (c_1 : LL)
noncomputable def T : OL := l3 k c_1 (c_1.length : Int) (0 : Int) ([])
theorem of {r : (LI × Unit) × (Unit)} (h : Ev (fun k => T k c_1) r) : F (c_1, ()) = some r := Ev.run (fun k => by kernel_rfl) h
theorem ok : CtxOK prog ctx := ⟨nilM, mixed_ok, tab_ok tab_good, nilM, nilM, nilM⟩
theorem S : Sound prog ⟨56, sig, F⟩ := sound_k (res := [.tmp 2]) func56 ok
end impl_verticesOf
namespace slices_Index_Lint64_int64
noncomputable def sig : Sig := ⟨[.val false tL, .val false tI], [(.val false, tI, .deep)]⟩
noncomputable def ctx : Ctx := ⟨tabOf tabl, [], [], [], [], []⟩
noncomputable def cfg : Cfg := ⟨ctx, [], [], fun id => match id with | 2 => ([0, 1, 7, 8], []) | _ => ([], []), fun _ => []⟩
noncomputable def code : Code := (f169).body.getD .skip
noncomputable def fin := finK ctx sig [.tmp 4]
noncomputable def F (d : LI × Int × Unit) : OI := anyK (runFn cfg fin code (initSt sig.ps d 19))
variable (k : Nat) (x3 : LI) (i4 i5 i6 : Int)
noncomputable def l2 : OI := Go.Vm.runT cfg fin k [.inLoop (sub [1, 0, 1, 0, 0] code), .inBlock 0, .code (sub [1, 1] code)] ⟨[vL x3, vI i4, .dead, .dead, .dead, .dead, .dead, vI i5, vI i6] ++ deads 10, []⟩
theorem l2_eq : l2 (k + 1) x3 i4 i5 i6 = if (decide (i6 < i5)) = true then if 0 ≤ i6 ∧ i6 < (x3.length : Int) then if (i4 == (x3.getD i6.toNat 0 : Int)) = true then some ((i6, ()), ()) else l2 k x3 i4 i5 (IntKind.i64.wrap (i6 + (1 : Int))) else none else some (((-1 : Int), ()), ()) := by kernel_rfl
variable (s_1 : LI) (v_2 : Int)
noncomputable def T : OI := l2 k s_1 v_2 (s_1.length : Int) (0 : Int)
theorem of {r : (Int × Unit) × (Unit)} (h : Ev (fun k => T k s_1 v_2) r) : F (s_1, v_2, ()) = some r := Ev.run (fun k => by kernel_rfl) h
theorem ok : CtxOK prog ctx := ⟨nilM, mixed_ok, tab_ok tab_good, nilM, nilM, nilM⟩
theorem S : Sound prog ⟨169, sig, F⟩ := sound_k (res := [.tmp 4]) func169 ok
end slices_Index_Lint64_int64
namespace slices_Sort_Lint64_int64
noncomputable def sig : Sig := sortIS
noncomputable def F (d : LI × Unit) : Option ((Unit) × (LI × Unit)) := sortIF d
def ren : Go.Shelf.Ren := ⟨fun | 53 => 170 | 59 => 218 | 63 => 196 | 64 => 197 | 68 => 207 | 70 => 212 | 71 => 213 | 72 => 214 | 73 => 215 | 74 => 216 | 75 => 217 | 76 => 219 | 77 => 220 | 78 => 221 | 79 => 222 | 88 => 234 | 89 => 235 | 90 => 236 | 91 => 237 | 92 => 238 | 96 => 242 | n => n, fun | 0 => 0 | 3 => 3 | 4 => 4 | 5 => 5 | 9 => 9 | 22 => 25 | 23 => 2 | 44 => 113 | 51 => 153 | 60 => 191 | 61 => 192 | 67 => 198 | 69 => 200 | 75 => 209 | 79 => 213 | 83 => 217 | 84 => 218 | n => n, fun n => n⟩
theorem lays : Go.Proofs.SlLaysN.n53 prog ren where
  mixed := by kernel_rfl
  f53 := ⟨"slices.Sort[[]int64,int64]", by decide, func170.trans (congrArg some (by kernel_rfl))⟩
  f59 := ⟨"cmp.Less[int64]", by decide, func218.trans (congrArg some (by kernel_rfl))⟩
  f63 := ⟨"slices.pdqsortOrdered[int64]", by decide, func196.trans (congrArg some (by kernel_rfl))⟩
  f64 := func197.trans (congrArg some (by kernel_rfl))
  f68 := ⟨"cmp.isNaN[int64]", by decide, func207.trans (congrArg some (by kernel_rfl))⟩
  f70 := ⟨"slices.insertionSortOrdered[int64]", by decide, func212.trans (congrArg some (by kernel_rfl))⟩
  f71 := ⟨"slices.heapSortOrdered[int64]", by decide, func213.trans (congrArg some (by kernel_rfl))⟩
  f72 := ⟨"slices.breakPatternsOrdered[int64]", by decide, func214.trans (congrArg some (by kernel_rfl))⟩
  f73 := ⟨"slices.choosePivotOrdered[int64]", by decide, func215.trans (congrArg some (by kernel_rfl))⟩
  f74 := ⟨"slices.reverseRangeOrdered[int64]", by decide, func216.trans (congrArg some (by kernel_rfl))⟩
  f75 := ⟨"slices.partialInsertionSortOrdered[int64]", by decide, func217.trans (congrArg some (by kernel_rfl))⟩
  f76 := ⟨"slices.partitionEqualOrdered[int64]", by decide, func219.trans (congrArg some (by kernel_rfl))⟩
  f77 := ⟨"slices.partitionOrdered[int64]", by decide, func220.trans (congrArg some (by kernel_rfl))⟩
  f78 := func221.trans (congrArg some (by kernel_rfl))
  f79 := func222.trans (congrArg some (by kernel_rfl))
  f88 := ⟨"slices.siftDownOrdered[int64]", by decide, func234.trans (congrArg some (by kernel_rfl))⟩
  f89 := func235.trans (congrArg some (by kernel_rfl))
  f90 := func236.trans (congrArg some (by kernel_rfl))
  f91 := ⟨"slices.medianAdjacentOrdered[int64]", by decide, func237.trans (congrArg some (by kernel_rfl))⟩
  f92 := ⟨"slices.medianOrdered[int64]", by decide, func238.trans (congrArg some (by kernel_rfl))⟩
  f96 := ⟨"slices.order2Ordered[int64]", by decide, func242.trans (congrArg some (by kernel_rfl))⟩
  t0 := underlying0
  a0 := isAgg0
  z0 := sizeOf0
  v0 := zeroValue0
  t3 := underlying3
  a3 := isAgg3
  z3 := sizeOf3
  v3 := zeroValue3
  t4 := underlying4
  a4 := isAgg4
  z4 := sizeOf4
  v4 := zeroValue4
  t5 := underlying5
  a5 := isAgg5
  z5 := sizeOf5
  v5 := zeroValue5
  t9 := underlying9
  a9 := isAgg9
  z9 := sizeOf9
  v9 := zeroValue9
  t22 := underlying25
  a22 := isAgg25
  z22 := sizeOf25
  v22 := zeroValue25
  t23 := underlying2
  a23 := isAgg2
  z23 := sizeOf2
  v23 := zeroValue2
  t44 := underlying113
  a44 := isAgg113
  z44 := sizeOf113
  v44 := zeroValue113
  t51 := underlying153
  a51 := isAgg153
  z51 := sizeOf153
  v51 := zeroValue153
  t60 := underlying191
  a60 := isAgg191
  z60 := sizeOf191
  v60 := zeroValue191
  t61 := underlying192
  a61 := isAgg192
  z61 := sizeOf192
  v61 := zeroValue192
  t67 := underlying198
  a67 := isAgg198
  z67 := sizeOf198
  v67 := zeroValue198
  t69 := underlying200
  a69 := isAgg200
  z69 := sizeOf200
  v69 := zeroValue200
  t75 := underlying209
  a75 := isAgg209
  z75 := sizeOf209
  v75 := zeroValue209
  t79 := underlying213
  a79 := isAgg213
  z79 := sizeOf213
  v79 := zeroValue213
  t83 := underlying217
  a83 := isAgg217
  z83 := sizeOf217
  v83 := zeroValue217
  t84 := underlying218
  a84 := isAgg218
  z84 := sizeOf218
  v84 := zeroValue218
set_option maxRecDepth 100000 in
theorem S : Sound prog ⟨170, sig, F⟩ := sortI_sound lays
end slices_Sort_Lint64_int64
namespace slices_Compact_Lint64_int64
noncomputable def sig : Sig := compIS
noncomputable def F (d : LI × Unit) : OL := compIF d
def ren : Go.Shelf.Ren := ⟨fun | 43 => 171 | n => n, fun | 0 => 0 | 3 => 3 | 4 => 4 | 22 => 25 | 23 => 2 | n => n, fun n => n⟩
theorem lays : Go.Proofs.SlLaysN.n43 prog ren where
  mixed := by kernel_rfl
  f43 := ⟨"slices.Compact[[]int64,int64]", by decide, func171.trans (congrArg some (by kernel_rfl))⟩
  t0 := underlying0
  a0 := isAgg0
  z0 := sizeOf0
  v0 := zeroValue0
  t3 := underlying3
  a3 := isAgg3
  z3 := sizeOf3
  v3 := zeroValue3
  t4 := underlying4
  a4 := isAgg4
  z4 := sizeOf4
  v4 := zeroValue4
  t22 := underlying25
  a22 := isAgg25
  z22 := sizeOf25
  v22 := zeroValue25
  t23 := underlying2
  a23 := isAgg2
  z23 := sizeOf2
  v23 := zeroValue2
  i23 := by kernel_rfl
set_option maxRecDepth 100000 in
theorem S : Sound prog ⟨171, sig, F⟩ := compI_sound lays
end slices_Compact_Lint64_int64
namespace impl_imageOf
noncomputable def sig : Sig := ⟨[.val true tQ, .val false tL, .val false tL], [(.val false, tL, .deep)]⟩
noncomputable def ctx : Ctx := ⟨tabOf tabl, [⟨56, impl_verticesOf.sig, impl_verticesOf.F⟩, ⟨169, slices_Index_Lint64_int64.sig, slices_Index_Lint64_int64.F⟩, ⟨170, slices_Sort_Lint64_int64.sig, slices_Sort_Lint64_int64.F⟩, ⟨171, slices_Compact_Lint64_int64.sig, slices_Compact_Lint64_int64.F⟩], [], [], [], []⟩
noncomputable def cfg : Cfg := ⟨ctx, [], [], fun id => match id with | 4 => ([1, 7, 8, 13, 14, 15], [28, 32]) | _ => ([], []), fun _ => []⟩
noncomputable def code : Code := (f135).body.getD .skip
noncomputable def fin := finK ctx sig [.tmp 6]
noncomputable def F (d : LL × LI × LI × Unit) : OL := anyK (runFn cfg fin code (initSt sig.ps d 33))
variable (k : Nat) (x5 x6 : LI) (i7 i8 : Int) (x9 x10 : LI)
noncomputable def l4 : OL := Go.Vm.runT cfg fin k [.inLoop (sub [1, 1, 1, 0, 1, 0, 0] code), .inBlock 0, .code (sub [1, 1, 1, 1] code)] ⟨[.dead, vL x5, .dead, .dead, .dead, .dead, .dead, .view 28 (.root 0) 1 false, .view 32 (.root 0) 1 false, .dead, .dead, .dead, .dead, vL x6, vI i7, vI i8] ++ deads 17, [(28, ⟨false, [dL x9]⟩), (32, ⟨false, [dL x10]⟩)]⟩
theorem l4_eq : l4 (k + 1) x5 x6 i7 i8 x9 x10 = if (decide (i8 < i7)) = true then if 0 ≤ i8 ∧ i8 < (x6.length : Int) then (slices_Index_Lint64_int64.F (x9, (x6.getD i8.toNat 0 : Int), ())).bind fun r11 => if 0 ≤ (r11.1.1 : Int) ∧ (r11.1.1 : Int) < (x5.length : Int) then if x10.length + ([x5.getD (r11.1.1 : Int).toNat 0] : LI).length ≤ bigA then l4 k x5 x6 i7 (IntKind.i64.wrap (i8 + (1 : Int))) x9 (x10 ++ ([x5.getD (r11.1.1 : Int).toNat 0])) else none else none else none else (slices_Sort_Lint64_int64.F (x10, ())).bind fun r12 => (slices_Compact_Lint64_int64.F (r12.2.1, ())).bind fun r13 => some ((r13.1.1, ()), ()) := by kernel_rfl
variable (a_1 : LL) (images_2 s_3 : LI)
noncomputable def T : OL := (impl_verticesOf.F (a_1, ())).bind fun r4 => l4 k images_2 s_3 (s_3.length : Int) (0 : Int) r4.1.1 ([])
theorem of {r : (LI × Unit) × (Unit)} (h : Ev (fun k => T k a_1 images_2 s_3) r) : F (a_1, images_2, s_3, ()) = some r := Ev.run (fun k => by kernel_rfl) h
theorem ok : CtxOK prog ctx := ⟨nilM, mixed_ok, tab_ok tab_good, consM ⟨impl_verticesOf.S, consM ⟨slices_Index_Lint64_int64.S, consM ⟨slices_Sort_Lint64_int64.S, consM ⟨slices_Compact_Lint64_int64.S, nilM⟩⟩⟩⟩, nilM, nilM⟩
theorem S : Sound prog ⟨135, sig, F⟩ := sound_k (res := [.tmp 6]) func135 ok
end impl_imageOf
namespace impl_copyLists
noncomputable def sig : Sig := ⟨[.val false tQ], [(.val false, tQ, .deep)]⟩
noncomputable def ctx : Ctx := ⟨tabOf tabl, [⟨98, slices_Clone_Lint64_int64.sig, slices_Clone_Lint64_int64.F⟩], [], [], [], []⟩
noncomputable def cfg : Cfg := ⟨ctx, [], [], fun id => match id with | 3 => ([3, 6, 7, 8], [12]) | _ => ([], []), fun _ => []⟩
noncomputable def code : Code := (f185).body.getD .skip
noncomputable def fin := finK ctx sig [.tmp 2]
noncomputable def F (d : LL × Unit) : OQ := anyK (runFn cfg fin code (initSt sig.ps d 19))
variable (k : Nat) (x2 : LL) (i3 i4 : Int) (x5 : LL)
noncomputable def l3 : OQ := Go.Vm.runT cfg fin k [.inLoop (sub [1, 1, 0, 1, 0, 0] code), .inBlock 0, .code (sub [1, 1, 1] code)] ⟨[.dead, .dead, .dead, .view 12 (.root 0) 1 false, .dead, .dead, vQ x2, vI i3, vI i4] ++ deads 10, [(12, ⟨false, [dQ x5]⟩)]⟩
theorem l3_eq : l3 (k + 1) x2 i3 i4 x5 = if (decide (i4 < i3)) = true then if 0 ≤ i4 ∧ i4 < (x2.length : Int) then (slices_Clone_Lint64_int64.F (x2.getD i4.toNat ([] : LI), ())).bind fun r6 => if x5.length + ([r6.1.1] : LL).length ≤ bigA then l3 k x2 i3 (IntKind.i64.wrap (i4 + (1 : Int))) (x5 ++ ([r6.1.1])) else none else none else some ((x5, ()), ()) := by kernel_rfl
variable (lists_1 : LL)
noncomputable def T : OQ := l3 k lists_1 (lists_1.length : Int) (0 : Int) ([])
theorem of {r : (LL × Unit) × (Unit)} (h : Ev (fun k => T k lists_1) r) : F (lists_1, ()) = some r := Ev.run (fun k => by kernel_rfl) h
theorem ok : CtxOK prog ctx := ⟨nilM, mixed_ok, tab_ok tab_good, consM ⟨slices_Clone_Lint64_int64.S, nilM⟩, nilM, nilM⟩
theorem S : Sound prog ⟨185, sig, F⟩ := sound_k (res := [.tmp 2]) func185 ok
end impl_copyLists
namespace slices_SortFunc_LLint64_Lint64
noncomputable def sig : Sig := sortS
noncomputable def F (d : LL × ((LI × LI × Unit) → Option (Int × Unit)) × Unit) : Option ((Unit) × (LL × Unit)) := sortF ordS d
def ren : Go.Shelf.Ren := ⟨fun | 6 => 186 | 14 => 208 | 15 => 197 | 20 => 225 | 21 => 226 | 22 => 227 | 23 => 228 | 24 => 229 | 25 => 230 | 26 => 231 | 27 => 232 | 28 => 221 | 29 => 222 | 46 => 239 | 47 => 235 | 48 => 236 | 49 => 240 | 50 => 241 | 57 => 243 | n => n, fun | 0 => 0 | 3 => 3 | 4 => 4 | 5 => 5 | 9 => 9 | 22 => 22 | 24 => 25 | 25 => 115 | 39 => 153 | 45 => 191 | 46 => 192 | 50 => 113 | 53 => 198 | 55 => 200 | 66 => 209 | 70 => 213 | 76 => 217 | 77 => 218 | n => n, fun n => n⟩
theorem lays : Go.Proofs.SlLaysF.n6 prog ren where
  mixed := by kernel_rfl
  f6 := ⟨"slices.SortFunc[[][]int64,[]int64]", by decide, func186.trans (congrArg some (by kernel_rfl))⟩
  f14 := ⟨"slices.pdqsortCmpFunc[[]int64]", by decide, func208.trans (congrArg some (by kernel_rfl))⟩
  f15 := func197.trans (congrArg some (by kernel_rfl))
  f20 := ⟨"slices.insertionSortCmpFunc[[]int64]", by decide, func225.trans (congrArg some (by kernel_rfl))⟩
  f21 := ⟨"slices.heapSortCmpFunc[[]int64]", by decide, func226.trans (congrArg some (by kernel_rfl))⟩
  f22 := ⟨"slices.breakPatternsCmpFunc[[]int64]", by decide, func227.trans (congrArg some (by kernel_rfl))⟩
  f23 := ⟨"slices.choosePivotCmpFunc[[]int64]", by decide, func228.trans (congrArg some (by kernel_rfl))⟩
  f24 := ⟨"slices.reverseRangeCmpFunc[[]int64]", by decide, func229.trans (congrArg some (by kernel_rfl))⟩
  f25 := ⟨"slices.partialInsertionSortCmpFunc[[]int64]", by decide, func230.trans (congrArg some (by kernel_rfl))⟩
  f26 := ⟨"slices.partitionEqualCmpFunc[[]int64]", by decide, func231.trans (congrArg some (by kernel_rfl))⟩
  f27 := ⟨"slices.partitionCmpFunc[[]int64]", by decide, func232.trans (congrArg some (by kernel_rfl))⟩
  f28 := func221.trans (congrArg some (by kernel_rfl))
  f29 := func222.trans (congrArg some (by kernel_rfl))
  f46 := ⟨"slices.siftDownCmpFunc[[]int64]", by decide, func239.trans (congrArg some (by kernel_rfl))⟩
  f47 := func235.trans (congrArg some (by kernel_rfl))
  f48 := func236.trans (congrArg some (by kernel_rfl))
  f49 := ⟨"slices.medianAdjacentCmpFunc[[]int64]", by decide, func240.trans (congrArg some (by kernel_rfl))⟩
  f50 := ⟨"slices.medianCmpFunc[[]int64]", by decide, func241.trans (congrArg some (by kernel_rfl))⟩
  f57 := ⟨"slices.order2CmpFunc[[]int64]", by decide, func243.trans (congrArg some (by kernel_rfl))⟩
  t0 := underlying0
  a0 := isAgg0
  z0 := sizeOf0
  v0 := zeroValue0
  t3 := underlying3
  a3 := isAgg3
  z3 := sizeOf3
  v3 := zeroValue3
  t4 := underlying4
  a4 := isAgg4
  z4 := sizeOf4
  v4 := zeroValue4
  t5 := underlying5
  a5 := isAgg5
  z5 := sizeOf5
  v5 := zeroValue5
  t9 := underlying9
  a9 := isAgg9
  z9 := sizeOf9
  v9 := zeroValue9
  t22 := underlying22
  a22 := isAgg22
  z22 := sizeOf22
  v22 := zeroValue22
  a24 := isAgg25
  z24 := sizeOf25
  t25 := underlying115
  a25 := isAgg115
  z25 := sizeOf115
  v25 := zeroValue115
  t39 := underlying153
  a39 := isAgg153
  z39 := sizeOf153
  v39 := zeroValue153
  t45 := underlying191
  a45 := isAgg191
  z45 := sizeOf191
  v45 := zeroValue191
  t46 := underlying192
  a46 := isAgg192
  z46 := sizeOf192
  v46 := zeroValue192
  t50 := underlying113
  a50 := isAgg113
  z50 := sizeOf113
  v50 := zeroValue113
  t53 := underlying198
  a53 := isAgg198
  z53 := sizeOf198
  v53 := zeroValue198
  t55 := underlying200
  a55 := isAgg200
  z55 := sizeOf200
  v55 := zeroValue200
  t66 := underlying209
  a66 := isAgg209
  z66 := sizeOf209
  v66 := zeroValue209
  t70 := underlying213
  a70 := isAgg213
  z70 := sizeOf213
  v70 := zeroValue213
  t76 := underlying217
  a76 := isAgg217
  z76 := sizeOf217
  v76 := zeroValue217
  t77 := underlying218
  a77 := isAgg218
  z77 := sizeOf218
  v77 := zeroValue218
theorem S : Sound prog ⟨186, sig, F⟩ := sort_sound lays ordS_swo ordS_tot
end slices_SortFunc_LLint64_Lint64
namespace slices_CompactFunc_LLint64_Lint64
noncomputable def sig : Sig := compS
noncomputable def F (d : LL × ((LI × LI × Unit) → Option (Bool × Unit)) × Unit) : OQ := compF d
theorem emp (p : Option Addr) (cap : Nat) (fv : Value) (w : World) : Calls prog 187 #[.slice p 0 cap, fv] w fun e w' => e = .returned (.slice p 0 cap) ∧ w' = w := by
  go_enter func187, ntmps187
  go_wp2
  go_ret
  exact ⟨rfl, rfl⟩
open Go.Proofs Go.Shelf Go.RowKit Go.Lib Go.Sort in
set_option maxHeartbeats 16000000 in
set_option maxRecDepth 1000000 in
theorem walk {α : Type} [Inhabited α] (enc : α → Value) (hO : OneCell enc) (eq : α → α → Bool) (zr : α) (hz : enc zr = .slice none 0 0) (g : Nat) (cb : Array Value) (eg : ∀ args w, (callFunc g args).run prog w = .ok (.enter g args) w)
    (blk off cap : Nat) (d : Array α) (w : World) (hcmp : EqLays1 prog g cb enc eq blk off d.size w) (hH : Holds enc w blk off d) (hblk : blk < w.heap.size) (hsz : d.size < 4611686018427387904) (hcap : d.size ≤ cap) (kp : Nat → Bool) (hkp0 : kp 0 = true) (hkp : ∀ j, 0 < j → kp j = !(eq d[j]! d[j - 1]!)) :
    Calls prog 187 #[.slice (some ⟨blk, off, none⟩) d.size cap, .func (.func g) #[] cb] w fun e w' => e = .returned (.slice (some ⟨blk, off, none⟩) (keptUpTo kp d d.size).length cap) ∧ SW enc w blk off (keptUpTo kp d d.size ++ List.replicate (d.size - (keptUpTo kp d d.size).length) zr).toArray w' := by
  have mixed : prog.follows .mixedOrders = true := mixed_ok
  have hcl0 := hO.cells
  simp only [Value.cells] at hcl0
  have hst := hO.store prog
  have R : Row1 enc w blk off d := ⟨hO, hH, hblk⟩
  have HC : Aside (EqLays1 prog g cb enc eq blk off d.size w) := hcmp
  have S0 : Aside (SW enc w blk off d w) := SW.start hH
  have same : ∀ W, SW enc w blk off d W → (∀ j, j < d.size → kp j = true) → (keptUpTo kp d d.size).length = d.size ∧ SW enc w blk off (keptUpTo kp d d.size ++ List.replicate (d.size - (keptUpTo kp d d.size).length) zr).toArray W := by
    intro W hW hall
    have e : keptUpTo kp d d.size = d.toList := by rw [keptUpTo_all kp d _ hall, range_map_get]
    rw [e]
    refine ⟨by simp, ?_⟩
    simpa using hW
  have HS : Aside _ := same
  have K0 : Aside (kp 0 = true) := hkp0
  have K1 : Aside (∀ j, 0 < j → kp j = !(eq d[j]! d[j - 1]!)) := hkp
  clear hcmp same hkp0 hkp hH
  by_cases h2 : d.size < 2
  · go_enter func187, ntmps187
    go_wp2
    go_ret
    obtain ⟨e1, e2⟩ := HS.out _ S0.out (fun j hj => by
      have : j = 0 := by omega
      rw [this]; exact K0.out)
    exact ⟨by rw [e1]; rfl, e2⟩
  · go_enter func187, ntmps187
    go_wp2
    go_loopg [5] d.size (fun g1 s5 wr => ∃ k : Nat, s5 = .int .i64 k ∧ 1 ≤ k ∧ k ≤ d.size ∧ d.size - k ≤ g1 ∧ Aside (SW enc w blk off d wr) ∧ Hid (∀ j, j < k → kp j = true))
    case atStart => exact ⟨1, rfl, Nat.le_refl _, by omega, by omega, S0, fun j hj => by
      have : j = 0 := by omega
      rw [this]; exact K0.out⟩
    case round =>
      clear S0
      obtain ⟨k, rfl, hk1, hk, hg1, S1, HA⟩ := hrel
      by_cases hlt : k < d.size
      · have hltz : (k : Int) < (d.size : Int) := by omega
        obtain ⟨kq, hkq⟩ : ∃ q, q + 1 = k := ⟨k - 1, by omega⟩
        have zk : (k : Int) = (kq : Int) + 1 := by omega
        obtain ⟨iN, hiN⟩ : ∃ q, q = k := ⟨_, rfl⟩
        obtain ⟨jN, hjN⟩ : ∃ q, q = k - 1 := ⟨_, rfl⟩
        have ea : ((kq : Int) + 1).toNat = iN := by omega
        have pa : (0 : Int) ≤ (kq : Int) + 1 := by omega
        have ba : (kq : Int) + 1 < (d.size : Int) := by omega
        have ra : IntKind.i64.wrap ((kq : Int) + 1) = (kq : Int) + 1 := by rw [IntKind.wrap_i64]; omega
        have ec : ((kq : Int)).toNat = jN := by omega
        have pc : (0 : Int) ≤ (kq : Int) := by omega
        have bc : (kq : Int) < (d.size : Int) := by omega
        have rc : IntKind.i64.wrap ((kq : Int)) = (kq : Int) := by rw [IntKind.wrap_i64]; omega
        obtain ⟨x, hx⟩ : ∃ x, x = d[k]! := ⟨_, rfl⟩
        obtain ⟨y, hy⟩ : ∃ x, x = d[k - 1]! := ⟨_, rfl⟩
        have la := S1.out.cl R rfl k (by omega)
        have lb := S1.out.cl R rfl (k - 1) (by omega)
        rw [← hx, ← hiN] at la
        rw [← hy, ← hjN] at lb
        have hc := sw_eql S1.out HC.out rfl x y
        have KK : Aside (kp k = !(eq x y)) := by rw [hx, hy]; exact K1.out k (by omega)
        clear hx hy hiN hjN
        cases hv : eq x y with
        | true =>
          rw [hv] at hc KK
          go_wp2_with fail
          go_quiet_grown (first | (go_at_fn g; refine Calls.grown_of (hc _ _)))
          have S2 : Aside (SW enc w blk off d (grow (wr.drewN nq) osq)) := S1.out.grown nq osq
          clear la lb hc S1
          generalize grow (wr.drewN nq) osq = w2 at S2 ⊢
          clear nq osq
          clear ea ec pa ba ra pc bc rc
          have hzk : (kq : Int) + 1 = (k : Int) := by omega
          clear zk hkq
          simp only [hzk]
          clear hzk
          go_wp2
          go_loopg [5, 7] d.size (fun g2 s5 s7 wr2 => ∃ (kk k2 : Nat) (dk : Array α), s5 = .int .i64 kk ∧ s7 = .int .i64 k2 ∧ 1 ≤ k2 ∧ k + k2 ≤ d.size ∧ d.size - (k + k2) ≤ g2 ∧ Aside (SW enc w blk off dk wr2) ∧ Aside (KeptInv kp d (k + k2) kk dk))
          case atStart => exact ⟨k, 1, d, rfl, rfl, Nat.le_refl _, by omega, by omega, S2, KeptInv.start HA.out (by rw [KK.out]; rfl)⟩
          case round =>
            clear S2 KK HA
            obtain ⟨kk, k2, dk, rfl, rfl, h1, hle, hg2, S3, I2⟩ := hrel
            have hkk := I2.out.lt
            have hds := I2.out.size
            by_cases hlt2 : k + k2 < d.size
            · obtain ⟨kq, hkq⟩ : ∃ q, q + 1 = k2 := ⟨k2 - 1, by omega⟩
              have zk : (k2 : Int) = (kq : Int) + 1 := by omega
              obtain ⟨iN, hiN⟩ : ∃ q, q = k2 := ⟨_, rfl⟩
              obtain ⟨jN, hjN⟩ : ∃ q, q = k2 - 1 := ⟨_, rfl⟩
              have ea : ((kq : Int) + 1).toNat = iN := by omega
              have pa : (0 : Int) ≤ (kq : Int) + 1 := by omega
              have ba : (kq : Int) + 1 < ((d.size - k : Nat) : Int) := by omega
              have ra : IntKind.i64.wrap ((kq : Int) + 1) = (kq : Int) + 1 := by rw [IntKind.wrap_i64]; omega
              have ec : ((kq : Int)).toNat = jN := by omega
              have pc : (0 : Int) ≤ (kq : Int) := by omega
              have bc : (kq : Int) < ((d.size - k : Nat) : Int) := by omega
              have rc : IntKind.i64.wrap ((kq : Int)) = (kq : Int) := by rw [IntKind.wrap_i64]; omega
              obtain ⟨x, hx⟩ : ∃ x, x = d[k + k2]! := ⟨_, rfl⟩
              obtain ⟨y, hy⟩ : ∃ x, x = d[k + k2 - 1]! := ⟨_, rfl⟩
              have la := S3.out.cl R hds (k + k2) (by omega)
              have lb := S3.out.cl R hds (k + k2 - 1) (by omega)
              rw [I2.out.high (k + k2) (by omega), ← hx, show off + (k + k2) = off + k + iN by omega] at la
              rw [I2.out.high (k + k2 - 1) (by omega), ← hy, show off + (k + k2 - 1) = off + k + jN by omega] at lb
              have hc := sw_eql S3.out HC.out hds x y
              have KK : Aside (kp (k + k2) = !(eq x y)) := by rw [hx, hy]; exact K1.out (k + k2) (by omega)
              have XX : Aside (x = d[k + k2]!) := hx
              clear hx hy hiN hjN
              cases hv : eq x y with
              | true =>
                rw [hv] at hc KK
                go_wp2_with fail
                go_quiet_grown (first | (go_at_fn g; refine Calls.grown_of (hc _ _)))
                have S2 : Aside (SW enc w blk off dk (grow (wr.drewN nq) osq)) := S3.out.grown nq osq
                clear la lb hc S3
                generalize grow (wr.drewN nq) osq = w2 at S2 ⊢
                clear nq osq
                clear ea ec
                go_wp2
                go_roundg (d.size - (k + (k2 + 1)))
                case measure => omega
                case rel => exact ⟨kk, k2 + 1, dk, rfl, by go_num, by omega, by omega, Nat.le_refl _, S2, I2.out.skip (by rw [KK.out]; rfl)⟩
              | false =>
                rw [hv] at hc KK
                go_wp2_with fail
                go_quiet_grown (first | (go_at_fn g; refine Calls.grown_of (hc _ _)))
                have S2 : Aside (SW enc w blk off dk (grow (wr.drewN nq) osq)) := S3.out.grown nq osq
                clear la lb hc S3
                generalize grow (wr.drewN nq) osq = w2 at S2 ⊢
                clear nq osq
                clear ea ec pa ba ra pc bc rc
                have hzk : (kq : Int) + 1 = (k2 : Int) := by omega
                clear zk hkq
                simp only [hzk]
                clear hzk
                have cm := S2.out.c1 R hds (k + k2) (by omega)
                have ck := S2.out.c1 R hds kk (by omega)
                have fk := S2.out.f1 R hds kk (by omega)
                rw [I2.out.high (k + k2) (by omega), ← XX.out, show off + (k + k2) = off + k + k2 by omega] at cm
                generalize dk[kk]! = old at ck
                have hlz : (k2 : Int) < ((d.size - k : Nat) : Int) := by omega
                go_wp2
                go_roundg (d.size - (k + (k2 + 1)))
                case measure => omega
                case rel => exact ⟨kk + 1, k2 + 1, dk.setIfInBounds kk x, by go_num, by go_num, by omega, by omega, Nat.le_refl _, sw_set S2.out hblk kk x (by omega), (by have := I2.out.keep hlt2 (by rw [KK.out]; rfl); rwa [← XX.out] at this)⟩
            · have hend : k + k2 = d.size := by omega
              have hcl : ∀ ty, (Builtin.clear_ #[22] ty #[.slice (some ⟨blk, off + kk, none⟩) (d.size - kk) (cap - kk)]).run prog wr = .ok (.tuple #[]) (wr.setCells blk (off + kk) (List.replicate (d.size - kk) (enc zr))) :=
                fun ty => Lib.run_clear_slice wr _ _ ty _ underlying22 (fun w => by rw [hz]; exact zeroValue25 w) (hO.cells zr) (hO zr) blk (off + kk) _ _ (by omega) (fun j hj => by rw [show off + kk + j = off + (kk + j) by omega, S3.out.c1 R hds (kk + j) (by omega)]; rfl) (fun j hj => by rw [show off + kk + j = off + (kk + j) by omega]; exact S3.out.f1 R hds (kk + j) (by omega))
              go_wp2
              go_ret
              have hI := I2.out
              rw [hend] at hI
              refine ⟨by rw [hI.len]; rfl, ?_⟩
              rw [hI.len, ← hI.done zr]
              have := sw_lay hblk (List.replicate (d.size - kk) zr) dk _ kk S3.out (by simp; omega)
              rw [List.map_replicate, hz] at this
              exact this
        | false =>
          rw [hv] at hc KK
          go_wp2_with fail
          go_quiet_grown (first | (go_at_fn g; refine Calls.grown_of (hc _ _)))
          have S2 : Aside (SW enc w blk off d (grow (wr.drewN nq) osq)) := S1.out.grown nq osq
          clear la lb hc S1
          generalize grow (wr.drewN nq) osq = w2 at S2 ⊢
          clear nq osq
          clear ea ec
          go_wp2
          go_roundg (d.size - (k + 1))
          case measure => omega
          case rel =>
            refine ⟨k + 1, by go_num, by omega, by omega, Nat.le_refl _, S2, fun j hj => ?_⟩
            by_cases e : j = k
            · subst e; exact KK.out
            · exact HA.out j (by omega)
      · have : k = d.size := by omega
        subst this
        go_wp2
        go_ret
        obtain ⟨e1, e2⟩ := HS.out _ S1.out HA.out
        exact ⟨by rw [e1]; rfl, e2⟩
theorem S : Sound prog ⟨187, sig, F⟩ := comp_sound ⟨⟨_, func187, by kernel_rfl, by kernel_rfl⟩, emp, walk⟩
end slices_CompactFunc_LLint64_Lint64
namespace impl_inOrder
noncomputable def sig : Sig := ⟨[.val false tQ], [(.val true, tQ, .deep)]⟩
noncomputable def ctx : Ctx := ⟨tabOf tabl, [⟨185, impl_copyLists.sig, impl_copyLists.F⟩, ⟨186, slices_SortFunc_LLint64_Lint64.sig, slices_SortFunc_LLint64_Lint64.F⟩, ⟨187, slices_CompactFunc_LLint64_Lint64.sig, slices_CompactFunc_LLint64_Lint64.F⟩], [impl_compareSimplices.clo, slices_Equal_Lint64_int64.clo], [], [], []⟩
noncomputable def cfg : Cfg := ⟨ctx, [], [], fun _ => ([], []), fun _ => []⟩
noncomputable def code : Code := (f151).body.getD .skip
noncomputable def fin := finK ctx sig [.cell 2 31]
noncomputable def F (d : LL × Unit) : OQ := anyK (runFn cfg fin code (initSt sig.ps d 11))
variable (list_1 : LL)
noncomputable def T : OQ := (impl_copyLists.F (list_1, ())).bind fun r2 => (slices_SortFunc_LLint64_Lint64.F (r2.1.1, impl_compareSimplices.cloG (()), ())).bind fun r3 => (slices_CompactFunc_LLint64_Lint64.F (r3.2.1, slices_Equal_Lint64_int64.cloG (()), ())).bind fun r4 => some ((r4.1.1, ()), ())
theorem eq : F (list_1, ()) = T list_1 := eq_any fun k => by kernel_rfl
theorem ok : CtxOK prog ctx := ⟨nilM, mixed_ok, tab_ok tab_good, consM ⟨impl_copyLists.S, consM ⟨slices_SortFunc_LLint64_Lint64.S, consM ⟨slices_CompactFunc_LLint64_Lint64.S, nilM⟩⟩⟩, consM ⟨impl_compareSimplices.cloS, consM ⟨slices_Equal_Lint64_int64.cloS, nilM⟩⟩, nilM⟩
theorem S : Sound prog ⟨151, sig, F⟩ := sound_k (res := [.cell 2 31]) func151 ok
end impl_inOrder
namespace impl_copyMatrix
noncomputable def sig : Sig := ⟨[.val true TMatrix], [(.val true, TMatrix, .deep)]⟩
noncomputable def ctx : Ctx := ⟨tabOf tabl, [⟨98, slices_Clone_Lint64_int64.sig, slices_Clone_Lint64_int64.F⟩], [], [], [], []⟩
noncomputable def cfg : Cfg := ⟨ctx, [], [], fun _ => ([], []), fun _ => []⟩
noncomputable def code : Code := (f172).body.getD .skip
noncomputable def fin := finK ctx sig [.cell 2 86]
noncomputable def F (d : MX × Unit) : OM := anyK (runFn cfg fin code (initSt sig.ps d 8))
variable (m_1 m_2 m_3 : Int) (m_4 : LI)
noncomputable def T : OM := (slices_Clone_Lint64_int64.F (m_4, ())).bind fun r5 => some (((m_1, (m_2, (m_3, r5.1.1))), ()), ())
theorem eq : F ((m_1, (m_2, (m_3, m_4))), ()) = T m_1 m_2 m_3 m_4 := eq_any fun k => by kernel_rfl
theorem ok : CtxOK prog ctx := ⟨nilM, mixed_ok, tab_ok tab_good, consM ⟨slices_Clone_Lint64_int64.S, nilM⟩, nilM, nilM⟩
theorem S : Sound prog ⟨172, sig, F⟩ := sound_k (res := [.cell 2 86]) func172 ok
end impl_copyMatrix
namespace impl_sheafOf
noncomputable def sig : Sig := ⟨[.val true tQ, .val false tI, .val false tL, .fnx ⟨[(true, TEdge)], [(.val true, TMatrix, .deep)]⟩], [(.val true, TSheaf, .deep)]⟩
noncomputable def ctx : Ctx := ⟨tabOf tabl, [⟨98, slices_Clone_Lint64_int64.sig, slices_Clone_Lint64_int64.F⟩, ⟨151, impl_inOrder.sig, impl_inOrder.F⟩, ⟨160, impl_arrows.sig, impl_arrows.F⟩, ⟨172, impl_copyMatrix.sig, impl_copyMatrix.F⟩], [], [], [], []⟩
noncomputable def cfg : Cfg := ⟨ctx, [], [], fun id => match id with | 3 => ([3, 8, 9, 20, 21, 22], [32, 36, 80]) | _ => ([], []), fun _ => []⟩
noncomputable def code : Code := (f136).body.getD .skip
noncomputable def fin := finK ctx sig [.cell 8 34]
noncomputable def F (d : LL × Int × LI × (((Int × Int × Int) × Unit) → Option (MX × Unit)) × Unit) : OS := anyK (runFn cfg fin code (initSt sig.ps d 37))
variable (k : Nat) (f8 : ((Int × Int × Int) × Unit) → Option (MX × Unit)) (i9 i10 : Int) (x11 : LL) (i12 : Int) (x13 : LI) (x14 : LM) (x15 : LL) (i16 : Int) (x17 : LI) (x18 : LM) (x19 : List (Int × Int × Int))
noncomputable def l3 : OS := Go.Vm.runT cfg fin k [.inLoop (sub [1, 1, 0, 1, 0, 0] code), .inBlock 0, .code (sub [1, 1, 1] code)] ⟨[.dead, .dead, .dead, .fnx ⟨[(true, TEdge)], [(.val true, TMatrix, .deep)]⟩ f8, .dead, .dead, .dead, .dead, .ref 32 (.root 0), .ref 36 (.root 0), .dead, .dead, .dead, .dead, .dead, .dead, .dead, .dead, .dead, .dead, .view 80 (.root 0) 1 false, vI i9, vI i10] ++ deads 14, [(32, ⟨true, [dQ x11, cI i12, dL x13, ⟨(.sl TMatrix), .deep, x14⟩]⟩), (36, ⟨true, [dQ x15, cI i16, dL x17, ⟨(.sl TMatrix), .deep, x18⟩]⟩), (80, ⟨false, [⟨(.sl TEdge), .deep, x19⟩]⟩)]⟩
theorem l3_eq : l3 (k + 1) f8 i9 i10 x11 i12 x13 x14 x15 i16 x17 x18 x19 = if (decide (i10 < i9)) = true then if 0 ≤ i10 ∧ i10 < (x19.length : Int) then (f8 (x19.getD i10.toNat (0, 0, 0), ())).bind fun r20 => (impl_copyMatrix.F (r20.1, ())).bind fun r21 => if x18.length + ([r21.1.1] : LM).length ≤ bigA then l3 k f8 i9 (IntKind.i64.wrap (i10 + (1 : Int))) x11 i12 x13 x14 x15 i16 x17 (x18 ++ ([r21.1.1])) x19 else none else none else some (((x15, (i16, (x17, x18))), ()), ()) := by kernel_rfl
variable (c_1 : LL) (p_2 : Int) (stalks_3 : LI) (f_4 : ((Int × Int × Int) × Unit) → Option (MX × Unit))
noncomputable def T : OS := (impl_inOrder.F (c_1, ())).bind fun r5 => (slices_Clone_Lint64_int64.F (stalks_3, ())).bind fun r6 => (impl_arrows.F (c_1, ())).bind fun r7 => l3 k f_4 (r7.1.1.length : Int) (0 : Int) ([]) 0 ([]) ([]) r5.1.1 p_2 r6.1.1 ([]) r7.1.1
theorem of {r : (SF × Unit) × (Unit)} (h : Ev (fun k => T k c_1 p_2 stalks_3 f_4) r) : F (c_1, p_2, stalks_3, f_4, ()) = some r := Ev.run (fun k => by kernel_rfl) h
theorem ok : CtxOK prog ctx := ⟨nilM, mixed_ok, tab_ok tab_good, consM ⟨slices_Clone_Lint64_int64.S, consM ⟨impl_inOrder.S, consM ⟨impl_arrows.S, consM ⟨impl_copyMatrix.S, nilM⟩⟩⟩⟩, nilM, nilM⟩
theorem S : Sound prog ⟨136, sig, F⟩ := sound_k (res := [.cell 8 34]) func136 ok
end impl_sheafOf
namespace impl_unit_1
noncomputable def sig : Sig := ⟨[.val false tI, .val false tI], [(.val false, tI, .deep)]⟩
noncomputable def ctx : Ctx := ⟨tabOf tabl, [], [], [], [], []⟩
noncomputable def cfg : Cfg := ⟨ctx, [], [], fun _ => ([], []), fun _ => []⟩
noncomputable def code : Code := (f198).body.getD .skip
noncomputable def fin := finK ctx sig [.tmp 4]
noncomputable def F (d : Int × Int × Unit) : OI := anyK (runFn cfg fin code (initSt sig.ps d 8))
variable (i_1 j_2 : Int)
noncomputable def T : OI := if (i_1 == j_2) = true then some (((1 : Int), ()), ()) else some (((0 : Int), ()), ())
theorem eq : F (i_1, j_2, ()) = T i_1 j_2 := eq_any fun k => by kernel_rfl
theorem ok : CtxOK prog ctx := ⟨nilM, mixed_ok, tab_ok tab_good, nilM, nilM, nilM⟩
theorem S : Sound prog ⟨198, sig, F⟩ := sound_k (res := [.tmp 4]) func198 ok
noncomputable def cloG (y : Unit) (d : Int × Int × Unit) : Option (Int × Unit) := (F (joinIns [] [(false, tI), (false, tI)] d y)).map (·.1)
noncomputable def clo : Clo := ⟨198, ⟨[(false, tI), (false, tI)], [(.val false, tI, .deep)]⟩, [], cloG⟩
theorem cloS : SoundClo prog clo := sound_clo (s := ⟨[(false, tI), (false, tI)], [(.val false, tI, .deep)]⟩) (caps := []) rfl S
end impl_unit_1
namespace impl_unit
noncomputable def sig : Sig := ⟨[.val false tI, .val false tI], [(.val true, TMatrix, .deep)]⟩
noncomputable def ctx : Ctx := ⟨tabOf tabl, [⟨152, impl_filled.sig, impl_filled.F⟩], [impl_unit_1.clo], [], [], []⟩
noncomputable def cfg : Cfg := ⟨ctx, [], [], fun _ => ([], []), fun _ => []⟩
noncomputable def code : Code := (f173).body.getD .skip
noncomputable def fin := finK ctx sig [.cell 4 86]
noncomputable def F (d : Int × Int × Unit) : OM := anyK (runFn cfg fin code (initSt sig.ps d 9))
variable (p_1 n_2 : Int)
noncomputable def T : OM := (impl_filled.F (p_1, n_2, n_2, impl_unit_1.cloG (()), ())).bind fun r3 => some ((r3.1.1, ()), ())
theorem eq : F (p_1, n_2, ()) = T p_1 n_2 := eq_any fun k => by kernel_rfl
theorem ok : CtxOK prog ctx := ⟨nilM, mixed_ok, tab_ok tab_good, consM ⟨impl_filled.S, nilM⟩, consM ⟨impl_unit_1.cloS, nilM⟩, nilM⟩
theorem S : Sound prog ⟨173, sig, F⟩ := sound_k (res := [.cell 4 86]) func173 ok
end impl_unit
namespace slices_Contains_Lint64_int64
noncomputable def sig : Sig := ⟨[.val false tL, .val false tI], [(.val false, .bool, .deep)]⟩
noncomputable def ctx : Ctx := ⟨tabOf tabl, [⟨169, slices_Index_Lint64_int64.sig, slices_Index_Lint64_int64.F⟩], [], [], [], []⟩
noncomputable def cfg : Cfg := ⟨ctx, [], [], fun _ => ([], []), fun _ => []⟩
noncomputable def code : Code := (f175).body.getD .skip
noncomputable def fin := finK ctx sig [.tmp 4]
noncomputable def F (d : LI × Int × Unit) : OB := anyK (runFn cfg fin code (initSt sig.ps d 9))
variable (s_1 : LI) (v_2 : Int)
noncomputable def T : OB := (slices_Index_Lint64_int64.F (s_1, v_2, ())).bind fun r3 => some ((decide ((r3.1.1 : Int) ≥ (0 : Int)), ()), ())
theorem eq : F (s_1, v_2, ()) = T s_1 v_2 := eq_any fun k => by kernel_rfl
theorem ok : CtxOK prog ctx := ⟨nilM, mixed_ok, tab_ok tab_good, consM ⟨slices_Index_Lint64_int64.S, nilM⟩, nilM, nilM⟩
theorem S : Sound prog ⟨175, sig, F⟩ := sound_k (res := [.tmp 4]) func175 ok
end slices_Contains_Lint64_int64
namespace impl_restriction_1
noncomputable def sig : Sig := ⟨[.val false tI, .rptr tL], [(.val false, .bool, .deep)]⟩
noncomputable def ctx : Ctx := ⟨tabOf tabl, [⟨175, slices_Contains_Lint64_int64.sig, slices_Contains_Lint64_int64.F⟩], [], [], [], []⟩
noncomputable def cfg : Cfg := ⟨ctx, [], [], fun _ => ([], []), fun _ => []⟩
noncomputable def code : Code := (f174).body.getD .skip
noncomputable def fin := finK ctx sig [.tmp 3]
noncomputable def F (d : Int × LI × Unit) : OB := anyK (runFn cfg fin code (initSt sig.ps d 8))
variable (v_1 : Int) (a_2 : LI)
noncomputable def T : OB := (slices_Contains_Lint64_int64.F (a_2, v_1, ())).bind fun r3 => some ((!(r3.1.1 : Bool), ()), ())
theorem eq : F (v_1, a_2, ()) = T v_1 a_2 := eq_any fun k => by kernel_rfl
theorem ok : CtxOK prog ctx := ⟨nilM, mixed_ok, tab_ok tab_good, consM ⟨slices_Contains_Lint64_int64.S, nilM⟩, nilM, nilM⟩
theorem S : Sound prog ⟨174, sig, F⟩ := sound_k (res := [.tmp 3]) func174 ok
noncomputable def cloG (y : LI × Unit) (d : Int × Unit) : Option (Bool × Unit) := (F (joinIns [.rptr tL] [(false, tI)] d y)).map (·.1)
noncomputable def clo : Clo := ⟨174, ⟨[(false, tI)], [(.val false, .bool, .deep)]⟩, [.rptr tL], cloG⟩
theorem cloS : SoundClo prog clo := sound_clo (s := ⟨[(false, tI)], [(.val false, .bool, .deep)]⟩) (caps := [.rptr tL]) rfl S
end impl_restriction_1
namespace impl_restriction
noncomputable def sig : Sig := ⟨[.val true TSheaf, .val false tI, .val false tI], [(.val true, TMatrix, .deep)]⟩
noncomputable def ctx (self : (SF × Int × Int × Unit) → OM) : Ctx := ⟨tabOf tabl, [⟨107, impl_faceIndices.sig, impl_faceIndices.F⟩, ⟨108, impl_direct.sig, impl_direct.F⟩, ⟨144, slices_IndexFunc_Lint64_int64.sig, slices_IndexFunc_Lint64_int64.F⟩, ⟨162, impl_product.sig, impl_product.F⟩, ⟨173, impl_unit.sig, impl_unit.F⟩, ⟨138, sig, self⟩], [impl_restriction_1.clo], [], [], []⟩
noncomputable def cfg (self : (SF × Int × Int × Unit) → OM) : Cfg := ⟨(ctx self), [], [], fun _ => ([], []), fun _ => []⟩
noncomputable def code : Code := (f138).body.getD .skip
noncomputable def fin (self : (SF × Int × Int × Unit) → OM) := finK (ctx self) sig [.cell 6 86]
noncomputable def step (self : (SF × Int × Int × Unit) → OM) (d : SF × Int × Int × Unit) : OM := anyK (runFn (cfg self) (fin self) code (initSt sig.ps d 51))
variable (self : (SF × Int × Int × Unit) → OM) (s_1 : LL) (s_2 : Int) (s_3 : LI) (s_4 : LM) (face_5 simplex_6 : Int)
noncomputable def T : OM := if (face_5 == simplex_6) = true then if 0 ≤ face_5 ∧ face_5 < (s_3.length : Int) then (impl_unit.F (s_2, (s_3.getD face_5.toNat 0 : Int), ())).bind fun r7 => some ((r7.1.1, ()), ()) else none else if 0 ≤ face_5 ∧ face_5 < (s_1.length : Int) then if 0 ≤ simplex_6 ∧ simplex_6 < (s_1.length : Int) then (slices_IndexFunc_Lint64_int64.F (s_1.getD simplex_6.toNat ([] : LI), impl_restriction_1.cloG (s_1.getD face_5.toNat ([] : LI), ()), ())).bind fun r8 => (impl_faceIndices.F (s_1, simplex_6, ())).bind fun r9 => if 0 ≤ (r8.1.1 : Int) ∧ (r8.1.1 : Int) < (r9.1.1.length : Int) then (impl_direct.F ((s_1, (s_2, (s_3, s_4))), simplex_6, (r8.1.1 : Int), ())).bind fun r10 => (self ((s_1, (s_2, (s_3, s_4))), face_5, r9.1.1.getD (r8.1.1 : Int).toNat 0, ())).bind fun r11 => (impl_product.F (r10.1.1, r11.1.1, ())).bind fun r12 => some ((r12.1.1, ()), ()) else none else none else none
theorem run (self : (SF × Int × Int × Unit) → OM) (k : Nat) (s_1 : LL) (s_2 : Int) (s_3 : LI) (s_4 : LM) (face_5 simplex_6 : Int) : runFn (cfg self) (fin self) code (initSt sig.ps ((s_1, (s_2, (s_3, s_4))), face_5, simplex_6, ()) 51) k = T self s_1 s_2 s_3 s_4 face_5 simplex_6 := by kernel_rfl
theorem eq : step self ((s_1, (s_2, (s_3, s_4))), face_5, simplex_6, ()) = T self s_1 s_2 s_3 s_4 face_5 simplex_6 := (congrArg anyK (funext fun k => run self k s_1 s_2 s_3 s_4 face_5 simplex_6)).trans (anyK_const _)
theorem ok (self : (SF × Int × Int × Unit) → OM) (hs : Sound prog ⟨138, sig, self⟩) : CtxOK prog (ctx self) := ⟨nilM, mixed_ok, tab_ok tab_good, consM ⟨impl_faceIndices.S, consM ⟨impl_direct.S, consM ⟨slices_IndexFunc_Lint64_int64.S, consM ⟨impl_product.S, consM ⟨impl_unit.S, consM ⟨hs, nilM⟩⟩⟩⟩⟩⟩, consM ⟨impl_restriction_1.cloS, nilM⟩, nilM⟩
theorem stepS (self : (SF × Int × Int × Unit) → OM) (hs : Sound prog ⟨138, sig, self⟩) : Sound prog ⟨138, sig, step self⟩ := sound_any (fn := f138) (code := code) (g := cfg self) (res := [.cell 6 86]) func138 (by kernel_rfl) (by kernel_rfl) (ok self hs) (by kernel_rfl) (by kernel_rfl) (Nat.le_of_ble_eq_true (by kernel_rfl)) (by kernel_rfl)
noncomputable def R : Nat → (SF × Int × Int × Unit) → OM := recF step
noncomputable def F (d : SF × Int × Int × Unit) : OM := anyE fun q => R q d
theorem ofR {d : SF × Int × Int × Unit} {r : (MX × Unit) × (Unit)} (h : Ev (fun q => R q d) r) : F d = some r := anyE_of h
theorem S : Sound prog ⟨138, sig, F⟩ := sound_rec ⟨_, func138, by kernel_rfl, by kernel_rfl⟩ fun self h => stepS self h
end impl_restriction
namespace impl_pulled_1
noncomputable def sig : Sig := ⟨[.val true TEdge, .rptr TSheaf, .rptr tL], [(.val true, TMatrix, .deep)]⟩
noncomputable def ctx : Ctx := ⟨tabOf tabl, [⟨138, impl_restriction.sig, impl_restriction.F⟩], [], [], [], []⟩
noncomputable def cfg : Cfg := ⟨ctx, [], [], fun _ => ([], []), fun _ => []⟩
noncomputable def code : Code := (f137).body.getD .skip
noncomputable def fin := finK ctx sig [.cell 4 86]
noncomputable def F (d : (Int × Int × Int) × SF × LI × Unit) : OM := anyK (runFn cfg fin code (initSt sig.ps d 17))
noncomputable def T (a_1 a_2 a_3 : Int) (a_4 : LL) (a_5 : Int) (a_6 : LI) (a_7 : LM) (a_8 : LI) : OM := if 0 ≤ a_3 ∧ a_3 < (a_8.length : Int) then if 0 ≤ a_1 ∧ a_1 < (a_8.length : Int) then (impl_restriction.F ((a_4, (a_5, (a_6, a_7))), (a_8.getD a_3.toNat 0 : Int), (a_8.getD a_1.toNat 0 : Int), ())).bind fun r9 => some ((r9.1.1, ()), ()) else none else none
theorem eq (a_1 a_2 a_3 : Int) (a_4 : LL) (a_5 : Int) (a_6 : LI) (a_7 : LM) (a_8 : LI) : F ((a_1, (a_2, a_3)), (a_4, (a_5, (a_6, a_7))), a_8, ()) = T a_1 a_2 a_3 a_4 a_5 a_6 a_7 a_8 := eq_any fun k => by kernel_rfl
theorem ok : CtxOK prog ctx := ⟨nilM, mixed_ok, tab_ok tab_good, consM ⟨impl_restriction.S, nilM⟩, nilM, nilM⟩
theorem S : Sound prog ⟨137, sig, F⟩ := sound_k (res := [.cell 4 86]) func137 ok
noncomputable def cloG (y : SF × LI × Unit) (d : (Int × Int × Int) × Unit) : Option (MX × Unit) := (F (joinIns [.rptr TSheaf, .rptr tL] [(true, TEdge)] d y)).map (·.1)
noncomputable def clo : Clo := ⟨137, ⟨[(true, TEdge)], [(.val true, TMatrix, .deep)]⟩, [.rptr TSheaf, .rptr tL], cloG⟩
theorem cloS : SoundClo prog clo := sound_clo (s := ⟨[(true, TEdge)], [(.val true, TMatrix, .deep)]⟩) (caps := [.rptr TSheaf, .rptr tL]) rfl S
end impl_pulled_1
namespace impl_pulled
noncomputable def sig : Sig := ⟨[.val true TSheaf, .val true tQ, .val false tL], [(.val true, TSheaf, .deep)]⟩
noncomputable def ctx : Ctx := ⟨tabOf tabl, [⟨57, impl_indexOf.sig, impl_indexOf.F⟩, ⟨135, impl_imageOf.sig, impl_imageOf.F⟩, ⟨136, impl_sheafOf.sig, impl_sheafOf.F⟩], [impl_pulled_1.clo], [], [], []⟩
noncomputable def cfg : Cfg := ⟨ctx, [], [], fun id => match id with | 3 => ([2, 3, 4, 6, 7, 8, 13, 14, 15], [12, 16, 24, 28, 32]) | _ => ([], []), fun _ => []⟩
noncomputable def code : Code := (f82).body.getD .skip
noncomputable def fin := finK ctx sig [.cell 6 34]
noncomputable def F (d : SF × LL × LI × Unit) : OS := anyK (runFn cfg fin code (initSt sig.ps d 45))
variable (k : Nat) (x7 : LI) (x8 : LL) (i9 i10 : Int) (x11 : LL) (i12 : Int) (x13 : LI) (x14 : LM) (x15 x16 : LL) (i17 : Int) (x18 : LI) (x19 : LM) (x20 x21 : LI)
noncomputable def l3 : OS := Go.Vm.runT cfg fin k [.inLoop (sub [1, 1, 0, 1, 0, 0] code), .inBlock 0, .code (sub [1, 1, 1] code)] ⟨[.dead, .dead, vL x7, .ref 12 (.root 0), .ref 16 (.root 0), .dead, .ref 24 (.root 0), .ref 28 (.root 0), .view 32 (.root 0) 1 false, .dead, .dead, .dead, .dead, vQ x8, vI i9, vI i10] ++ deads 29, [(12, ⟨true, [cQ x11, cI i12, cL x13, ⟨(.sl TMatrix), .sh, x14⟩]⟩), (16, ⟨true, [cQ x15]⟩), (24, ⟨true, [dQ x16, cI i17, dL x18, ⟨(.sl TMatrix), .deep, x19⟩]⟩), (28, ⟨true, [dL x20]⟩), (32, ⟨false, [dL x21]⟩)]⟩
theorem l3_eq : l3 (k + 1) x7 x8 i9 i10 x11 i12 x13 x14 x15 x16 i17 x18 x19 x20 x21 = if (decide (i10 < i9)) = true then if 0 ≤ i10 ∧ i10 < (x8.length : Int) then (impl_imageOf.F (x15, x7, x8.getD i10.toNat ([] : LI), ())).bind fun r22 => (impl_indexOf.F (x11, r22.1.1, ())).bind fun r23 => if x20.length + ([(r23.1.1 : Int)] : LI).length ≤ bigA then if 0 ≤ (r23.1.1 : Int) ∧ (r23.1.1 : Int) < (x13.length : Int) then if x21.length + ([x13.getD (r23.1.1 : Int).toNat 0] : LI).length ≤ bigA then l3 k x7 x8 i9 (IntKind.i64.wrap (i10 + (1 : Int))) x11 i12 x13 x14 x15 x16 i17 x18 x19 (x20 ++ ([(r23.1.1 : Int)])) (x21 ++ ([x13.getD (r23.1.1 : Int).toNat 0])) else none else none else none else none else (impl_sheafOf.F (x15, i12, x21, impl_pulled_1.cloG ((x11, (i12, (x13, x14))), x20, ()), ())).bind fun r24 => some ((r24.1.1, ()), ()) := by kernel_rfl
variable (s_1 : LL) (s_2 : Int) (s_3 : LI) (s_4 : LM) (c_5 : LL) (images_6 : LI)
noncomputable def T : OS := l3 k images_6 c_5 (c_5.length : Int) (0 : Int) s_1 s_2 s_3 s_4 c_5 ([]) 0 ([]) ([]) ([] : LI) ([])
theorem of {r : (SF × Unit) × (Unit)} (h : Ev (fun k => T k s_1 s_2 s_3 s_4 c_5 images_6) r) : F ((s_1, (s_2, (s_3, s_4))), c_5, images_6, ()) = some r := Ev.run (fun k => by kernel_rfl) h
theorem ok : CtxOK prog ctx := ⟨nilM, mixed_ok, tab_ok tab_good, consM ⟨impl_indexOf.S, consM ⟨impl_imageOf.S, consM ⟨impl_sheafOf.S, nilM⟩⟩⟩, consM ⟨impl_pulled_1.cloS, nilM⟩, nilM⟩
theorem S : Sound prog ⟨82, sig, F⟩ := sound_k (res := [.cell 6 34]) func82 ok
end impl_pulled
namespace impl_restricted
noncomputable def sig : Sig := ⟨[.val true TSheaf, .val true tQ], [(.val true, TSheaf, .deep)]⟩
noncomputable def ctx : Ctx := ⟨tabOf tabl, [⟨56, impl_verticesOf.sig, impl_verticesOf.F⟩, ⟨82, impl_pulled.sig, impl_pulled.F⟩], [], [], [], []⟩
noncomputable def cfg : Cfg := ⟨ctx, [], [], fun _ => ([], []), fun _ => []⟩
noncomputable def code : Code := (f39).body.getD .skip
noncomputable def fin := finK ctx sig [.cell 4 34]
noncomputable def F (d : SF × LL × Unit) : OS := anyK (runFn cfg fin code (initSt sig.ps d 10))
variable (s_1 : LL) (s_2 : Int) (s_3 : LI) (s_4 : LM) (part_5 : LL)
noncomputable def T : OS := (impl_verticesOf.F (part_5, ())).bind fun r6 => (impl_pulled.F ((s_1, (s_2, (s_3, s_4))), part_5, r6.1.1, ())).bind fun r7 => some ((r7.1.1, ()), ())
theorem eq : F ((s_1, (s_2, (s_3, s_4))), part_5, ()) = T s_1 s_2 s_3 s_4 part_5 := eq_any fun k => by kernel_rfl
theorem ok : CtxOK prog ctx := ⟨nilM, mixed_ok, tab_ok tab_good, consM ⟨impl_verticesOf.S, consM ⟨impl_pulled.S, nilM⟩⟩, nilM, nilM⟩
theorem S : Sound prog ⟨39, sig, F⟩ := sound_k (res := [.cell 4 34]) func39 ok
end impl_restricted
namespace impl_RestrictSheaf
noncomputable def sig : Sig := ⟨[.val true TSheaf, .val true tQ], [(.val true, TSheaf, .deep), (.val false, tI, .deep)]⟩
noncomputable def ctx : Ctx := ⟨tabOf tabl, [⟨38, impl_parted.sig, impl_parted.F⟩, ⟨39, impl_restricted.sig, impl_restricted.F⟩], [], [], [], []⟩
noncomputable def cfg : Cfg := ⟨ctx, [], [], fun _ => ([], []), fun _ => []⟩
noncomputable def code : Code := (f12).body.getD .skip
noncomputable def fin := finK ctx sig [.cell 4 34, .tmp 5]
noncomputable def F (d : SF × LL × Unit) : Option ((SF × Int × Unit) × (Unit)) := anyK (runFn cfg fin code (initSt sig.ps d 17))
variable (s_1 : LL) (s_2 : Int) (s_3 : LI) (s_4 : LM) (part_5 : LL)
noncomputable def T : Option ((SF × Int × Unit) × (Unit)) := (impl_parted.F ((s_1, (s_2, (s_3, s_4))), part_5, ())).bind fun r6 => if ((r6.1.1 : Int) != (0 : Int)) = true then some ((([], (0, ([], []))), ((r6.1.1 : Int), ())), ()) else (impl_restricted.F ((s_1, (s_2, (s_3, s_4))), part_5, ())).bind fun r7 => some ((r7.1.1, ((0 : Int), ())), ())
theorem eq : F ((s_1, (s_2, (s_3, s_4))), part_5, ()) = T s_1 s_2 s_3 s_4 part_5 := eq_any fun k => by kernel_rfl
theorem ok : CtxOK prog ctx := ⟨nilM, mixed_ok, tab_ok tab_good, consM ⟨impl_parted.S, consM ⟨impl_restricted.S, nilM⟩⟩, nilM, nilM⟩
theorem S : Sound prog ⟨12, sig, F⟩ := sound_k (res := [.cell 4 34, .tmp 5]) func12 ok
end impl_RestrictSheaf
namespace laws_eqInt64S
noncomputable def sig : Sig := ⟨[.val false tL, .val false tL], [(.val false, .bool, .deep)]⟩
noncomputable def ctx : Ctx := ⟨tabOf tabl, [], [], [], [], []⟩
noncomputable def cfg : Cfg := ⟨ctx, [], [], fun id => match id with | 4 => ([0, 1, 5], []) | _ => ([], []), fun _ => []⟩
noncomputable def code : Code := (f21).body.getD .skip
noncomputable def fin := finK ctx sig [.tmp 4]
noncomputable def F (d : LI × LI × Unit) : OB := anyK (runFn cfg fin code (initSt sig.ps d 26))
variable (k : Nat) (x3 x4 : LI) (i5 : Int)
noncomputable def l4 : OB := Go.Vm.runT cfg fin k [.inLoop (sub [1, 1, 0, 1, 0, 0] code), .inBlock 0, .code (sub [1, 1, 1] code)] ⟨[vL x3, vL x4, .dead, .dead, .dead, vI i5] ++ deads 20, []⟩
theorem l4_eq : l4 (k + 1) x3 x4 i5 = if (decide (i5 < (x3.length : Int))) = true then if 0 ≤ i5 ∧ i5 < (x3.length : Int) then if 0 ≤ i5 ∧ i5 < (x4.length : Int) then if ((x3.getD i5.toNat 0 : Int) != (x4.getD i5.toNat 0 : Int)) = true then some ((false, ()), ()) else l4 k x3 x4 (IntKind.i64.wrap (i5 + (1 : Int))) else none else none else some ((true, ()), ()) := by kernel_rfl
variable (a_1 b_2 : LI)
noncomputable def T : OB := if ((a_1.length : Int) != (b_2.length : Int)) = true then some ((false, ()), ()) else l4 k a_1 b_2 (0 : Int)
theorem of {r : (Bool × Unit) × (Unit)} (h : Ev (fun k => T k a_1 b_2) r) : F (a_1, b_2, ()) = some r := Ev.run (fun k => by kernel_rfl) h
theorem ok : CtxOK prog ctx := ⟨nilM, mixed_ok, tab_ok tab_good, nilM, nilM, nilM⟩
theorem S : Sound prog ⟨21, sig, F⟩ := sound_k (res := [.tmp 4]) func21 ok
end laws_eqInt64S
namespace laws_eqInt64SS
noncomputable def sig : Sig := ⟨[.val false tQ, .val false tQ], [(.val false, .bool, .deep)]⟩
noncomputable def ctx : Ctx := ⟨tabOf tabl, [⟨21, laws_eqInt64S.sig, laws_eqInt64S.F⟩], [], [], [], []⟩
noncomputable def cfg : Cfg := ⟨ctx, [], [], fun id => match id with | 4 => ([0, 1, 5], []) | _ => ([], []), fun _ => []⟩
noncomputable def code : Code := (f41).body.getD .skip
noncomputable def fin := finK ctx sig [.tmp 4]
noncomputable def F (d : LL × LL × Unit) : OB := anyK (runFn cfg fin code (initSt sig.ps d 27))
variable (k : Nat) (x3 x4 : LL) (i5 : Int)
noncomputable def l4 : OB := Go.Vm.runT cfg fin k [.inLoop (sub [1, 1, 0, 1, 0, 0] code), .inBlock 0, .code (sub [1, 1, 1] code)] ⟨[vQ x3, vQ x4, .dead, .dead, .dead, vI i5] ++ deads 21, []⟩
theorem l4_eq : l4 (k + 1) x3 x4 i5 = if (decide (i5 < (x3.length : Int))) = true then if 0 ≤ i5 ∧ i5 < (x3.length : Int) then if 0 ≤ i5 ∧ i5 < (x4.length : Int) then (laws_eqInt64S.F (x3.getD i5.toNat ([] : LI), x4.getD i5.toNat ([] : LI), ())).bind fun r6 => if (!(r6.1.1 : Bool)) = true then some ((false, ()), ()) else l4 k x3 x4 (IntKind.i64.wrap (i5 + (1 : Int))) else none else none else some ((true, ()), ()) := by kernel_rfl
variable (a_1 b_2 : LL)
noncomputable def T : OB := if ((a_1.length : Int) != (b_2.length : Int)) = true then some ((false, ()), ()) else l4 k a_1 b_2 (0 : Int)
theorem of {r : (Bool × Unit) × (Unit)} (h : Ev (fun k => T k a_1 b_2) r) : F (a_1, b_2, ()) = some r := Ev.run (fun k => by kernel_rfl) h
theorem ok : CtxOK prog ctx := ⟨nilM, mixed_ok, tab_ok tab_good, consM ⟨laws_eqInt64S.S, nilM⟩, nilM, nilM⟩
theorem S : Sound prog ⟨41, sig, F⟩ := sound_k (res := [.tmp 4]) func41 ok
end laws_eqInt64SS
namespace laws_eqComplex
noncomputable def sig : Sig := ⟨[.val true tQ, .val true tQ], [(.val false, .bool, .deep)]⟩
noncomputable def ctx : Ctx := ⟨tabOf tabl, [⟨41, laws_eqInt64SS.sig, laws_eqInt64SS.F⟩], [], [], [], []⟩
noncomputable def cfg : Cfg := ⟨ctx, [], [], fun _ => ([], []), fun _ => []⟩
noncomputable def code : Code := (f14).body.getD .skip
noncomputable def fin := finK ctx sig [.tmp 4]
noncomputable def F (d : LL × LL × Unit) : OB := anyK (runFn cfg fin code (initSt sig.ps d 11))
variable (a_1 b_2 : LL)
noncomputable def T : OB := (laws_eqInt64SS.F (a_1, b_2, ())).bind fun r3 => if (!(r3.1.1 : Bool)) = true then some ((false, ()), ()) else some ((true, ()), ())
theorem eq : F (a_1, b_2, ()) = T a_1 b_2 := eq_any fun k => by kernel_rfl
theorem ok : CtxOK prog ctx := ⟨nilM, mixed_ok, tab_ok tab_good, consM ⟨laws_eqInt64SS.S, nilM⟩, nilM, nilM⟩
theorem S : Sound prog ⟨14, sig, F⟩ := sound_k (res := [.tmp 4]) func14 ok
end laws_eqComplex
namespace laws_eqMatrix
noncomputable def sig : Sig := ⟨[.val true TMatrix, .val true TMatrix], [(.val false, .bool, .deep)]⟩
noncomputable def ctx : Ctx := ⟨tabOf tabl, [⟨21, laws_eqInt64S.sig, laws_eqInt64S.F⟩], [], [], [], []⟩
noncomputable def cfg : Cfg := ⟨ctx, [], [], fun _ => ([], []), fun _ => []⟩
noncomputable def code : Code := (f83).body.getD .skip
noncomputable def fin := finK ctx sig [.tmp 4]
noncomputable def F (d : MX × MX × Unit) : OB := anyK (runFn cfg fin code (initSt sig.ps d 26))
variable (a_1 a_2 a_3 : Int) (a_4 : LI) (b_5 b_6 b_7 : Int) (b_8 : LI)
noncomputable def T : OB := if (a_1 != b_5) = true then some ((false, ()), ()) else if (a_2 != b_6) = true then some ((false, ()), ()) else if (a_3 != b_7) = true then some ((false, ()), ()) else (laws_eqInt64S.F (a_4, b_8, ())).bind fun r9 => if (!(r9.1.1 : Bool)) = true then some ((false, ()), ()) else some ((true, ()), ())
theorem eq : F ((a_1, (a_2, (a_3, a_4))), (b_5, (b_6, (b_7, b_8))), ()) = T a_1 a_2 a_3 a_4 b_5 b_6 b_7 b_8 := eq_any fun k => by kernel_rfl
theorem ok : CtxOK prog ctx := ⟨nilM, mixed_ok, tab_ok tab_good, consM ⟨laws_eqInt64S.S, nilM⟩, nilM, nilM⟩
theorem S : Sound prog ⟨83, sig, F⟩ := sound_k (res := [.tmp 4]) func83 ok
end laws_eqMatrix
namespace laws_eqMatrixS
noncomputable def sig : Sig := ⟨[.val false (.sl TMatrix), .val false (.sl TMatrix)], [(.val false, .bool, .deep)]⟩
noncomputable def ctx : Ctx := ⟨tabOf tabl, [⟨83, laws_eqMatrix.sig, laws_eqMatrix.F⟩], [], [], [], []⟩
noncomputable def cfg : Cfg := ⟨ctx, [], [], fun id => match id with | 4 => ([0, 1, 5], []) | _ => ([], []), fun _ => []⟩
noncomputable def code : Code := (f40).body.getD .skip
noncomputable def fin := finK ctx sig [.tmp 4]
noncomputable def F (d : LM × LM × Unit) : OB := anyK (runFn cfg fin code (initSt sig.ps d 27))
variable (k : Nat) (x3 x4 : LM) (i5 : Int)
noncomputable def l4 : OB := Go.Vm.runT cfg fin k [.inLoop (sub [1, 1, 0, 1, 0, 0] code), .inBlock 0, .code (sub [1, 1, 1] code)] ⟨[.val false [⟨(.sl TMatrix), .sh, x3⟩], .val false [⟨(.sl TMatrix), .sh, x4⟩], .dead, .dead, .dead, vI i5] ++ deads 21, []⟩
theorem l4_eq : l4 (k + 1) x3 x4 i5 = if (decide (i5 < (x3.length : Int))) = true then if 0 ≤ i5 ∧ i5 < (x3.length : Int) then if 0 ≤ i5 ∧ i5 < (x4.length : Int) then (laws_eqMatrix.F (x3.getD i5.toNat (0, 0, 0, ([] : LI)), x4.getD i5.toNat (0, 0, 0, ([] : LI)), ())).bind fun r6 => if (!(r6.1.1 : Bool)) = true then some ((false, ()), ()) else l4 k x3 x4 (IntKind.i64.wrap (i5 + (1 : Int))) else none else none else some ((true, ()), ()) := by kernel_rfl
variable (a_1 b_2 : LM)
noncomputable def T : OB := if ((a_1.length : Int) != (b_2.length : Int)) = true then some ((false, ()), ()) else l4 k a_1 b_2 (0 : Int)
theorem of {r : (Bool × Unit) × (Unit)} (h : Ev (fun k => T k a_1 b_2) r) : F (a_1, b_2, ()) = some r := Ev.run (fun k => by kernel_rfl) h
theorem ok : CtxOK prog ctx := ⟨nilM, mixed_ok, tab_ok tab_good, consM ⟨laws_eqMatrix.S, nilM⟩, nilM, nilM⟩
theorem S : Sound prog ⟨40, sig, F⟩ := sound_k (res := [.tmp 4]) func40 ok
end laws_eqMatrixS
namespace laws_eqSheaf
noncomputable def sig : Sig := ⟨[.val true TSheaf, .val true TSheaf], [(.val false, .bool, .deep)]⟩
noncomputable def ctx : Ctx := ⟨tabOf tabl, [⟨14, laws_eqComplex.sig, laws_eqComplex.F⟩, ⟨21, laws_eqInt64S.sig, laws_eqInt64S.F⟩, ⟨40, laws_eqMatrixS.sig, laws_eqMatrixS.F⟩], [], [], [], []⟩
noncomputable def cfg : Cfg := ⟨ctx, [], [], fun _ => ([], []), fun _ => []⟩
noncomputable def code : Code := (f13).body.getD .skip
noncomputable def fin := finK ctx sig [.tmp 4]
noncomputable def F (d : SF × SF × Unit) : OB := anyK (runFn cfg fin code (initSt sig.ps d 28))
variable (a_1 : LL) (a_2 : Int) (a_3 : LI) (a_4 : LM) (b_5 : LL) (b_6 : Int) (b_7 : LI) (b_8 : LM)
noncomputable def T : OB := (laws_eqComplex.F (a_1, b_5, ())).bind fun r9 => if (!(r9.1.1 : Bool)) = true then some ((false, ()), ()) else if (a_2 != b_6) = true then some ((false, ()), ()) else (laws_eqInt64S.F (a_3, b_7, ())).bind fun r10 => if (!(r10.1.1 : Bool)) = true then some ((false, ()), ()) else (laws_eqMatrixS.F (a_4, b_8, ())).bind fun r11 => if (!(r11.1.1 : Bool)) = true then some ((false, ()), ()) else some ((true, ()), ())
theorem eq : F ((a_1, (a_2, (a_3, a_4))), (b_5, (b_6, (b_7, b_8))), ()) = T a_1 a_2 a_3 a_4 b_5 b_6 b_7 b_8 := eq_any fun k => by kernel_rfl
theorem ok : CtxOK prog ctx := ⟨nilM, mixed_ok, tab_ok tab_good, consM ⟨laws_eqComplex.S, consM ⟨laws_eqInt64S.S, consM ⟨laws_eqMatrixS.S, nilM⟩⟩⟩, nilM, nilM⟩
theorem S : Sound prog ⟨13, sig, F⟩ := sound_k (res := [.tmp 4]) func13 ok
end laws_eqSheaf
namespace laws_markInt64S
noncomputable def sig : Sig := ⟨[.wr false tL .deep, .val false tI], [(.val false, tI, .deep)]⟩
noncomputable def ctx : Ctx := ⟨tabOf tabl, [], [], [], [], []⟩
noncomputable def cfg : Cfg := ⟨ctx, [0], [], fun id => match id with | 2 => ([0, 1, 5], [0]) | _ => ([], []), fun _ => []⟩
noncomputable def code : Code := (f22).body.getD .skip
noncomputable def fin := finK ctx sig [.tmp 4]
noncomputable def F (d : LI × Int × Unit) : Option ((Int × Unit) × (LI × Unit)) := anyK (runFn cfg fin code (initSt sig.ps d 19))
variable (k : Nat) (i3 i4 : Int) (x5 : LI)
noncomputable def l2 : Option ((Int × Unit) × (LI × Unit)) := Go.Vm.runT cfg fin k [.inLoop (sub [1, 0, 1, 0, 0] code), .inBlock 0, .code (sub [1, 1] code)] ⟨[.view 0 (.root 0) 1 false, vI i3, .dead, .dead, .dead, vI i4] ++ deads 13, [(0, ⟨false, [dL x5]⟩)]⟩
theorem l2_eq : l2 (k + 1) i3 i4 x5 = if (decide (i4 < (x5.length : Int))) = true then if 0 ≤ i4 ∧ i4 < (x5.length : Int) then l2 k (IntKind.i64.wrap (i3 + (1 : Int))) (IntKind.i64.wrap (i4 + (1 : Int))) (x5.set i4.toNat i3) else none else some ((i3, ()), (x5, ())) := by kernel_rfl
variable (a_1 : LI) (k_2 : Int)
noncomputable def T : Option ((Int × Unit) × (LI × Unit)) := l2 k k_2 (0 : Int) a_1
theorem of {r : (Int × Unit) × (LI × Unit)} (h : Ev (fun k => T k a_1 k_2) r) : F (a_1, k_2, ()) = some r := Ev.run (fun k => by kernel_rfl) h
theorem ok : CtxOK prog ctx := ⟨nilM, mixed_ok, tab_ok tab_good, nilM, nilM, nilM⟩
theorem S : Sound prog ⟨22, sig, F⟩ := sound_k (res := [.tmp 4]) func22 ok
end laws_markInt64S
namespace laws_markInt64SS
noncomputable def sig : Sig := ⟨[.wr false tQ .deep, .val false tI], [(.val false, tI, .deep)]⟩
noncomputable def ctx : Ctx := ⟨tabOf tabl, [⟨22, laws_markInt64S.sig, laws_markInt64S.F⟩], [], [], [], []⟩
noncomputable def cfg : Cfg := ⟨ctx, [0], [], fun id => match id with | 2 => ([0, 1, 5], [0]) | _ => ([], []), fun _ => []⟩
noncomputable def code : Code := (f43).body.getD .skip
noncomputable def fin := finK ctx sig [.tmp 4]
noncomputable def F (d : LL × Int × Unit) : Option ((Int × Unit) × (LL × Unit)) := anyK (runFn cfg fin code (initSt sig.ps d 19))
variable (k : Nat) (i3 i4 : Int) (x5 : LL)
noncomputable def l2 : Option ((Int × Unit) × (LL × Unit)) := Go.Vm.runT cfg fin k [.inLoop (sub [1, 0, 1, 0, 0] code), .inBlock 0, .code (sub [1, 1] code)] ⟨[.view 0 (.root 0) 1 false, vI i3, .dead, .dead, .dead, vI i4] ++ deads 13, [(0, ⟨false, [dQ x5]⟩)]⟩
theorem l2_eq : l2 (k + 1) i3 i4 x5 = if (decide (i4 < (x5.length : Int))) = true then if 0 ≤ i4 ∧ i4 < (x5.length : Int) then (laws_markInt64S.F (x5.getD i4.toNat ([] : LI), i3, ())).bind fun r6 => l2 k (r6.1.1 : Int) (IntKind.i64.wrap (i4 + (1 : Int))) (x5.set i4.toNat r6.2.1) else none else some ((i3, ()), (x5, ())) := by kernel_rfl
variable (a_1 : LL) (k_2 : Int)
noncomputable def T : Option ((Int × Unit) × (LL × Unit)) := l2 k k_2 (0 : Int) a_1
theorem of {r : (Int × Unit) × (LL × Unit)} (h : Ev (fun k => T k a_1 k_2) r) : F (a_1, k_2, ()) = some r := Ev.run (fun k => by kernel_rfl) h
theorem ok : CtxOK prog ctx := ⟨nilM, mixed_ok, tab_ok tab_good, consM ⟨laws_markInt64S.S, nilM⟩, nilM, nilM⟩
theorem S : Sound prog ⟨43, sig, F⟩ := sound_k (res := [.tmp 4]) func43 ok
end laws_markInt64SS
namespace laws_markComplex
noncomputable def sig : Sig := ⟨[.wr true tQ .deep, .val false tI], [(.val false, tI, .deep)]⟩
noncomputable def ctx : Ctx := ⟨tabOf tabl, [⟨43, laws_markInt64SS.sig, laws_markInt64SS.F⟩], [], [], [], []⟩
noncomputable def cfg : Cfg := ⟨ctx, [0], [], fun _ => ([], []), fun _ => []⟩
noncomputable def code : Code := (f16).body.getD .skip
noncomputable def fin := finK ctx sig [.tmp 4]
noncomputable def F (d : LL × Int × Unit) : Option ((Int × Unit) × (LL × Unit)) := anyK (runFn cfg fin code (initSt sig.ps d 10))
variable (a_1 : LL) (k_2 : Int)
noncomputable def T : Option ((Int × Unit) × (LL × Unit)) := (laws_markInt64SS.F (a_1, k_2, ())).bind fun r3 => some (((r3.1.1 : Int), ()), (r3.2.1, ()))
theorem eq : F (a_1, k_2, ()) = T a_1 k_2 := eq_any fun k => by kernel_rfl
theorem ok : CtxOK prog ctx := ⟨nilM, mixed_ok, tab_ok tab_good, consM ⟨laws_markInt64SS.S, nilM⟩, nilM, nilM⟩
theorem S : Sound prog ⟨16, sig, F⟩ := sound_k (res := [.tmp 4]) func16 ok
end laws_markComplex
namespace laws_markMatrixS
noncomputable def sig : Sig := ⟨[.wr false (.sl TMatrix) .deep, .val false tI], [(.val false, tI, .deep)]⟩
noncomputable def ctx : Ctx := ⟨tabOf tabl, [⟨22, laws_markInt64S.sig, laws_markInt64S.F⟩], [], [], [], []⟩
noncomputable def cfg : Cfg := ⟨ctx, [0], [], fun id => match id with | 2 => ([0, 1, 5], [0]) | _ => ([], []), fun _ => []⟩
noncomputable def code : Code := (f42).body.getD .skip
noncomputable def fin := finK ctx sig [.tmp 4]
noncomputable def F (d : LM × Int × Unit) : Option ((Int × Unit) × (LM × Unit)) := anyK (runFn cfg fin code (initSt sig.ps d 41))
variable (k : Nat) (i3 i4 : Int) (x5 : LM)
noncomputable def l2 : Option ((Int × Unit) × (LM × Unit)) := Go.Vm.runT cfg fin k [.inLoop (sub [1, 0, 1, 0, 0] code), .inBlock 0, .code (sub [1, 1] code)] ⟨[.view 0 (.root 0) 1 false, vI i3, .dead, .dead, .dead, vI i4] ++ deads 35, [(0, ⟨false, [⟨(.sl TMatrix), .deep, x5⟩]⟩)]⟩
theorem l2_eq : l2 (k + 1) i3 i4 x5 = if (decide (i4 < (x5.length : Int))) = true then if 0 ≤ i4 ∧ i4 < (x5.length : Int) then if 0 ≤ i4 ∧ i4 < ((x5.set i4.toNat (i3, (x5.getD i4.toNat (0, 0, 0, ([] : LI))).2)).length : Int) then let y6 : LM := (x5.set i4.toNat (i3, (x5.getD i4.toNat (0, 0, 0, ([] : LI))).2)).set i4.toNat (((x5.set i4.toNat (i3, (x5.getD i4.toNat (0, 0, 0, ([] : LI))).2)).getD i4.toNat (0, 0, 0, ([] : LI))).1, (IntKind.i64.wrap (i3 + (1 : Int)), (((x5.set i4.toNat (i3, (x5.getD i4.toNat (0, 0, 0, ([] : LI))).2)).getD i4.toNat (0, 0, 0, ([] : LI))).2).2)); if 0 ≤ i4 ∧ i4 < (y6.length : Int) then let y7 : LM := y6.set i4.toNat ((y6.getD i4.toNat (0, 0, 0, ([] : LI))).1, (((y6.getD i4.toNat (0, 0, 0, ([] : LI))).2).1, (IntKind.i64.wrap ((IntKind.i64.wrap (i3 + (1 : Int))) + (1 : Int)), (((y6.getD i4.toNat (0, 0, 0, ([] : LI))).2).2).2))); if 0 ≤ i4 ∧ i4 < (y7.length : Int) then (laws_markInt64S.F ((((y7.getD i4.toNat (0, 0, 0, ([] : LI))).2).2).2, IntKind.i64.wrap ((IntKind.i64.wrap ((IntKind.i64.wrap (i3 + (1 : Int))) + (1 : Int))) + (1 : Int)), ())).bind fun r8 => l2 k (r8.1.1 : Int) (IntKind.i64.wrap (i4 + (1 : Int))) (y7.set i4.toNat ((y7.getD i4.toNat (0, 0, 0, ([] : LI))).1, (((y7.getD i4.toNat (0, 0, 0, ([] : LI))).2).1, ((((y7.getD i4.toNat (0, 0, 0, ([] : LI))).2).2).1, r8.2.1)))) else none else none else none else none else some ((i3, ()), (x5, ())) := by kernel_rfl
variable (a_1 : LM) (k_2 : Int)
noncomputable def T : Option ((Int × Unit) × (LM × Unit)) := l2 k k_2 (0 : Int) a_1
theorem of {r : (Int × Unit) × (LM × Unit)} (h : Ev (fun k => T k a_1 k_2) r) : F (a_1, k_2, ()) = some r := Ev.run (fun k => by kernel_rfl) h
theorem ok : CtxOK prog ctx := ⟨nilM, mixed_ok, tab_ok tab_good, consM ⟨laws_markInt64S.S, nilM⟩, nilM, nilM⟩
theorem S : Sound prog ⟨42, sig, F⟩ := sound_k (res := [.tmp 4]) func42 ok
end laws_markMatrixS
namespace laws_markSheaf
noncomputable def sig : Sig := ⟨[.wr true TSheaf .deep, .val false tI], [(.val false, tI, .deep)]⟩
noncomputable def ctx : Ctx := ⟨tabOf tabl, [⟨16, laws_markComplex.sig, laws_markComplex.F⟩, ⟨22, laws_markInt64S.sig, laws_markInt64S.F⟩, ⟨42, laws_markMatrixS.sig, laws_markMatrixS.F⟩], [], [], [], []⟩
noncomputable def cfg : Cfg := ⟨ctx, [0], [], fun _ => ([], []), fun _ => []⟩
noncomputable def code : Code := (f15).body.getD .skip
noncomputable def fin := finK ctx sig [.tmp 4]
noncomputable def F (d : SF × Int × Unit) : Option ((Int × Unit) × (SF × Unit)) := anyK (runFn cfg fin code (initSt sig.ps d 18))
variable (a_1 : LL) (a_2 : Int) (a_3 : LI) (a_4 : LM) (k_5 : Int)
noncomputable def T : Option ((Int × Unit) × (SF × Unit)) := (laws_markComplex.F (a_1, k_5, ())).bind fun r6 => (laws_markInt64S.F (a_3, (r6.1.1 : Int), ())).bind fun r7 => (laws_markMatrixS.F (a_4, (r7.1.1 : Int), ())).bind fun r8 => some (((r8.1.1 : Int), ()), ((r6.2.1, (a_2, (r7.2.1, r8.2.1))), ()))
theorem eq : F ((a_1, (a_2, (a_3, a_4))), k_5, ()) = T a_1 a_2 a_3 a_4 k_5 := eq_any fun k => by kernel_rfl
theorem ok : CtxOK prog ctx := ⟨nilM, mixed_ok, tab_ok tab_good, consM ⟨laws_markComplex.S, consM ⟨laws_markInt64S.S, consM ⟨laws_markMatrixS.S, nilM⟩⟩⟩, nilM, nilM⟩
theorem S : Sound prog ⟨15, sig, F⟩ := sound_k (res := [.tmp 4]) func15 ok
end laws_markSheaf
namespace laws_heldInt64S
noncomputable def sig : Sig := ⟨[.val false tL, .val false tI], [(.val false, tI, .deep)]⟩
noncomputable def ctx : Ctx := ⟨tabOf tabl, [], [], [], [], []⟩
noncomputable def cfg : Cfg := ⟨ctx, [], [], fun id => match id with | 2 => ([0, 1, 5], []) | _ => ([], []), fun _ => []⟩
noncomputable def code : Code := (f23).body.getD .skip
noncomputable def fin := finK ctx sig [.tmp 4]
noncomputable def F (d : LI × Int × Unit) : OI := anyK (runFn cfg fin code (initSt sig.ps d 21))
variable (k : Nat) (x3 : LI) (i4 i5 : Int)
noncomputable def l2 : OI := Go.Vm.runT cfg fin k [.inLoop (sub [1, 0, 1, 0, 0] code), .inBlock 0, .code (sub [1, 1] code)] ⟨[vL x3, vI i4, .dead, .dead, .dead, vI i5] ++ deads 15, []⟩
theorem l2_eq : l2 (k + 1) x3 i4 i5 = if (decide (i5 < (x3.length : Int))) = true then if 0 ≤ i5 ∧ i5 < (x3.length : Int) then if ((x3.getD i5.toNat 0 : Int) != i4) = true then some (((-1 : Int), ()), ()) else l2 k x3 (IntKind.i64.wrap (i4 + (1 : Int))) (IntKind.i64.wrap (i5 + (1 : Int))) else none else some ((i4, ()), ()) := by kernel_rfl
variable (a_1 : LI) (k_2 : Int)
noncomputable def T : OI := l2 k a_1 k_2 (0 : Int)
theorem of {r : (Int × Unit) × (Unit)} (h : Ev (fun k => T k a_1 k_2) r) : F (a_1, k_2, ()) = some r := Ev.run (fun k => by kernel_rfl) h
theorem ok : CtxOK prog ctx := ⟨nilM, mixed_ok, tab_ok tab_good, nilM, nilM, nilM⟩
theorem S : Sound prog ⟨23, sig, F⟩ := sound_k (res := [.tmp 4]) func23 ok
end laws_heldInt64S
namespace laws_heldInt64SS
noncomputable def sig : Sig := ⟨[.val false tQ, .val false tI], [(.val false, tI, .deep)]⟩
noncomputable def ctx : Ctx := ⟨tabOf tabl, [⟨23, laws_heldInt64S.sig, laws_heldInt64S.F⟩], [], [], [], []⟩
noncomputable def cfg : Cfg := ⟨ctx, [], [], fun id => match id with | 2 => ([0, 1, 5], []) | _ => ([], []), fun _ => []⟩
noncomputable def code : Code := (f84).body.getD .skip
noncomputable def fin := finK ctx sig [.tmp 4]
noncomputable def F (d : LL × Int × Unit) : OI := anyK (runFn cfg fin code (initSt sig.ps d 21))
variable (k : Nat) (x3 : LL) (i4 i5 : Int)
noncomputable def l2 : OI := Go.Vm.runT cfg fin k [.inLoop (sub [1, 0, 1, 0, 0] code), .inBlock 0, .code (sub [1, 1] code)] ⟨[vQ x3, vI i4, .dead, .dead, .dead, vI i5] ++ deads 15, []⟩
theorem l2_eq : l2 (k + 1) x3 i4 i5 = if (decide (i5 < (x3.length : Int))) = true then if 0 ≤ i5 ∧ i5 < (x3.length : Int) then (laws_heldInt64S.F (x3.getD i5.toNat ([] : LI), i4, ())).bind fun r6 => if (decide ((r6.1.1 : Int) < (0 : Int))) = true then some (((-1 : Int), ()), ()) else l2 k x3 (r6.1.1 : Int) (IntKind.i64.wrap (i5 + (1 : Int))) else none else some ((i4, ()), ()) := by kernel_rfl
variable (a_1 : LL) (k_2 : Int)
noncomputable def T : OI := l2 k a_1 k_2 (0 : Int)
theorem of {r : (Int × Unit) × (Unit)} (h : Ev (fun k => T k a_1 k_2) r) : F (a_1, k_2, ()) = some r := Ev.run (fun k => by kernel_rfl) h
theorem ok : CtxOK prog ctx := ⟨nilM, mixed_ok, tab_ok tab_good, consM ⟨laws_heldInt64S.S, nilM⟩, nilM, nilM⟩
theorem S : Sound prog ⟨84, sig, F⟩ := sound_k (res := [.tmp 4]) func84 ok
end laws_heldInt64SS
namespace laws_heldComplex
noncomputable def sig : Sig := ⟨[.val true tQ, .val false tI], [(.val false, tI, .deep)]⟩
noncomputable def ctx : Ctx := ⟨tabOf tabl, [⟨84, laws_heldInt64SS.sig, laws_heldInt64SS.F⟩], [], [], [], []⟩
noncomputable def cfg : Cfg := ⟨ctx, [], [], fun _ => ([], []), fun _ => []⟩
noncomputable def code : Code := (f44).body.getD .skip
noncomputable def fin := finK ctx sig [.tmp 4]
noncomputable def F (d : LL × Int × Unit) : OI := anyK (runFn cfg fin code (initSt sig.ps d 12))
variable (a_1 : LL) (k_2 : Int)
noncomputable def T : OI := (laws_heldInt64SS.F (a_1, k_2, ())).bind fun r3 => if (decide ((r3.1.1 : Int) < (0 : Int))) = true then some (((-1 : Int), ()), ()) else some (((r3.1.1 : Int), ()), ())
theorem eq : F (a_1, k_2, ()) = T a_1 k_2 := eq_any fun k => by kernel_rfl
theorem ok : CtxOK prog ctx := ⟨nilM, mixed_ok, tab_ok tab_good, consM ⟨laws_heldInt64SS.S, nilM⟩, nilM, nilM⟩
theorem S : Sound prog ⟨44, sig, F⟩ := sound_k (res := [.tmp 4]) func44 ok
end laws_heldComplex
namespace laws_heldMatrixS
noncomputable def sig : Sig := ⟨[.val false (.sl TMatrix), .val false tI], [(.val false, tI, .deep)]⟩
noncomputable def ctx : Ctx := ⟨tabOf tabl, [⟨23, laws_heldInt64S.sig, laws_heldInt64S.F⟩], [], [], [], []⟩
noncomputable def cfg : Cfg := ⟨ctx, [], [], fun id => match id with | 2 => ([0, 1, 5], []) | _ => ([], []), fun _ => []⟩
noncomputable def code : Code := (f45).body.getD .skip
noncomputable def fin := finK ctx sig [.tmp 4]
noncomputable def F (d : LM × Int × Unit) : OI := anyK (runFn cfg fin code (initSt sig.ps d 49))
variable (k : Nat) (x3 : LM) (i4 i5 : Int)
noncomputable def l2 : OI := Go.Vm.runT cfg fin k [.inLoop (sub [1, 0, 1, 0, 0] code), .inBlock 0, .code (sub [1, 1] code)] ⟨[.val false [⟨(.sl TMatrix), .sh, x3⟩], vI i4, .dead, .dead, .dead, vI i5] ++ deads 43, []⟩
theorem l2_eq : l2 (k + 1) x3 i4 i5 = if (decide (i5 < (x3.length : Int))) = true then if 0 ≤ i5 ∧ i5 < (x3.length : Int) then if (((x3.getD i5.toNat (0, 0, 0, ([] : LI))).1) != i4) = true then some (((-1 : Int), ()), ()) else if 0 ≤ i5 ∧ i5 < (x3.length : Int) then if ((((x3.getD i5.toNat (0, 0, 0, ([] : LI))).2).1) != (IntKind.i64.wrap (i4 + (1 : Int)))) = true then some (((-1 : Int), ()), ()) else if 0 ≤ i5 ∧ i5 < (x3.length : Int) then if (((((x3.getD i5.toNat (0, 0, 0, ([] : LI))).2).2).1) != (IntKind.i64.wrap ((IntKind.i64.wrap (i4 + (1 : Int))) + (1 : Int)))) = true then some (((-1 : Int), ()), ()) else if 0 ≤ i5 ∧ i5 < (x3.length : Int) then (laws_heldInt64S.F ((((x3.getD i5.toNat (0, 0, 0, ([] : LI))).2).2).2, IntKind.i64.wrap ((IntKind.i64.wrap ((IntKind.i64.wrap (i4 + (1 : Int))) + (1 : Int))) + (1 : Int)), ())).bind fun r6 => if (decide ((r6.1.1 : Int) < (0 : Int))) = true then some (((-1 : Int), ()), ()) else l2 k x3 (r6.1.1 : Int) (IntKind.i64.wrap (i5 + (1 : Int))) else none else none else none else none else some ((i4, ()), ()) := by kernel_rfl
variable (a_1 : LM) (k_2 : Int)
noncomputable def T : OI := l2 k a_1 k_2 (0 : Int)
theorem of {r : (Int × Unit) × (Unit)} (h : Ev (fun k => T k a_1 k_2) r) : F (a_1, k_2, ()) = some r := Ev.run (fun k => by kernel_rfl) h
theorem ok : CtxOK prog ctx := ⟨nilM, mixed_ok, tab_ok tab_good, consM ⟨laws_heldInt64S.S, nilM⟩, nilM, nilM⟩
theorem S : Sound prog ⟨45, sig, F⟩ := sound_k (res := [.tmp 4]) func45 ok
end laws_heldMatrixS
namespace laws_heldSheaf
noncomputable def sig : Sig := ⟨[.val true TSheaf, .val false tI], [(.val false, tI, .deep)]⟩
noncomputable def ctx : Ctx := ⟨tabOf tabl, [⟨23, laws_heldInt64S.sig, laws_heldInt64S.F⟩, ⟨44, laws_heldComplex.sig, laws_heldComplex.F⟩, ⟨45, laws_heldMatrixS.sig, laws_heldMatrixS.F⟩], [], [], [], []⟩
noncomputable def cfg : Cfg := ⟨ctx, [], [], fun _ => ([], []), fun _ => []⟩
noncomputable def code : Code := (f17).body.getD .skip
noncomputable def fin := finK ctx sig [.tmp 4]
noncomputable def F (d : SF × Int × Unit) : OI := anyK (runFn cfg fin code (initSt sig.ps d 24))
noncomputable def T (a_1 : LL) (a_2 : Int) (a_3 : LI) (a_4 : LM) (k_5 : Int) : OI := (laws_heldComplex.F (a_1, k_5, ())).bind fun r6 => if (decide ((r6.1.1 : Int) < (0 : Int))) = true then some (((-1 : Int), ()), ()) else (laws_heldInt64S.F (a_3, (r6.1.1 : Int), ())).bind fun r7 => if (decide ((r7.1.1 : Int) < (0 : Int))) = true then some (((-1 : Int), ()), ()) else (laws_heldMatrixS.F (a_4, (r7.1.1 : Int), ())).bind fun r8 => if (decide ((r8.1.1 : Int) < (0 : Int))) = true then some (((-1 : Int), ()), ()) else some (((r8.1.1 : Int), ()), ())
theorem eq (a_1 : LL) (a_2 : Int) (a_3 : LI) (a_4 : LM) (k_5 : Int) : F ((a_1, (a_2, (a_3, a_4))), k_5, ()) = T a_1 a_2 a_3 a_4 k_5 := eq_any fun k => by kernel_rfl
theorem ok : CtxOK prog ctx := ⟨nilM, mixed_ok, tab_ok tab_good, consM ⟨laws_heldInt64S.S, consM ⟨laws_heldComplex.S, consM ⟨laws_heldMatrixS.S, nilM⟩⟩⟩, nilM, nilM⟩
theorem S : Sound prog ⟨17, sig, F⟩ := sound_k (res := [.tmp 4]) func17 ok
end laws_heldSheaf
end Go.Proofs.YtanmmcfiogamfaaGreat
